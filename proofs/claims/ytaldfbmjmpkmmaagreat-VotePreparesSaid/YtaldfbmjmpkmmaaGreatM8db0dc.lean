/- Texts of this proof, one behind the other (merged by a program of this session). -/
import Derived.Test.YtaldfbmjmpkmmaaGreatM90dfe3
import Derived.Test.YtaldfbmjmpkmmaaGreatHShP
namespace Go.Proofs.YtaldfbmjmpkmmaaGreat.PL
open Go.RowKit Go.Proofs.YtaldfbmjmpkmmaaGreatW.PrintWords Go.Proofs.YtaldfbmjmpkmmaaGreatW.PrintLast Go.Proofs.YtaldfbmjmpkmmaaGreatW.PrintMore Go.Shelf Go.Sort
set_option linter.unusedVariables false
set_option linter.unusedSimpArgs false
/-- slices.Grow of nil. -/
theorem grow_walk (w : World) (n : Nat) (h0 : 0 < n) (hn : n ≤ 8192) :
 Calls Tryz.prog 134 #[.slice none 0 0, .int .i64 (n : Int)] w fun e w' => ∃ v, e = .returned v ∧ Kd.R k43 43 w' w.heap.size (fun _ => True) v [] ∧ Below w.heap.size w w' := by
 obtain ⟨i0, hi0, hz0, hsz, hby⟩ := info_parts infoV
 have hcon := Any8.slices_Grow_grow Tryz.growV i0 (.agg #[.int .i64 0, .string ⟨#[]⟩, .bool false]) hi0 hz0 (by omega) none 0 0 n [] w (Nat.le_refl _) (by omega) (by rw [hby]; omega) (by omega) (by simp) (fun _ => rfl) (fun a h => by cases h)
 refine hcon.mono ?_
 rintro e w' ⟨rfl, rfl⟩
 have hcap := grownCap_ge w (0 + n) 0 43
 refine ⟨_, rfl, ⟨fun k hk => trivial, [], ⟨by simp, .inr ⟨w.heap.size, _, _, rfl, Nat.le_refl _, blk_new _ _, Nat.zero_le _, ?_, ?_, by simp⟩⟩, Reps.none _ _⟩, ?_⟩
 ·have h8 : (8192 : Nat) ≤ maxLen := by decide
  exact grownCap_le_maxLen w (0 + n) 0 43 (by omega)
 ·show _ = grownCap w (0 + n) 0 43 * 3
  show (_ ++ Builtin.zeroCells _ (grownCap w (0 + n) 0 43 - (0 + n))).size = _
  generalize grownCap w (0 + n) 0 43 = cap at *
  simp [Builtin.zeroCells, Value.cells]
  omega
 ·exact below_alloc (below_drew (Below.refl _ w)) _
/-- The two chains' lengths, and the chains, up to the k-th. -/
def upLen (l m : Chain) : Nat → Nat
 | 0 => 0
 | 1 => l.length
 | _ => l.length + m.length
def upTo (l m : Chain) : Nat → Chain
 | 0 => []
 | 1 => l
 | _ => l ++ m
set_option maxRecDepth 100000 in
set_option maxHeartbeats 2000000 in
theorem concat_walk (w : World) (g : Nat) (A A2 : Option Addr) (c c2 : Nat) (l m : Chain) (hg0 : w.cell? ⟨g, 0, none⟩ = some (.slice A l.length c)) (hg1 : w.cell? ⟨g, 1, none⟩ = some (.slice A2 m.length c2)) (hr : Kd.C k43 w A l.length l) (hr2 : Kd.C k43 w A2 m.length m) (hl : l.length ≤ 1024) (hm : m.length ≤ 1024) (hm0 : 0 < m.length) :
 Calls Tryz.prog 111 #[.slice (some ⟨g, 0, none⟩) 2 2] w fun e w' => ∃ v, e = .returned v ∧ Kd.R k43 43 w' w.heap.size (fun _ => True) v (l ++ m) ∧ Below w.heap.size w w' := by
 have HG := Aside0.mk (And.intro hg0 hg1)
 have HR := Aside0.mk (And.intro hr hr2)
 have hs0 : upLen l m 0 = 0 := rfl
 have hs1 : upLen l m 1 = l.length := rfl
 have hs2 : upLen l m 2 = l.length + m.length := rfl
 clear hg0 hg1 hr hr2
 go_enter Tryz.func111, Tryz.ntmps111
 go_wp2
 go_loopw [3, 11] (fun v3 i wr => ∃ k : Nat, k ≤ 2 ∧ i = .int .i64 (k : Int) ∧ v3 = .int .i64 ((upLen l m k : Nat) : Int) ∧ Aside0 (Below w.heap.size w wr)) (fun _ i _ => 2 - (intOf i).toNat)
 case atStart => exact ⟨0, by omega, rfl, rfl, ⟨Below.refl _ _⟩⟩
 case round =>
  obtain ⟨k, hk, rfl, rfl, HB⟩ := hrel
  have q0 := (HB.out.cell (p := ⟨g, 0, none⟩) (World.block_lt_of_cell? w _ HG.out.1)).trans HG.out.1
  have q1 := (HB.out.cell (p := ⟨g, 1, none⟩) (World.block_lt_of_cell? w _ HG.out.2)).trans HG.out.2
  match k, hk with
  | 0, _ =>
   rw [hs0]
   go_wp2_with fail
   go_roundw
   case rel => exact ⟨1, by omega, by go_num, by first | (rw [hs1]; done) | (rw [hs1]; go_num) | (rw [hs1]; rfl), HB⟩
   case measure => simp [intOf]
  | 1, _ =>
   rw [hs1]
   go_wp2_with fail
   go_roundw
   case rel => exact ⟨2, by omega, by go_num, by first | (rw [hs2]; done) | (rw [hs2]; go_num) | (rw [hs2]; rfl), HB⟩
   case measure => simp [intOf]
  | 2, _ =>
   rw [hs2]
   have hgw := grow_walk wr (l.length + m.length) (by omega) (by omega)
   rw [show (((l.length + m.length : Nat)) : Int) = (l.length : Int) + (m.length : Int) by omega] at hgw ⊢
   have HGW := Aside0.mk hgw
   clear hgw
   go_wp2_with fail
   refine HGW.out.mono ?_
   rintro e w2 ⟨v, rfl, hv, hb2⟩
   have HB2 : Aside0 (Below w.heap.size w w2) := ⟨HB.out.trans (hb2.mono HB.out.size)⟩
   have HV2 := Aside0.mk (Kd.R_lower hv HB.out.size)
   clear hv hb2 q0 q1
   go_wp2_with fail
   go_loopw [6, 27] (fun v6 i wz => ∃ k : Nat, k ≤ 2 ∧ i = .int .i64 (k : Int) ∧ Aside0 (Kd.R k43 43 wz w.heap.size (fun _ => True) v6 (upTo l m k)) ∧ Aside0 (Below w.heap.size w wz)) (fun _ i _ => 2 - (intOf i).toNat)
   case atStart => exact ⟨0, by omega, rfl, HV2, HB2⟩
   case round =>
    obtain ⟨k, hk, rfl, HV, HBZ⟩ := hrel
    generalize u6 = v at *
    have q0 := (HBZ.out.cell (p := ⟨g, 0, none⟩) (World.block_lt_of_cell? w _ HG.out.1)).trans HG.out.1
    have q1 := (HBZ.out.cell (p := ⟨g, 1, none⟩) (World.block_lt_of_cell? w _ HG.out.2)).trans HG.out.2
    match k, hk with
    | 0, _ =>
     go_wp2_with (first | ((with_reducible refine gate_builtin (b := .append) (xs := #[.tmp 31, .tmp 32]) rfl ?_); at_builtin; refine Kd.R_append_rows k43 (w0 := w) w.heap.size rfl (.tmp 31) (.tmp 32) 74 43 (.agg #[.int .i64 0, .string ⟨#[]⟩, .bool false]) 32 rfl Tryz.underlying74 infoV rfl (by decide) (by omega) v (upTo l m 0) l A l.length c (fun _ => True) (fun _ => False) rfl rfl HV.out (Kd.C_below HR.out.1 HBZ.out) (fun _ _ h => h) (fun _ h => h.elim) (fun _ _ => trivial) HBZ.out HBZ.out.size (by simp only [upTo, List.length_nil]; omega) ?_; intro v1 w3 ho hb hg hat; have HV3 := Aside0.mk ho; have HB3 := Aside0.mk hb; clear ho hb hg hat))
     go_roundw
     case rel => exact ⟨1, by omega, by go_num, ⟨by simpa [upTo] using HV3.out⟩, HB3⟩
     case measure => simp [intOf]
    | 1, _ =>
     go_wp2_with (first | ((with_reducible refine gate_builtin (b := .append) (xs := #[.tmp 31, .tmp 32]) rfl ?_); at_builtin; refine Kd.R_append_rows k43 (w0 := w) w.heap.size rfl (.tmp 31) (.tmp 32) 74 43 (.agg #[.int .i64 0, .string ⟨#[]⟩, .bool false]) 32 rfl Tryz.underlying74 infoV rfl (by decide) (by omega) v (upTo l m 1) m A2 m.length c2 (fun _ => True) (fun _ => False) rfl rfl HV.out (Kd.C_below HR.out.2 HBZ.out) (fun _ _ h => h) (fun _ h => h.elim) (fun _ _ => trivial) HBZ.out HBZ.out.size (by simp only [upTo, List.length_nil]; omega) ?_; intro v1 w3 ho hb hg hat; have HV3 := Aside0.mk ho; have HB3 := Aside0.mk hb; clear ho hb hg hat))
     go_roundw
     case rel => exact ⟨2, by omega, by go_num, ⟨by simpa [upTo] using HV3.out⟩, HB3⟩
     case measure => simp [intOf]
    | 2, _ =>
     go_wp2
     go_ret
     exact ⟨_, rfl, HV.out, HBZ.out⟩
theorem chain_one {v : Ver} (h : VerOk v) : ChainOk [v] := ⟨by simp, fun u hu => by rw [List.mem_singleton.1 hu]; exact h, by simp⟩
set_option maxRecDepth 100000 in
set_option maxHeartbeats 4000000 in
theorem add_walk (w : World) (A : Option Addr) (c : Nat) (l : Chain) (v : Ver) (hr : Kd.C k43 w A l.length l) (hc : l.length ≤ c) (h : ChainOk l) (hv : VerOk v) (hl : l.length < 1024) (ht : lastV l < v.f0) :
 Calls Tryz.prog 81 #[.slice A l.length c, .agg #[.int .i64 v.f0, .string v.f1, .bool v.f2]] w fun e w' => ∃ u, e = .returned (.tuple #[u, .int .i64 0]) ∧ Kd.R k43 43 w' w.heap.size (fun _ => True) u (l ++ [v]) ∧ Below w.heap.size w w' := by
 obtain ⟨a, s, d⟩ := v
 simp only at ht ⊢
 obtain ⟨w3, hw3⟩ : ∃ w3, w3 = ((w.alloc (.cells #[.int .i64 a, .string s, .bool d] 43)).alloc (.cells #[.int .i64 a, .string s, .bool d] 43)).alloc (.cells #[.slice A l.length c, .slice (some ⟨w.heap.size + 1, 0, none⟩) 1 1] 74) := ⟨_, rfl⟩
 have hB : Below w.heap.size w w3 := by rw [hw3]; exact below_alloc (below_alloc (below_alloc (Below.refl _ w) _) _) _
 have b0 : w3.heap[w.heap.size]? = some (.cells #[.int .i64 a, .string s, .bool d] 43 (0, 0)) := by rw [hw3]; exact blk_alloc (blk_alloc (blk_new _ _) _) _
 have b1 : w3.heap[w.heap.size + 1]? = some (.cells #[.int .i64 a, .string s, .bool d] 43 (0, 0)) := by
  rw [hw3]
  have := blk_new (w.alloc (.cells #[.int .i64 a, .string s, .bool d] 43)) (.cells #[.int .i64 a, .string s, .bool d] 43)
  rw [show (w.alloc (.cells #[.int .i64 a, .string s, .bool d] 43)).heap.size = w.heap.size + 1 by simp] at this
  exact blk_alloc this _
 have b2 : w3.heap[w.heap.size + 2]? = some (.cells #[.slice A l.length c, .slice (some ⟨w.heap.size + 1, 0, none⟩) 1 1] 74 (0, 0)) := by
  rw [hw3]
  have := blk_new ((w.alloc (.cells #[.int .i64 a, .string s, .bool d] 43)).alloc (.cells #[.int .i64 a, .string s, .bool d] 43)) (.cells #[.slice A l.length c, .slice (some ⟨w.heap.size + 1, 0, none⟩) 1 1] 74)
  simpa using this
 have hone : ∀ (W : World) (g : Nat), W.heap[g]? = some (.cells #[.int .i64 a, .string s, .bool d] 43 (0, 0)) → Kd.C k43 W (some ⟨g, 0, none⟩) ([(⟨a, s, d⟩ : Ver)]).length [(⟨a, s, d⟩ : Ver)] := fun W g hg => by
  refine ⟨rfl, by simp, fun _ => ⟨⟨g, 0, none⟩, rfl, fun j p hj => ?_⟩⟩
  cases j with
  | succ j => simp at hj
  | zero =>
   simp at hj
   subst hj
   refine ⟨[.int .i64 a, .string s, .bool d], rfl, k43_mk W ⟨a, s, d⟩, fun i u hu => ?_⟩
   have e : ∀ j : Nat, (⟨g, 0, none⟩ : Addr).add j = ⟨g, j, none⟩ := fun j => by unfold Addr.add; split <;> simp_all
   rw [e, Nat.zero_mul, Nat.zero_add, blk_cell hg i]
   simpa using hu
 have HR := Aside0.mk (Kd.C_below hr hB)
 have HO := Aside0.mk (And.intro h hv)
 have HHO := Aside0.mk hone
 have HW3 := Aside0.mk hw3
 have HB0 := Aside0.mk b0
 have HB1 := Aside0.mk b1
 have HB2 := Aside0.mk b2
 have HBW := Aside0.mk hB
 have HC := Aside0.mk hc
 have hmax := hl
 clear hr h hv hone hw3 b0 b1 b2 hB hc
 have HT := Aside0.mk ht
 clear ht
 have HCC : Aside0 (∀ W : World, Below w3.heap.size w3 W → Calls Tryz.prog 111 #[.slice (some ⟨W.heap.size + 1, 0, none⟩) 2 2] ((W.alloc (.cells #[.int .i64 a, .string s, .bool d] 43)).alloc (.cells #[.slice A l.length c, .slice (some ⟨W.heap.size, 0, none⟩) 1 1] 74)) fun e w' => ∃ u, e = .returned u ∧ Kd.R k43 43 w' w.heap.size (fun _ => True) u (l ++ [⟨a, s, d⟩]) ∧ Below w.heap.size w w') := ⟨fun W hW => by
  have hb := below_alloc (below_alloc (Below.refl _ W) (.cells #[.int .i64 a, .string s, .bool d] 43)) (.cells #[.slice A l.length c, .slice (some ⟨W.heap.size, 0, none⟩) 1 1] 74)
  have x1 : ((W.alloc (.cells #[.int .i64 a, .string s, .bool d] 43)).alloc (.cells #[.slice A l.length c, .slice (some ⟨W.heap.size, 0, none⟩) 1 1] 74)).heap[W.heap.size]? = some (.cells #[.int .i64 a, .string s, .bool d] 43 (0, 0)) := blk_alloc (blk_new _ _) _
  have x2 : ((W.alloc (.cells #[.int .i64 a, .string s, .bool d] 43)).alloc (.cells #[.slice A l.length c, .slice (some ⟨W.heap.size, 0, none⟩) 1 1] 74)).heap[W.heap.size + 1]? = some (.cells #[.slice A l.length c, .slice (some ⟨W.heap.size, 0, none⟩) 1 1] 74 (0, 0)) := by
   have := blk_new (W.alloc (.cells #[.int .i64 a, .string s, .bool d] 43)) (.cells #[.slice A l.length c, .slice (some ⟨W.heap.size, 0, none⟩) 1 1] 74)
   simpa using this
  have hWw : Below w.heap.size w W := HBW.out.trans (hW.mono HBW.out.size)
  refine (concat_walk _ (W.heap.size + 1) A (some ⟨W.heap.size, 0, none⟩) c 1 l [⟨a, s, d⟩] ((blk_cell x2 0).trans rfl) ((blk_cell x2 1).trans rfl) (Kd.C_below (Kd.C_below HR.out hW) hb) (HHO.out _ _ x1) (by omega) (by simp) (by simp)).mono ?_
  rintro e w' ⟨u, rfl, hu, hb'⟩
  exact ⟨u, rfl, Kd.R_lower hu (by have := hb.size; have := hWw.size; omega), (hWw.trans (hb.mono hWw.size)).trans (hb'.mono (hWw.trans (hb.mono hWw.size)).size)⟩⟩
 go_enter Tryz.func81, Tryz.ntmps81
 go_wp2_with fail
 rw [← HW3.out]
 go_loopw [15] (fun i wr => ∃ k : Nat, k ≤ 2 ∧ i = .int .i64 (k : Int) ∧ Aside0 (Below w3.heap.size w3 wr)) (fun i _ => 2 - (intOf i).toNat)
 case atStart => exact ⟨0, by omega, rfl, ⟨Below.refl _ _⟩⟩
 case round =>
  obtain ⟨k, hk, rfl, HB⟩ := hrel
  have C2 := Aside0.mk (blk_below HB2.out HB.out)
  have q0 := blk_cell C2.out 0
  have q1 := blk_cell C2.out 1
  have HBX := Aside0.mk (blk_below HB0.out HB.out)
  match k, hk with
  | 0, _ =>
   go_wp2_with fail
   refine (check_walk wr A c l (Kd.C_below HR.out HB.out) HC.out HO.out.1).mono ?_
   rintro e w4 ⟨rfl, hb4⟩
   have HB4 : Aside0 (Below w3.heap.size w3 w4) := ⟨HB.out.trans (hb4.mono HB.out.size)⟩
   clear hb4
   go_wp2_with fail
   go_roundw
   case rel => exact ⟨1, by omega, by go_num, HB4⟩
   case measure => simp [intOf]
  | 1, _ =>
   go_wp2_with fail
   refine (check_walk wr (some ⟨w.heap.size + 1, 0, none⟩) 1 [⟨a, s, d⟩] (HHO.out wr _ (blk_below HB1.out HB.out)) (Nat.le_refl _) (chain_one HO.out.2)).mono ?_
   rintro e w4 ⟨rfl, hb4⟩
   have HB4 : Aside0 (Below w3.heap.size w3 w4) := ⟨HB.out.trans (hb4.mono HB.out.size)⟩
   clear hb4
   go_wp2_with fail
   go_roundw
   case rel => exact ⟨2, by omega, by go_num, HB4⟩
   case measure => simp [intOf]
  | 2, _ =>
   have z0 := blk_cell HBX.out 0
   have z1 := blk_cell HBX.out 1
   have z2 := blk_cell HBX.out 2
   by_cases hn : l = []
   ·subst hn
    go_wp2_with fail
    go_quiet (fail)
    all_goals (try go_wp2_with fail)
    refine (HCC.out _ ?_).mono ?_
    ·exact pw_below_drewN HB.out _
    rintro e w5 ⟨u, rfl, hu, hb5⟩
    have HU5 := Aside0.mk hu
    have HB5 := Aside0.mk hb5
    clear hu hb5
    go_wp2_with fail
    go_ret2
    exact ⟨_, rfl, HU5.out, HB5.out⟩
   ·have hl0 : 0 < l.length := List.length_pos_iff.2 hn
    obtain ⟨ad, rfl, c0, c1, c2⟩ := at_T43 (Kd.C_below HR.out HB.out) ((l.length - 1 : Nat) : Int) (by omega) (by omega)
    rw [rdV_nat l _ (by omega), Int.toNat_natCast] at c0
    have hlast : lastV l = (l[l.length - 1]'(by omega)).f0 := by
     unfold lastV
     rw [List.getLast?_eq_getElem?, List.getElem?_eq_getElem (by omega)]
     rfl
    have hlt := HT.out
    rw [hlast] at hlt
    generalize (l[l.length - 1]'(by omega)).f0 = f at *
    have hle : decide (a ≤ f) = false := decide_eq_false (by omega)
    have hle2 : ¬ a ≤ f := by omega
    have hi1 : (l.length : Int) - 1 = ((l.length - 1 : Nat) : Int) := by omega
    clear c1 c2 hlast hn
    go_wp2_with fail
    go_quiet (fail)
    all_goals (try go_wp2_with fail)
    refine (HCC.out _ ?_).mono ?_
    ·exact pw_below_drewN HB.out _
    rintro e w5 ⟨u, rfl, hu, hb5⟩
    have HU5 := Aside0.mk hu
    have HB5 := Aside0.mk hb5
    clear hu hb5
    go_wp2_with fail
    go_ret2
    exact ⟨_, rfl, HU5.out, HB5.out⟩
end Go.Proofs.YtaldfbmjmpkmmaaGreat.PL
namespace Go.Proofs.YtaldfbmjmpkmmaaGreat.PL
open Go.RowKit
set_option linter.unusedVariables false
/-! records -/
theorem okR_all {r : Rec} (h : okR r = 0) : (0 ≤ r.f1 ∧ r.f1 ≤ 1125899906842623) ∧ (0 ≤ r.f2 ∧ r.f2 ≤ 1125899906842624) ∧ recOk r.f0 r.f1 r.f2 r.f3 r.f4 r.f5 r.f6 r.f7 r.f8 = true := by
 unfold okR recV at h
 split at h
 ·cases h
 ·rename_i hb
  split at h
  ·rename_i hk
   unfold rangeBad at hb
   simp only [Bool.or_eq_true, decide_eq_true_eq, not_or] at hb
   exact ⟨by omega, by omega, hk⟩
  ·cases h
theorem ris_keys : ∀ (l : List ByteArray) (q : Option (List UInt8)), ris q l = true → ∀ k ∈ l, keyB k = true
 | [], _, _, k, hk => by cases hk
 | s :: r, none, h, k, hk => by
  rw [ris, Bool.and_eq_true] at h
  rcases List.mem_cons.1 hk with rfl | hk
  ·exact h.1
  ·exact ris_keys r _ h.2 k hk
 | s :: r, some q, h, k, hk => by
  rw [ris, Bool.and_eq_true, Bool.and_eq_true] at h
  rcases List.mem_cons.1 hk with rfl | hk
  ·exact h.1
  ·exact ris_keys r _ h.2.2 k hk
theorem ris_above : ∀ (l : List ByteArray) (q : List UInt8), ris (some q) l = true → (∀ k ∈ l, Op.bytesLess q (kb k) = true) ∧ l.Pairwise (fun a b => Op.bytesLess (kb a) (kb b) = true)
 | [], _, _ => ⟨by simp, by simp⟩
 | s :: r, q, h => by
  rw [ris, Bool.and_eq_true, Bool.and_eq_true, kb_toList] at h
  obtain ⟨h1, h2⟩ := ris_above r _ h.2.2
  refine ⟨fun k hk => ?_, List.pairwise_cons.2 ⟨h1, h2⟩⟩
  rcases List.mem_cons.1 hk with rfl | hk
  ·exact h.2.1
  ·exact kl_trans h.2.1 (h1 k hk)
theorem rising_pair {l : List ByteArray} (h : risingB l = true) : l.Pairwise (fun a b => Op.bytesLess (kb a) (kb b) = true) := by
 cases l with
 | nil => simp
 | cons s r =>
  unfold risingB at h
  rw [ris, Bool.and_eq_true, kb_toList] at h
  obtain ⟨h1, h2⟩ := ris_above r _ h.2
  exact List.pairwise_cons.2 ⟨h1, h2⟩
theorem key_size {s : ByteArray} (h : keyB s = true) : s.size ≤ 32 := by
 unfold keyB at h
 rw [Bool.and_eq_true] at h
 exact of_decide_eq_true h.2
structure ListsOk (r : Rec) : Prop where
 few7 : r.f7.length ≤ 16
 few8 : r.f8.length ≤ 16
 key7 : ∀ k ∈ r.f7, keyB k = true
 key8 : ∀ w ∈ r.f8, keyB w.f0 = true
 rise7 : r.f7.Pairwise (fun a b => Op.bytesLess (kb a) (kb b) = true)
 rise8 : r.f8.Pairwise (fun a b => Op.bytesLess (wkey a) (wkey b) = true)
 shard : ∀ w ∈ r.f8, w.f1.size ≤ 2052 ∧ (w.f2 = true → w.f1.toList = [])
theorem ListsOk.apart {r : Rec} (h : ListsOk r) : (r.f8.map wkey).Nodup := List.pairwise_map.2 (h.rise8.imp (fun h => kl_ne h))
theorem prep_lists {r : Rec} (h0 : r.f0 = 1) (h : okR r = 0) : ListsOk r ∧ 0 < r.f1 := by
 have h2 := (okR_all h).2.2
 unfold recOk at h2
 rw [if_pos h0, Bool.and_eq_true, Bool.and_eq_true] at h2
 obtain ⟨⟨hl, ht⟩, _⟩ := h2
 unfold listedB writesB at hl
 simp only [Bool.and_eq_true, decide_eq_true_eq, List.all_eq_true] at hl
 obtain ⟨a1, a2, a3, a4, a5⟩ := hl
 refine ⟨⟨a1, a4, ris_keys _ _ a2, fun w hw => ris_keys _ _ a5 _ (List.mem_map.2 ⟨w, hw, rfl⟩), rising_pair a2, List.pairwise_map.1 (rising_pair a5), fun w hw => ?_⟩, of_decide_eq_true ht⟩
 have := a3 w hw
 unfold shardB at this
 rw [Bool.and_eq_true, decide_eq_true_eq] at this
 refine ⟨this.1, fun hd => ?_⟩
 have h3 := this.2
 rw [hd] at h3
 simpa using h3
theorem do_facts {r : Rec} (h0 : r.f0 = 2) (h : okR r = 0) : 0 < r.f1 := by
 have h2 := (okR_all h).2.2
 unfold recOk at h2
 rw [if_neg (by omega), if_pos h0] at h2
 simp only [Bool.and_eq_true, decide_eq_true_eq] at h2
 exact h2.2.1
theorem ver_facts {r : Rec} (h0 : r.f0 = 3) (h : okR r = 0) : 0 < r.f2 ∧ keyB r.f4 = true ∧ r.f5.size ≤ 2052 ∧ (r.f6 = true → r.f5.toList = []) := by
 have h2 := (okR_all h).2.2
 unfold recOk at h2
 rw [if_neg (by omega), if_neg (by omega), if_neg (by omega), if_neg (by omega), if_pos h0] at h2
 simp only [Bool.and_eq_true, decide_eq_true_eq] at h2
 obtain ⟨_, h3, h4, h5, h6, _⟩ := h2
 refine ⟨h3, h4, h5, fun hd => ?_⟩
 rw [hd] at h6
 simpa using h6
/-! what a shelf has to be -/
/-- What a shelf's lists have to be. -/
structure ShOk (s : Sh) : Prop where
 keys : KOk s.K
 rise : s.P.Pairwise (fun a b => a.f1 < b.f1)
 few : s.P.length ≤ 1024
 recs : ∀ r ∈ s.P, r.f0 = 1 ∧ okR r = 0
 ends : s.E.length ≤ 1025
 over : 0 ≤ s.over ∧ s.over ≤ 1125899906842624
theorem sh0_ok : ShOk sh0 := ⟨KOk.nil, by simp [sh0], by simp [sh0], by simp [sh0], by simp [sh0], by simp [sh0]⟩
theorem state_cases (s : Sh) (t : Int) : (s.P.any (fun r => decide (r.f1 = t)) = true ∧ stateV s t = (1, 0)) ∨ (s.P.any (fun r => decide (r.f1 = t)) = false ∧
 ((s.E.find? (fun e => decide (e.1 = t)) = none ∧ stateV s t = (0, 0)) ∨ ∃ e, s.E.find? (fun e => decide (e.1 = t)) = some e ∧ ((e.2 = 0 ∧ stateV s t = (3, 0)) ∨ (e.2 ≠ 0 ∧ stateV s t = (2, e.2))))) := by
 unfold stateV
 cases hp : s.P.any (fun r => decide (r.f1 = t)) with
 | true => exact .inl ⟨rfl, rfl⟩
 | false =>
  refine .inr ⟨rfl, ?_⟩
  cases he : s.E.find? (fun e => decide (e.1 = t)) with
  | none => exact .inl ⟨rfl, rfl⟩
  | some e =>
   refine .inr ⟨e, rfl, ?_⟩
   by_cases h0 : e.2 = 0
   ·exact .inl ⟨h0, by simp [h0]⟩
   ·exact .inr ⟨h0, by simp [h0]⟩
theorem state_zero {s : Sh} {t : Int} (h : ¬ 0 < (stateV s t).1) : (∀ r ∈ s.P, r.f1 ≠ t) ∧ s.E.find? (fun e => decide (e.1 = t)) = none := by
 rcases state_cases s t with ⟨_, h2⟩ | ⟨h1, ⟨h2, h3⟩ | ⟨e, h2, ⟨_, h3⟩ | ⟨_, h3⟩⟩⟩
 ·rw [h2] at h; simp at h
 ·exact ⟨fun r hr e => by
   have := List.any_eq_false.1 h1 r hr
   exact this (decide_eq_true e), h2⟩
 ·rw [h3] at h; simp at h
 ·rw [h3] at h; simp at h
theorem pput_mem (r x : Rec) : ∀ l : List Rec, x ∈ pput l r ↔ x = r ∨ x ∈ l
 | [] => by simp [pput]
 | y :: l => by
  unfold pput
  split
  ·rw [List.mem_cons, pput_mem r x l, List.mem_cons]
   constructor
   ·rintro (h | h | h)
    ·exact .inr (.inl h)
    ·exact .inl h
    ·exact .inr (.inr h)
   ·rintro (h | h | h)
    ·exact .inr (.inl h)
    ·exact .inl h
    ·exact .inr (.inr h)
  ·rw [List.mem_cons]
theorem pput_len (r : Rec) : ∀ l : List Rec, (pput l r).length = l.length + 1
 | [] => rfl
 | y :: l => by
  unfold pput
  split
  ·rw [List.length_cons, pput_len r l, List.length_cons]
  ·rfl
theorem pput_rise (r : Rec) : ∀ {l : List Rec}, l.Pairwise (fun a b => a.f1 < b.f1) → (∀ x ∈ l, x.f1 ≠ r.f1) → (pput l r).Pairwise (fun a b => a.f1 < b.f1)
 | [], _, _ => by simp [pput]
 | y :: l, h, hn => by
  obtain ⟨h1, h2⟩ := List.pairwise_cons.1 h
  unfold pput
  split
  ·rename_i hlt
   refine List.pairwise_cons.2 ⟨fun x hx => ?_, pput_rise r h2 (fun x hx => hn x (List.mem_cons_of_mem _ hx))⟩
   rcases (pput_mem r x l).1 hx with rfl | hx
   ·exact hlt
   ·exact h1 x hx
  ·rename_i hlt
   have hy := hn y List.mem_cons_self
   refine List.pairwise_cons.2 ⟨fun x hx => ?_, h⟩
   rcases List.mem_cons.1 hx with rfl | hx
   ·omega
   ·have := h1 x hx
    omega
theorem prepV_ok {s : Sh} {r : Rec} (h : ShOk s) (h0 : r.f0 = 1) (hr : okR r = 0) : ShOk (prepV s r).2 := by
 unfold prepV
 split
 ·exact h
 ·rename_i hs
  split
  ·exact h
  ·split
   ·exact h
   ·rename_i hl
    refine ⟨h.keys, pput_rise r h.rise (state_zero hs).1, ?_, fun x hx => ?_, h.ends, h.over⟩
    ·show (pput s.P r).length ≤ 1024
     rw [pput_len]
     omega
    ·rcases (pput_mem r x s.P).1 hx with rfl | hx
     ·exact ⟨h0, hr⟩
     ·exact h.recs x hx
theorem endE_len {E : List (Int × Int)} {B : Nat} (hB : 1024 ≤ B) (h : E.length ≤ B) (x : Int × Int) : (endE E x).length ≤ B := by
 unfold endE
 split
 ·rw [List.length_drop, List.length_append, List.length_singleton]
  omega
 ·omega
theorem endV_ok {s : Sh} (h : ShOk s) (t ts : Int) : ShOk (endV s t ts) :=
 ⟨h.keys, h.rise.filter _, Nat.le_trans (List.length_filter_le _ _) h.few, fun r hr => h.recs r (List.mem_filter.1 hr).1, endE_len (by omega) h.ends _, h.over⟩
theorem room_put {s : Sh} {l : List Wr} {ts : Int} (h0 : roomV s l ts = 0) (hts : 1 ≤ ts ∧ ts ≤ 1125899906842624) (ha : (l.map wkey).Nodup) (hs : ∀ w ∈ l, w.f1.size ≤ 2052 ∧ (w.f2 = true → w.f1.toList = [])) : PutOk s.K l ts := by
 unfold roomV at h0
 split at h0
 ·cases h0
 ·rename_i hl
  refine ⟨ha, fun w hw => ?_, fun w hw => ⟨hts.1, hts.2, (hs w hw).1, (hs w hw).2⟩, h0⟩
  have : ¬ ts ≤ lastV (look s.K (wkey w)) := fun hc => hl (List.any_eq_true.2 ⟨w, hw, decide_eq_true hc⟩)
  omega
theorem writesOf_some {s : Sh} {t : Int} (h : (stateV s t).1 = 1) : ∃ r ∈ s.P, r.f1 = t ∧ writesOf s t = r.f8 := by
 unfold writesOf
 cases hf : s.P.find? (fun r => decide (r.f1 = t)) with
 | none =>
  rcases state_cases s t with ⟨h1, _⟩ | ⟨_, ⟨_, h3⟩ | ⟨e, _, ⟨_, h3⟩ | ⟨_, h3⟩⟩⟩
  ·obtain ⟨r, hr, hrt⟩ := List.any_eq_true.1 h1
   exact absurd hrt (List.find?_eq_none.1 hf r hr)
  ·rw [h3] at h; cases h
  ·rw [h3] at h; cases h
  ·rw [h3] at h; cases h
 | some r => exact ⟨r, List.mem_of_find?_eq_some hf, of_decide_eq_true (by simpa using List.find?_some hf), rfl⟩
theorem do_put {s : Sh} (h : ShOk s) {t ts : Int} (hts : 0 < ts ∧ ts ≤ 1125899906842624) (h1 : (stateV s t).1 = 1) (h0 : roomV s (writesOf s t) ts = 0) : PutOk s.K (writesOf s t) ts := by
 obtain ⟨r, hr, _, e⟩ := writesOf_some h1
 obtain ⟨hl, _⟩ := prep_lists (h.recs r hr).1 (h.recs r hr).2
 exact room_put h0 (by omega) (by rw [e]; exact hl.apart) (by rw [e]; exact hl.shard)
theorem doV_ok {s : Sh} (h : ShOk s) {t ts : Int} (hts : 0 ≤ ts ∧ ts ≤ 1125899906842624) : ShOk (doV s t ts).2 := by
 unfold doV
 split
 ·exact h
 ·split
  ·exact h
  ·split
   ·rename_i hc
    split
    ·rename_i h0
     have hp := do_put h (by omega) hc.1 h0
     exact endV_ok (s := { s with K := putV s.K (writesOf s t) ts }) ⟨putV_ok _ h.keys hp, h.rise, h.few, h.recs, h.ends, h.over⟩ t ts
    ·exact h
   ·exact endV_ok h t ts
theorem sweepV_ok {s : Sh} (h : ShOk s) {t : Int} (ht : t ≤ 1125899906842624) : ShOk (sweepV s t).2 := by
 unfold sweepV
 split
 ·exact h
 ·exact ⟨h.keys.sweep t, h.rise, h.few, h.recs, h.ends, ⟨by have := h.over; show 0 ≤ t; omega, ht⟩⟩
theorem ver_put {s : Sh} {r : Rec} (h0 : r.f0 = 3) (hr : okR r = 0) (hm : roomV s [verW r] r.f2 = 0) : PutOk s.K [verW r] r.f2 := by
 obtain ⟨h1, h2, h3, h4⟩ := ver_facts h0 hr
 exact room_put hm (by have := (okR_all hr).2.1; omega) (by simp) (fun w hw => by rw [List.mem_singleton.1 hw]; exact ⟨h3, h4⟩)
theorem applyV_ok {s : Sh} (h : ShOk s) (r : Rec) : ShOk (applyV s r).2 := by
 unfold applyV
 split
 ·rename_i hr
  split
  ·rename_i h0
   exact prepV_ok h h0 hr
  ·split
   ·exact doV_ok h (okR_all hr).2.1
   ·split
    ·exact sweepV_ok h (okR_all hr).2.1.2
    ·split
     ·rename_i h0
      split
      ·rename_i hm
       exact ⟨putV_ok _ h.keys (ver_put h0 hr hm), h.rise, h.few, h.recs, h.ends, h.over⟩
      ·exact h
     ·exact h
 ·exact h
theorem applyV_ends {s : Sh} (h : s.E.length ≤ 1024) (r : Rec) : (applyV s r).2.E.length ≤ 1024 := by
 unfold applyV
 split
 ·split
  ·unfold prepV
   split
   ·exact h
   ·split
    ·exact h
    ·split
     ·exact h
     ·exact h
  ·split
   ·unfold doV
    split
    ·exact h
    ·split
     ·exact h
     ·split
      ·split
       ·exact endE_len (Nat.le_refl _) h _
       ·exact h
      ·exact endE_len (Nat.le_refl _) h _
   ·split
    ·unfold sweepV
     split
     ·exact h
     ·exact h
    ·split
     ·split
      ·exact h
      ·exact h
     ·exact h
 ·exact h
theorem fold_ends : ∀ (l : List Rec) {s : Sh}, s.E.length ≤ 1024 → (l.foldl (fun s r => (applyV s r).2) s).E.length ≤ 1024
 | [], _, h => h
 | r :: l, _, h => fold_ends l (applyV_ends h r)



/-! what is read stays -/
/-- What is read of a time: as it was, or what was dead is gone. -/
def Stays (s : Sh) (k : Key) (t : Int) (x : Ver × Bool) : Prop := s.over ≤ t ∧ (atV (look s.K k) t = x ∨ (x.2 = true ∧ x.1.f2 = true ∧ atV (look s.K k) t = (zVer, false)))



end Go.Proofs.YtaldfbmjmpkmmaaGreat.PL
