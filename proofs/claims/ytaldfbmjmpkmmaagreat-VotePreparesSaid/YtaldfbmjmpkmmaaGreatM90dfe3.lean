/- Texts of this proof, one behind the other (merged by a program of this session). -/
import Derived.Test.YtaldfbmjmpkmmaaGreatMb32a98
import Derived.Test.YtaldfbmjmpkmmaaGreatHShP
import Derived.Test.YtaldfbmjmpkmmaaGreatMb85f36
namespace Go.Proofs.YtaldfbmjmpkmmaaGreat.PL
open Go.RowKit Go.Proofs.YtaldfbmjmpkmmaaGreatW.PrintWords Go.Proofs.YtaldfbmjmpkmmaaGreatW.PrintLast Go.Proofs.YtaldfbmjmpkmmaaGreatW.PrintMore Go.Shelf Go.Sort
set_option linter.unusedVariables false
set_option linter.unusedSimpArgs false
theorem rdV_nat (l : Chain) (i : Nat) (h : i < l.length) : rd_T43 l (i : Int) = l[i] := by
 unfold rd_T43; simp [List.getElem?_eq_getElem h]
theorem rdV_getD (l : Chain) (i : Nat) (h : i < l.length) : rd_T43 l (i : Int) = l.getD i zVer := by
 rw [rdV_nat l i h]; simp [List.getElem?_eq_getElem h]
theorem chk_from (l : Chain) (hv : ∀ v ∈ l, VerOk v) (hl : l.length ≤ 1024) (hr : l.Pairwise (fun x y => x.f0 < y.f0)) (d : Nat) : ∀ (k i : Nat) (last : Int), i + d = l.length → 3 * d < k → (∀ v ∈ l.drop i, last < v.f0) →
 chain_Check.l0 k last l (l.length : Int) (i : Int) = some (0, 0) := by
 induction d with
 | zero =>
  intro k i last hd hk _
  obtain ⟨k, rfl⟩ : ∃ m, k = m + 1 := ⟨k - 1, by omega⟩
  simp only [chain_Check.l0]
  rw [if_neg (by omega)]
 | succ d ih =>
  intro k i last hd hk hlast
  obtain ⟨k, rfl⟩ : ∃ m, k = m + 1 + 1 + 1 := ⟨k - 3, by omega⟩
  have hi : i < l.length := by omega
  obtain ⟨v1, v2, v3, v4⟩ := hv l[i] (List.getElem_mem hi)
  have hd2 : l.drop i = l[i] :: l.drop (i + 1) := List.drop_eq_getElem_cons hi
  have h0 : last < l[i].f0 := hlast l[i] (by rw [hd2]; exact List.mem_cons_self)
  have e3 : wrap64 ((i : Int) + 1) = ((i + 1 : Nat) : Int) := by rw [w64 _ (by omega) (by omega)]; omega
  have hnext : ∀ v ∈ l.drop (i + 1), l[i].f0 < v.f0 := fun v hv => by
   have := hr.sublist (List.drop_sublist i l)
   rw [hd2] at this
   exact (List.pairwise_cons.1 this).1 v hv
  have ih2 := ih k (i + 1) l[i].f0 (by omega) (by omega) hnext
  simp only [chain_Check.l0]
  rw [if_pos (by omega), if_pos (by omega), if_pos (by omega), rdV_nat l i hi, if_neg (by omega)]
  simp only [chain_Check.j1]
  rw [if_neg (by simp; omega), if_neg (by omega)]
  cases hdd : l[i].f2 with
  | true =>
   have hs : (l[i].f1.toList != ([] : List UInt8)) = false := by rw [v4 hdd]; rfl
   rw [if_pos rfl, hs]
   simp only [chain_Check.j2]
   rw [if_neg (by simp), if_neg (by omega), e3]
   exact ih2
  | false =>
   rw [if_neg (by simp)]
   simp only [chain_Check.j2]
   rw [if_neg (by simp), if_neg (by omega), e3]
   exact ih2
theorem chk_f {l : Chain} (h : ChainOk l) : chain_Check.f 4000 l = some (0, 0) := by
 have hl := h.len
 unfold chain_Check.f
 rw [if_neg (by omega)]
 exact chk_from l h.ver h.len h.rise l.length 4000 0 0 (by omega) (by omega) (fun v hv => by
  have := (h.ver v (List.mem_of_mem_drop hv)).1
  omega)
theorem last_f {l : Chain} (h : ChainOk l) : chain_Last.f 4000 l = some (lastV l, 0) := by
 have hl := h.len
 unfold chain_Last.f
 rw [chk_f h, Option.bind_some]
 simp only
 rw [if_pos trivial]
 by_cases h0 : l.length = 0
 ·obtain rfl := List.eq_nil_of_length_eq_zero h0
  rw [if_pos (by simp)]
  rfl
 ·have e : wrap64 ((l.length : Int) - 1) = ((l.length - 1 : Nat) : Int) := by rw [w64 _ (by omega) (by omega)]; omega
  rw [if_neg (by omega), e, if_pos (by omega), if_pos (by omega), rdV_nat l _ (by omega)]
  unfold lastV
  rw [List.getLast?_eq_getElem?, List.getElem?_eq_getElem (by omega)]
  rfl
theorem cnt_until (t : Int) : ∀ (l : Chain), l.Pairwise (fun x y => x.f0 < y.f0) → (List.range l.length).countP (fun i => !decide (t < (l.getD i zVer).f0)) = untilV l t
 | [], _ => rfl
 | v :: r, h => by
  obtain ⟨h1, h2⟩ := List.pairwise_cons.1 h
  rw [List.length_cons, List.range_succ_eq_map, List.countP_cons, List.countP_map, until_cons]
  have e : ((fun i => !decide (t < ((v :: r).getD i zVer).f0)) ∘ Nat.succ) = (fun i => !decide (t < (r.getD i zVer).f0)) := by
   funext i
   simp
  rw [e, cnt_until t r h2]
  by_cases hv : v.f0 ≤ t
  ·rw [if_pos hv, if_pos (by simpa using hv)]
  ·rw [if_neg hv, if_neg (by simpa using hv)]
   have : untilV r t = 0 := by
    cases r with
    | nil => rfl
    | cons u r =>
     have := h1 u List.mem_cons_self
     rw [until_cons, if_neg (by omega)]
   omega
set_option maxRecDepth 100000 in
theorem until1_walk (W : World) (bl bt : Nat) (A : Option Addr) (c : Nat) (l : Chain) (t : Int) (i : Nat) (hi : i < l.length) (hl : W.cell? ⟨bl, 0, none⟩ = some (.slice A l.length c)) (ht : W.cell? ⟨bt, 0, none⟩ = some (.int .i64 t)) (hc : Kd.C k43 W A l.length l) :
 Calls Tryz.prog 117 (#[.int .i64 (i : Int)] ++ #[.pointer (some ⟨bl, 0, none⟩), .pointer (some ⟨bt, 0, none⟩)]) W fun e w' => e = .returned (.bool (decide (t < (l.getD i zVer).f0))) ∧ ∃ q, w' = W.drewN q := by
 obtain ⟨ad, rfl, c0, c1, c2⟩ := at_T43 hc (i : Int) (by omega) (by omega)
 have hm := Kd.C_max hc
 rw [rdV_getD l i hi, Int.toNat_natCast] at c0
 have hu := Tryz.underlying43
 generalize l.getD i zVer = v at *
 clear c1 c2 hc
 show Calls Tryz.prog 117 #[.int .i64 (i : Int), .pointer (some ⟨bl, 0, none⟩), .pointer (some ⟨bt, 0, none⟩)] W _
 go_enter Tryz.func117, Tryz.ntmps117
 go_wp2_with fail
 go_quiet (fail)
 all_goals (try go_wp2)
 go_ret
 exact ⟨rfl, _, rfl⟩
theorem last_walk (w : World) (A : Option Addr) (c : Nat) (l : Chain) (hr : Kd.C k43 w A l.length l) (hc : l.length ≤ c) (h : ChainOk l) :
 Calls Tryz.prog 101 #[.slice A l.length c] w fun e w' => e = .returned (.tuple #[.int .i64 (lastV l), .int .i64 0]) ∧ Below w.heap.size w w' := chain_Last.calls 4000 A c l _ _ w hr hc (last_f h)
theorem check_walk (w : World) (A : Option Addr) (c : Nat) (l : Chain) (hr : Kd.C k43 w A l.length l) (hc : l.length ≤ c) (h : ChainOk l) :
 Calls Tryz.prog 87 #[.slice A l.length c] w fun e w' => e = .returned (.tuple #[.int .i64 0, .int .i64 0]) ∧ Below w.heap.size w w' := chain_Check.calls 4000 A c l _ _ w hr hc (chk_f h)
theorem until_mono2 (l : Chain) (t : Int) (h : l.Pairwise (fun x y => x.f0 < y.f0)) (a b : Nat) (hab : a ≤ b) (hb : b < l.length) (ha : decide (t < (l.getD a zVer).f0) = true) : decide (t < (l.getD b zVer).f0) = true := by
 rcases Nat.eq_or_lt_of_le hab with rfl | hlt
 ·exact ha
 ·have h1 : l.getD a zVer = l[a] := by simp [List.getElem?_eq_getElem (show a < l.length by omega)]
  have h2 : l.getD b zVer = l[b] := by simp [List.getElem?_eq_getElem hb]
  rw [h1] at ha
  rw [h2]
  have h3 := List.pairwise_iff_getElem.1 h a b (by omega) hb hlt
  have h4 := of_decide_eq_true ha
  exact decide_eq_true (by omega)
set_option maxRecDepth 100000 in
theorem until_walk (w : World) (A : Option Addr) (c : Nat) (l : Chain) (t : Int) (hr : Kd.C k43 w A l.length l) (h : ChainOk l) :
 Calls Tryz.prog 88 #[.slice A l.length c, .int .i64 t] w fun e w' => e = .returned (.int .i64 ((untilV l t : Nat) : Int)) ∧ Below w.heap.size w w' := by
 obtain ⟨w2, hw2⟩ : ∃ w2, w2 = (w.alloc (.cells #[.slice A l.length c] 74)).alloc (.cells #[.int .i64 t] 3) := ⟨_, rfl⟩
 have hB : Below w.heap.size w w2 := by rw [hw2]; exact below_alloc (below_alloc (Below.refl _ w) _) _
 have hs2 : w2.heap.size = w.heap.size + 2 := by rw [hw2]; simp
 have b1 : w2.heap[w.heap.size]? = some (.cells #[.slice A l.length c] 74 (0, 0)) := by rw [hw2]; exact blk_alloc (blk_new _ _) _
 have b2 : w2.heap[w.heap.size + 1]? = some (.cells #[.int .i64 t] 3 (0, 0)) := by
  rw [hw2]
  have := blk_new (w.alloc (.cells #[.slice A l.length c] 74)) (.cells #[.int .i64 t] 3)
  simpa using this
 have hl := h.len
 have hcon := Any.sort_Search Tryz.search 117 #[.pointer (some ⟨w.heap.size, 0, none⟩), .pointer (some ⟨w.heap.size + 1, 0, none⟩)] l.length (fun i => decide (t < (l.getD i zVer).f0)) w2
  (enters_of Tryz.func117 (by kernel_rfl) rfl) (by omega) (fun m os i hi => by
   have hG := below_grown_sl w2.heap.size w2 m os (Nat.le_refl _)
   refine (until1_walk (grow (w2.drewN m) os) w.heap.size (w.heap.size + 1) A c l t i hi ?_ ?_ ?_).mono ?_
   ·rw [blk_cell (blk_below b1 hG) 0]; rfl
   ·rw [blk_cell (blk_below b2 hG) 0]; rfl
   ·exact Kd.C_below (Kd.C_below hr hB) hG
   ·rintro e w' ⟨he, q, rfl⟩
    exact ⟨he, q, #[], by rw [grow_empty]⟩) (until_mono2 l t h.rise)
 rw [cnt_until t l h.rise] at hcon
 change Calls Tryz.prog 116 _ _ _ at hcon
 have HC := Aside0.mk hcon
 have HB := Aside0.mk hB
 have HW := Aside0.mk hw2
 clear hcon hB hw2 b1 b2 hr h hs2
 generalize untilV l t = n at *
 go_enter Tryz.func88, Tryz.ntmps88
 go_wp2_with fail
 rw [← HW.out]
 refine HC.out.mono ?_
 rintro e w' ⟨rfl, q, os, rfl⟩
 have HB2 : Aside0 (Below w.heap.size w (grow (w2.drewN q) os)) := ⟨HB.out.trans (below_grown_sl w.heap.size w2 q os HB.out.size)⟩
 go_wp2_with fail
 go_ret
 exact ⟨rfl, HB2.out⟩
end Go.Proofs.YtaldfbmjmpkmmaaGreat.PL
namespace Go.Proofs.YtaldfbmjmpkmmaaGreat.PL
open Go.RowKit Go.Proofs.YtaldfbmjmpkmmaaGreatW.PrintWords Go.Proofs.YtaldfbmjmpkmmaaGreatW.PrintLast Go.Proofs.YtaldfbmjmpkmmaaGreatW.PrintMore Go.Shelf Go.Sort
set_option linter.unusedVariables false
set_option linter.unusedSimpArgs false
def verV (v : Ver) : Value := .agg #[.int .i64 v.f0, .string v.f1, .bool v.f2]

set_option maxRecDepth 100000 in
set_option maxHeartbeats 1000000 in
theorem sweepC_walk (w : World) (A : Option Addr) (c : Nat) (l : Chain) (t : Int) (hr : Kd.C k43 w A l.length l) (hc : l.length ≤ c) (h : ChainOk l) :
 Calls Tryz.prog 77 #[.slice A l.length c, .int .i64 t] w fun e w' => ∃ v, e = .returned (.tuple #[v, .int .i64 0]) ∧ Kd.R k43 43 w' w.heap.size (fun _ => True) v (sweepC l t) ∧ Below w.heap.size w w' := by
 have HR := Aside0.mk hr
 have HC := Aside0.mk hc
 have hl := h.len
 have hul := until_le l t
 have hu := Tryz.underlying43
 have HUN : Aside0 (∀ W, Below w.heap.size w W → Calls Tryz.prog 88 #[.slice A l.length c, .int .i64 t] W fun e w' => e = .returned (.int .i64 ((untilV l t : Nat) : Int)) ∧ Below W.heap.size W w') := ⟨fun W hW => until_walk W A c l t (Kd.C_below hr hW) h⟩
 have HCH : Aside0 (∀ W, Below w.heap.size w W → Calls Tryz.prog 87 #[.slice A l.length c] W fun e w' => e = .returned (.tuple #[.int .i64 0, .int .i64 0]) ∧ Below W.heap.size W w') := ⟨fun W hW => check_walk W A c l (Kd.C_below hr hW) hc h⟩
 have hfr : sweepFrom l t ≤ l.length := by unfold sweepFrom; split <;> omega
 obtain ⟨i0, hi0, _, hsz, _⟩ := info_parts infoV
 have HCL : Aside0 (∀ W, Below w.heap.size w W → Calls Tryz.prog 110 #[.slice (if c = sweepFrom l t then A else A.map (·.add (sweepFrom l t * 3))) (l.length - sweepFrom l t) (c - sweepFrom l t)] W fun e w' => ∃ v, e = .returned v ∧ Kd.R k43 43 w' W.heap.size (fun _ => True) v (sweepC l t) ∧ Below W.heap.size W w') := ⟨fun W hW => by
  have h1 := Kd.C_drop (Kd.C_below hr hW) hfr hc
  have h2 := clone_ver W _ (c - sweepFrom l t) (l.drop (sweepFrom l t)) h1 (by rw [List.length_drop]; omega)
  rw [List.length_drop] at h2
  exact h2⟩
 have hcut := cut_from (P := Tryz.prog) 74 43 .i64 Tryz.underlying74 hi0 3 hsz A l.length c (sweepFrom l t : Int) (by omega) (by omega)
 rw [Int.toNat_natCast] at hcut
 generalize (if c = sweepFrom l t then A else A.map (·.add (sweepFrom l t * 3))) = A2 at hcut HCL
 have HS : Aside0 (sweepFrom l t = if 0 < untilV l t ∧ (l.getD (untilV l t - 1) zVer).f2 = false then untilV l t - 1 else untilV l t) := ⟨rfl⟩
 generalize sweepC l t = r at *
 generalize sweepFrom l t = m at *
 generalize untilV l t = n at *
 clear hr hc h
 go_enter Tryz.func77, Tryz.ntmps77
 go_wp2_with fail
 refine (HCH.out _ (Below.refl _ _)).mono ?_
 rintro e w1 ⟨rfl, hb1⟩
 have HB1 := Aside0.mk hb1
 clear hb1
 go_wp2_with fail
 refine (HUN.out w1 HB1.out).mono ?_
 rintro e w2 ⟨rfl, hb2⟩
 have HB2 : Aside0 (Below w.heap.size w w2) := ⟨HB1.out.trans (hb2.mono HB1.out.size)⟩
 clear hb2 HB1
 by_cases hn : n = 0
 ·subst hn
  rw [if_neg (by omega)] at HS
  have hm0 : m = 0 := HS.out
  subst hm0
  clear HS
  have hcut0 : ∀ W, (Instr.slice 74 (.slice A l.length c) (some (.int .i64 0)) none none).run Tryz.prog W = .ok (.slice A2 (l.length - 0) (c - 0)) W := hcut
  clear hcut
  rw [Nat.sub_zero, Nat.sub_zero] at hcut0 HCL
  go_wp2_with fail
  refine (HCL.out _ HB2.out).mono ?_
  rintro e w3 ⟨vr, rfl, hvr, hb3⟩
  have HV3 := Aside0.mk (Kd.R_lower hvr HB2.out.size)
  have HB3 : Aside0 (Below w.heap.size w w3) := ⟨HB2.out.trans (hb3.mono HB2.out.size)⟩
  clear hvr hb3
  go_wp2_with fail
  go_ret2
  exact ⟨_, rfl, HV3.out, HB3.out⟩
 ·obtain ⟨k, rfl⟩ : ∃ k, n = k + 1 := ⟨n - 1, by omega⟩
  rw [Nat.add_sub_cancel] at HS
  obtain ⟨ad, rfl, c0, c1, c2⟩ := at_T43 (Kd.C_below HR.out HB2.out) (k : Int) (by omega) (by omega)
  rw [rdV_getD l k (by omega), Int.toNat_natCast] at c2
  have hk1 : ((k + 1 : Nat) : Int) - 1 = (k : Int) := by omega
  clear c0 c1
  generalize l.getD k zVer = v at *
  cases hd : v.f2 with
  | true =>
   rw [hd] at c2 HS
   rw [if_neg (by simp)] at HS
   have hm : m = k + 1 := HS.out
   subst hm
   clear HS
   rw [show ((k + 1 : Nat) : Int) = (k : Int) + 1 by omega] at hcut
   go_wp2_with fail
   refine (HCL.out _ HB2.out).mono ?_
   rintro e w3 ⟨vr, rfl, hvr, hb3⟩
   have HV3 := Aside0.mk (Kd.R_lower hvr HB2.out.size)
   have HB3 : Aside0 (Below w.heap.size w w3) := ⟨HB2.out.trans (hb3.mono HB2.out.size)⟩
   clear hvr hb3
   go_wp2_with fail
   go_ret2
   exact ⟨_, rfl, HV3.out, HB3.out⟩
  | false =>
   rw [hd] at c2 HS
   rw [if_pos (by simp)] at HS
   have hm : m = k := HS.out
   subst hm
   clear HS
   go_wp2_with fail
   refine (HCL.out _ HB2.out).mono ?_
   rintro e w3 ⟨vr, rfl, hvr, hb3⟩
   have HV3 := Aside0.mk (Kd.R_lower hvr HB2.out.size)
   have HB3 : Aside0 (Below w.heap.size w w3) := ⟨HB2.out.trans (hb3.mono HB2.out.size)⟩
   clear hvr hb3
   go_wp2_with fail
   go_ret2
   exact ⟨_, rfl, HV3.out, HB3.out⟩
end Go.Proofs.YtaldfbmjmpkmmaaGreat.PL
