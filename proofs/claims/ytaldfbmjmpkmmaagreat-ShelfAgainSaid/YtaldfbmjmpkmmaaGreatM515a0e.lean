/- Texts of this proof, one behind the other (merged by a program of this session). -/
import Derived.Test.YtaldfbmjmpkmmaaGreatHShW
import Derived.Shelf.SlGeneric
import Derived.Sort.KeysCollected
import Derived.Sort.Walk0
import Derived.Shelf.SlIter.Nil
import Derived.Shelf.SlIterI.Nil
import Derived.Shelf.SortM.Plain
import Derived.Shelf.SortM.SortNone
import Derived.Ground.GgzProg
import Derived.Ground.SlgmProg
import Derived.Test.YtaldfbmjmpkmmaaGreatProg
import Derived.Test.YtaldfbmjmpkmmaaGreatMf5ad65
namespace Go.Proofs.YtaldfbmjmpkmmaaGreat.PL
open Go.RowKit Go.Proofs.YtaldfbmjmpkmmaaGreatW.PrintWords Go.Proofs.YtaldfbmjmpkmmaaGreatW.PrintLast Go.Proofs.YtaldfbmjmpkmmaaGreatW.PrintMore Go.Shelf Go.Maps Go.WideMaps Go.Proofs.YtaldfbmjmpkmmaaGreat.Mk
set_option linter.unusedVariables false
set_option linter.unusedSimpArgs false
set_option linter.unusedSectionVars false
def ex1 : Rec := ⟨1, 5, 0, 0, ⟨#[]⟩, ⟨#[]⟩, false, [], [⟨⟨#[107]⟩, ⟨#[120]⟩, false⟩]⟩
def ex2 : Rec := ⟨2, 5, 9, 0, ⟨#[]⟩, ⟨#[]⟩, false, [], []⟩
theorem ex_ok1 : applyV sh0 ex1 = (0, ⟨[], [ex1], [], 0⟩) := by kernel_rfl
theorem ex_ok2 : applyV ⟨[], [ex1], [], 0⟩ ex2 = (0, ⟨[([107], [⟨9, ⟨#[120]⟩, false⟩])], [], [(5, 9)], 0⟩) := by kernel_rfl
theorem ex_read1 : readV ⟨[], [ex1], [], 0⟩ (kb ⟨#[107]⟩) 9 = (3, zVer) := by kernel_rfl
theorem ex_read2 : readV ⟨[([107], [⟨9, ⟨#[120]⟩, false⟩])], [], [(5, 9)], 0⟩ (kb ⟨#[107]⟩) 9 = (1, ⟨9, ⟨#[120]⟩, false⟩) := by kernel_rfl
theorem ex_read3 : readV ⟨[([107], [⟨9, ⟨#[120]⟩, false⟩])], [], [(5, 9)], 0⟩ (kb ⟨#[107]⟩) 8 = (0, zVer) := by kernel_rfl
theorem ex_state : stateV ⟨[([107], [⟨9, ⟨#[120]⟩, false⟩])], [], [(5, 9)], 0⟩ 5 = (2, 9) := by kernel_rfl
theorem C_one {α : Type} {d : Kd α} {g : Nat} {e : TypeId} {w : World} {cs : List Value} {x : α} (hb : w.heap[g]? = some (.cells cs.toArray e (0, 0))) (hK : d.K w x cs) : Kd.C d w (some ⟨g, 0, none⟩) 1 [x] := by
  refine ⟨rfl, by decide, fun _ => ⟨⟨g, 0, none⟩, rfl, fun j p hj => ?_⟩⟩
  cases j with
  | succ j => simp at hj
  | zero =>
    simp at hj
    subst hj
    refine ⟨cs, d.K_len hK, hK, fun i u hu => ?_⟩
    have e : ∀ j : Nat, (⟨g, 0, none⟩ : Addr).add j = ⟨g, j, none⟩ := fun j => by unfold Addr.add; split <;> simp_all
    rw [e, Nat.zero_mul, Nat.zero_add, blk_cell hb i]
    simpa using hu
set_option maxRecDepth 100000 in
set_option maxHeartbeats 4000000 in
theorem works_walk (w : World) : Calls Tryz.prog 8 #[] w fun e w' => e = .returned (.bool true) ∧ Below w.heap.size w w' := by
  have HNW := Aside0.mk (new_walk w)
  go_enter Tryz.func8, Tryz.ntmps8
  go_wp2_with fail
  refine HNW.out.mono ?_
  rintro e w1 ⟨b, rfl, hs1, hb1⟩
  obtain ⟨w2, hw2⟩ : ∃ w2, w2 = w1.alloc (.cells #[.string ⟨#[107]⟩, .string ⟨#[120]⟩, .bool false] 57) := ⟨_, rfl⟩
  have hb2 : Below w1.heap.size w1 w2 := by rw [hw2]; exact below_alloc (Below.refl _ _) _
  have hx2 : w2.heap[w1.heap.size]? = some (.cells #[.string ⟨#[107]⟩, .string ⟨#[120]⟩, .bool false] 57 (0, 0)) := by rw [hw2]; exact blk_new _ _
  have hK : k26.K w2 ex1 [.int .i64 1, .int .i64 5, .int .i64 0, .int .i64 0, .string ⟨#[]⟩, .string ⟨#[]⟩, .bool false, .slice none 0 0, .slice (some ⟨w1.heap.size, 0, none⟩) 1 1] :=
    k26_mk w2 ex1 (A7 := none) (c7 := 0) (Nat.le_refl _) (Kd.C_nil _ _) (A8 := some ⟨w1.heap.size, 0, none⟩) (c8 := 1) (Nat.le_refl _) (C_one (cs := [.string ⟨#[107]⟩, .string ⟨#[120]⟩, .bool false]) hx2 (k57_mk w2 ⟨⟨#[107]⟩, ⟨#[120]⟩, false⟩))
  have hap := apply_walk (hs1.below hb2) (by simp [sh0]) (fun g hg => Nat.le_trans (hb1.trans (hb2.mono hb1.size)).size hg) (by decide) ex1 _ hK (by simp [sizesOk, ex1])
  rw [ex_ok1] at hap
  have HAP := Aside0.mk hap
  have HW2 := Aside0.mk hw2
  have HB2 : Aside0 (Below w.heap.size w w2) := ⟨hb1.trans (hb2.mono hb1.size)⟩
  clear hs1 hb1 hb2 hx2 hK hap hw2 HNW
  go_wp2_with fail
  rw [← HW2.out]
  refine HAP.out.mono ?_
  rintro e w3 ⟨rfl, hs3, hc3⟩
  have HB3 : Aside0 (Below w.heap.size w w3) := ⟨hc3.below HB2.out HB2.out.size (fun g hg => hg)⟩
  have hrd := read_walk hs3 ⟨#[107]⟩ (by decide) 9
  rw [ex_read1] at hrd
  have HRD := Aside0.mk hrd
  have HS3 := Aside0.mk hs3
  clear hs3 hc3 hrd HAP
  go_wp2_with fail
  refine HRD.out.mono ?_
  rintro e w4 ⟨rfl, hb4⟩
  have HB4 : Aside0 (Below w.heap.size w w4) := ⟨HB3.out.trans (hb4.mono HB3.out.size)⟩
  have HS4 := Aside0.mk (HS3.out.below hb4)
  clear hb4 HRD HS3
  obtain ⟨w5, hw5⟩ : ∃ w5, w5 = w4.alloc (.cells #[.int .i64 0, .string ⟨#[]⟩, .bool false] 43) := ⟨_, rfl⟩
  have hb5 : Below w4.heap.size w4 w5 := by rw [hw5]; exact below_alloc (Below.refl _ _) _
  have HB5 : Aside0 (Below w.heap.size w w5) := ⟨HB4.out.trans (hb5.mono HB4.out.size)⟩
  have hap := apply_walk (HS4.out.below hb5) (by simp) (fun g hg => Nat.le_trans HB5.out.size hg) (by decide) ex2 _ (k26_mk w5 ex2 (A7 := none) (c7 := 0) (Nat.le_refl _) (Kd.C_nil _ _) (A8 := none) (c8 := 0) (Nat.le_refl _) (Kd.C_nil _ _)) (by simp [sizesOk, ex2])
  rw [ex_ok2] at hap
  have HAP := Aside0.mk hap
  have HW5 := Aside0.mk hw5
  clear hb5 hap hw5 HS4
  have hz : zVer = (⟨0, ⟨#[]⟩, false⟩ : Ver) := rfl
  go_wp2_with fail
  rw [← HW5.out]
  refine HAP.out.mono ?_
  rintro e w6 ⟨rfl, hs6, hc6⟩
  have HB6 : Aside0 (Below w.heap.size w w6) := ⟨hc6.below HB5.out HB5.out.size (fun g hg => hg)⟩
  have hrd := read_walk hs6 ⟨#[107]⟩ (by decide) 9
  rw [ex_read2] at hrd
  have HRD := Aside0.mk hrd
  have HS6 := Aside0.mk hs6
  clear hs6 hc6 hrd HAP
  go_wp2_with fail
  refine HRD.out.mono ?_
  rintro e w7 ⟨rfl, hb7⟩
  have HB7 : Aside0 (Below w.heap.size w w7) := ⟨HB6.out.trans (hb7.mono HB6.out.size)⟩
  have HS7 := Aside0.mk (HS6.out.below hb7)
  clear hb7 HRD HS6
  obtain ⟨w8, hw8⟩ : ∃ w8, w8 = w7.alloc (.cells #[.int .i64 9, .string ⟨#[120]⟩, .bool false] 43) := ⟨_, rfl⟩
  have hb8 : Below w7.heap.size w7 w8 := by rw [hw8]; exact below_alloc (Below.refl _ _) _
  have hx8 : w8.heap[w7.heap.size]? = some (.cells #[.int .i64 9, .string ⟨#[120]⟩, .bool false] 43 (0, 0)) := by rw [hw8]; exact blk_new _ _
  have HB8 : Aside0 (Below w.heap.size w w8) := ⟨HB7.out.trans (hb8.mono HB7.out.size)⟩
  have hrd := read_walk (HS7.out.below hb8) ⟨#[107]⟩ (by decide) 8
  rw [ex_read3] at hrd
  have HRD := Aside0.mk hrd
  have HS8 := Aside0.mk (HS7.out.below hb8)
  have HX8 := Aside0.mk hx8
  have HW8 := Aside0.mk hw8
  clear hb8 hx8 hw8 hrd HS7
  go_wp2_with fail
  rw [← HW8.out]
  refine HRD.out.mono ?_
  rintro e w9 ⟨rfl, hb9⟩
  have HB9 : Aside0 (Below w.heap.size w w9) := ⟨HB8.out.trans (hb9.mono HB8.out.size)⟩
  have HX9 := Aside0.mk (blk_below HX8.out hb9)
  have HS9 := Aside0.mk (HS8.out.below hb9)
  clear hb9 HRD HS8
  obtain ⟨w10, hw10⟩ : ∃ w10, w10 = w9.alloc (.cells #[.int .i64 0, .string ⟨#[]⟩, .bool false] 43) := ⟨_, rfl⟩
  have hb10 : Below w9.heap.size w9 w10 := by rw [hw10]; exact below_alloc (Below.refl _ _) _
  have HB10 : Aside0 (Below w.heap.size w w10) := ⟨HB9.out.trans (hb10.mono HB9.out.size)⟩
  have HX10 := Aside0.mk (blk_below HX9.out hb10)
  have hst := state_walk (HS9.out.below hb10) 5 (by decide)
  rw [ex_state] at hst
  have HST := Aside0.mk hst
  have HW10 := Aside0.mk hw10
  clear hb10 hw10 hst HS9
  go_wp2_with fail
  rw [← HW10.out]
  refine HST.out.mono ?_
  rintro e w11 ⟨rfl, hb11⟩
  have HB11 : Aside0 (Below w.heap.size w w11) := ⟨HB10.out.trans (hb11.mono HB10.out.size)⟩
  have x1 := (blk_cell (blk_below HX10.out hb11) 1).trans rfl
  clear hb11 HST
  go_wp2_with fail
  go_ret
  exact ⟨rfl, HB11.out⟩
theorem made_take (l : List Rec) (k : Nat) (hk : k < l.length) : (l.take (k + 1)).foldl (fun s r => (applyV s r).2) sh0 = (applyV ((l.take k).foldl (fun s r => (applyV s r).2) sh0) (l[k])).2 := by
  rw [List.take_succ_eq_append_getElem hk, List.foldl_append]
  rfl
set_option maxRecDepth 100000 in
set_option maxHeartbeats 4000000 in
theorem made_walk (w : World) (A : Option Addr) (c : Nat) (l : List Rec) (hr : Kd.C k26 w A l.length l) (hs : ∀ r ∈ l, sizesOk r) :
    Calls Tryz.prog 7 #[.slice A l.length c] w fun e w' => ∃ b, e = .returned (.pointer (some ⟨b, 0, none⟩)) ∧ ShAt w' (fun g => w.heap.size ≤ g) b 960 (madeV l) ∧ Below w.heap.size w w' := by
  have HNW := Aside0.mk (new_walk w)
  have HR := Aside0.mk hr
  have HS := Aside0.mk hs
  have hmax := Kd.C_max hr
  have HMV : Aside0 (madeV l = (l.take 60).foldl (fun s r => (applyV s r).2) sh0) := ⟨rfl⟩
  clear hr hs
  go_enter Tryz.func7, Tryz.ntmps7
  go_wp2_with fail
  refine HNW.out.mono ?_
  rintro e w1 ⟨b, rfl, hs1, hb1⟩
  have HS1 : Aside0 (ShAt w1 (fun g => w.heap.size ≤ g) b (16 * 0) ((l.take 0).foldl (fun s r => (applyV s r).2) sh0)) := ⟨hs1⟩
  have HB1 := Aside0.mk hb1
  clear hs1 hb1 HNW
  go_wp2_with fail
  go_loopw [4] (fun i wr => ∃ k : Nat, k ≤ l.length ∧ k ≤ 60 ∧ i = .int .i64 (k : Int) ∧ Aside0 (ShAt wr (fun g => w.heap.size ≤ g) b (16 * k) ((l.take k).foldl (fun s r => (applyV s r).2) sh0)) ∧ Aside0 (Below w.heap.size w wr)) (fun i _ => l.length - (intOf i).toNat)
  case atStart => exact ⟨0, Nat.zero_le _, Nat.zero_le _, rfl, HS1, HB1⟩
  case round =>
    clear HS1 HB1
    obtain ⟨k, hk, hk6, rfl, HSH, HB⟩ := hrel
    by_cases hlt : k < l.length ∧ k < 60
    · obtain ⟨hlt, hlt6⟩ := hlt
      obtain ⟨ad, cs, rfl, hlen, hK, hc0⟩ := Kd.C_get (Kd.C_below HR.out HB.out) (⟨0, 0, 0, 0, ⟨#[]⟩, ⟨#[]⟩, false, [], []⟩ : Rec) (k : Int) (by omega) (by omega)
      rw [Int.toNat_natCast] at hK hc0
      have hget : l.getD k (⟨0, 0, 0, 0, ⟨#[]⟩, ⟨#[]⟩, false, [], []⟩ : Rec) = l[k] := by simp [List.getElem?_eq_getElem hlt]
      rw [hget] at hK
      have hmem : l[k] ∈ l := List.getElem_mem _
      have hmt := made_take l k hlt
      have hend := fold_ends (l.take k) (s := sh0) (by simp [sh0])
      generalize l[k] = r at *
      have hap := apply_walk HSH.out hend (fun g hg => Nat.le_trans HB.out.size hg) (Nat.lt_of_le_of_lt (show 16 * k + 1024 ≤ 960 + 1024 by omega) (by decide)) r cs hK (HS.out r hmem)
      obtain ⟨A7, c7, A8, c8, rfl, l7, g7, l8, g8⟩ := k26_open hK
      have hc : ∀ j u, [Value.int .i64 r.f0, .int .i64 r.f1, .int .i64 r.f2, .int .i64 r.f3, .string r.f4, .string r.f5, .bool r.f6, .slice A7 r.f7.length c7, .slice A8 r.f8.length c8][j]? = some u → wr.cell? (ad.add (k * 9 + j)) = some u := hc0
      have z0 : wr.cell? (ad.add (k * 9)) = some (.int .i64 r.f0) := hc 0 _ rfl
      have z1 : wr.cell? ⟨(ad.add (k * 9)).block, (ad.add (k * 9)).off + 1, none⟩ = some (.int .i64 r.f1) := by rw [← add_field _ _ 1 (by omega)]; exact hc 1 _ rfl
      have z2 : wr.cell? ⟨(ad.add (k * 9)).block, (ad.add (k * 9)).off + 2, none⟩ = some (.int .i64 r.f2) := by rw [← add_field _ _ 2 (by omega)]; exact hc 2 _ rfl
      have z3 : wr.cell? ⟨(ad.add (k * 9)).block, (ad.add (k * 9)).off + 3, none⟩ = some (.int .i64 r.f3) := by rw [← add_field _ _ 3 (by omega)]; exact hc 3 _ rfl
      have z4 : wr.cell? ⟨(ad.add (k * 9)).block, (ad.add (k * 9)).off + 4, none⟩ = some (.string r.f4) := by rw [← add_field _ _ 4 (by omega)]; exact hc 4 _ rfl
      have z5 : wr.cell? ⟨(ad.add (k * 9)).block, (ad.add (k * 9)).off + 5, none⟩ = some (.string r.f5) := by rw [← add_field _ _ 5 (by omega)]; exact hc 5 _ rfl
      have z6 : wr.cell? ⟨(ad.add (k * 9)).block, (ad.add (k * 9)).off + 6, none⟩ = some (.bool r.f6) := by rw [← add_field _ _ 6 (by omega)]; exact hc 6 _ rfl
      have z7 : wr.cell? ⟨(ad.add (k * 9)).block, (ad.add (k * 9)).off + 7, none⟩ = some (.slice A7 r.f7.length c7) := by rw [← add_field _ _ 7 (by omega)]; exact hc 7 _ rfl
      have z8 : wr.cell? ⟨(ad.add (k * 9)).block, (ad.add (k * 9)).off + 8, none⟩ = some (.slice A8 r.f8.length c8) := by rw [← add_field _ _ 8 (by omega)]; exact hc 8 _ rfl
      have HMT := Aside0.mk hmt
      generalize (l.take k).foldl (fun s r => (applyV s r).2) sh0 = s at *
      have HAP := Aside0.mk hap
      clear hap hc hc0 hK l7 g7 l8 g8 hend hmem hget hlen hmt
      go_wp2_with fail
      refine HAP.out.mono ?_
      rintro e w3 ⟨rfl, hs3, hc3⟩
      have HB3 : Aside0 (Below w.heap.size w w3) := ⟨hc3.below HB.out HB.out.size (fun g hg => hg)⟩
      have HS3 : Aside0 (ShAt w3 (fun g => w.heap.size ≤ g) b (16 * (k + 1)) ((l.take (k + 1)).foldl (fun s r => (applyV s r).2) sh0)) := ⟨by rw [HMT.out]; exact hs3⟩
      clear hs3 hc3 HAP HMT z0 z1 z2 z3 z4 z5 z6 z7 z8
      generalize (applyV s r).1 = rv at *
      go_wp2_with fail
      go_roundw
      case rel => exact ⟨k + 1, by omega, by omega, by go_num, HS3, HB3⟩
      case measure => simp [intOf]; omega
    · have HEND : Aside0 (ShAt wr (fun g => w.heap.size ≤ g) b 960 (madeV l)) := ⟨by
        rw [HMV.out]
        have e : l.take 60 = l.take k := by
          by_cases h6 : k = 60
          · rw [h6]
          · rw [List.take_of_length_le (show l.length ≤ 60 by omega), List.take_of_length_le (show l.length ≤ k by omega)]
        rw [e]
        exact HSH.out.mono (by omega)⟩
      by_cases h6 : k < l.length
      · have h60 : ¬ k < 60 := fun h => hlt ⟨h6, h⟩
        clear hlt
        go_wp2
        go_ret
        exact ⟨b, rfl, HEND.out, HB.out⟩
      · clear hlt
        go_wp2
        go_ret
        exact ⟨b, rfl, HEND.out, HB.out⟩
end Go.Proofs.YtaldfbmjmpkmmaaGreat.PL
namespace Go.Proofs.YtaldfbmjmpkmmaaGreat.PL
open Go.RowKit Go.Proofs.YtaldfbmjmpkmmaaGreatW.PrintWords Go.Proofs.YtaldfbmjmpkmmaaGreatW.PrintLast Go.Proofs.YtaldfbmjmpkmmaaGreatW.PrintMore Go.Shelf Go.Maps Go.WideMaps Go.Proofs.YtaldfbmjmpkmmaaGreat.Mk
set_option linter.unusedVariables false
set_option linter.unusedSimpArgs false
set_option linter.unusedSectionVars false
theorem sizesOk_rec {r : Rec} (h : okRec r) : sizesOk r := by
  unfold okRec at h
  unfold sizesOk
  omega
theorem eqA43 (d : Nat) (w : World) (x0 y0 : Int) (x1 y1 : ByteArray) (x2 y2 : Bool) :
  (Op.equalIn (d + 2) 43 (.agg #[.int .i64 x0, .string x1, .bool x2]) (.agg #[.int .i64 y0, .string y1, .bool y2])).run Tryz.prog w = .ok (x0 == y0 && (x1.toList == y1.toList && (x2 == y2))) w := by
 refine eqA_of Tryz.underlying43 (by kernel_rfl) ?_
 refine eqf_cons (by rfl) (by go_simp; rfl) (by go_simp; rfl) (by go_simp) ?_
 refine eqf_cons (by rfl) (by go_simp; rfl) (by go_simp; rfl) (by go_simp) ?_
 exact eqf_last (by rfl) (by go_simp; rfl) (by go_simp; rfl) (by go_simp)
section
variable {ok ok' : Nat → Prop} {w w' : World} {b N : Nat} {s : Sh} {bk bp : Nat} {ve : Value} {fk fp : Lit → Option Value}
/-- A shelf's blocks are there: of them alone must be asked what is ok. -/
theorem Parts.narrow (h : Parts w ok b N s bk bp ve fk fp) (hok : ∀ g, ok g → g < w.heap.size → ok' g) : Parts w ok' b N s bk bp ve fk fp :=
  ⟨h.box, h.keys, h.preps, Kd.R_mono (Kd.R_bound h.ends) (fun k hk => hok k hk.1 hk.2.2.1), fun q v hq => by
    obtain ⟨k, h1, h2, h3⟩ := h.kf q v hq
    exact ⟨k, h1, h2, Kd.R_mono (Kd.R_bound h3) (fun k hk => hok k hk.1 hk.2.2.1)⟩, h.kt, fun q v hq => by
    obtain ⟨r, h1, h2, cs, h3, h4⟩ := h.pf q v hq
    exact ⟨r, h1, h2, cs, h3, k26.M_mono (fun k hk => hok k hk.1 hk.2.2.1) (k26.M_bound h4)⟩, h.pt, hok b h.okb (blk_lt h.box), hok bk h.okk h.keys.lt, hok bp h.okp h.preps.lt, h.ne, h.good⟩
theorem ShAt.narrow (h : ShAt w ok b N s) (hok : ∀ g, ok g → g < w.heap.size → ok' g) : ShAt w ok' b N s := by
  obtain ⟨bk, bp, ve, fk, fp, hp⟩ := h
  exact ⟨bk, bp, ve, fk, fp, hp.narrow hok⟩
/-- .. and stay where others change. -/
theorem Parts.apart (h : Parts w ok b N s bk bp ve fk fp) (hc : Chg ok' w w') (hd : ∀ g, ok g → ¬ ok' g) : Parts w' ok b N s bk bp ve fk fp :=
  have hb : ∀ g, ok g → g < w.heap.size → w'.heap[g]? = w.heap[g]? := fun g hg hl => hc.block g hl (hd g hg)
  have hm : ∀ {k n : Nat} {x : Nat} {f : Lit → Option Value}, ok x → MapL Tryz.prog k w x n f → MapL Tryz.prog k w' x n f := fun hx h => by
    have hl := h.lt
    obtain ⟨D, ⟨es, clock, h1, h2, h3, h4⟩, hh⟩ := h
    exact ⟨D, ⟨es, clock, (hb _ hx hl).trans h1, h2, h3, h4⟩, hh⟩
  ⟨(hb b h.okb (blk_lt h.box)).trans h.box, hm h.okk h.keys, hm h.okp h.preps, R_keep h.ends (fun g hg q _ cells hc => hb g hg (blk_lt hc)), fun q v hq => by
    obtain ⟨k, h1, h2, h3⟩ := h.kf q v hq
    exact ⟨k, h1, h2, R_keep h3 (fun g hg q _ cells hc => hb g hg (blk_lt hc))⟩, h.kt, fun q v hq => by
    obtain ⟨r, h1, h2, cs, h3, h4⟩ := h.pf q v hq
    exact ⟨r, h1, h2, cs, h3, M_keep h4 (fun g hg q _ cells hc => hb g hg (blk_lt hc))⟩, h.pt, h.okb, h.okk, h.okp, h.ne, h.good⟩
theorem ShAt.apart (h : ShAt w ok b N s) (hc : Chg ok' w w') (hd : ∀ g, ok g → ¬ ok' g) : ShAt w' ok b N s := by
  obtain ⟨bk, bp, ve, fk, fp, hp⟩ := h
  exact ⟨bk, bp, ve, fk, fp, hp.apart hc hd⟩
end
end Go.Proofs.YtaldfbmjmpkmmaaGreat.PL
namespace Go.Proofs
open Go.Shelf
def Tryz.keysP_ren : Go.Shelf.Ren := ⟨fun | 7 => 39 | 10 => 84 | n => n, fun | 23 => 66 | 26 => 3 | 3 => 26 | 28 => 83 | 0 => 0 | 27 => 82 | 33 => 118 | 4 => 4 | n => n, fun | n => n⟩
theorem Tryz.keysP : Go.Proofs.SlLaysZI.n7 Tryz.prog Tryz.keysP_ren := {
  mixed := by kernel_rfl
  f7 := ⟨Tryz.f39.name, by decide, Tryz.func39.trans (congrArg some (by kernel_rfl))⟩
  f10 := ⟨Tryz.f84.name, by decide, Tryz.func84.trans (congrArg some (by kernel_rfl))⟩
  t0 := Tryz.underlying0
  a0 := Tryz.isAgg0
  z0 := Tryz.sizeOf0
  v0 := Tryz.zeroValue0
  t4 := Tryz.underlying4
  a4 := Tryz.isAgg4
  z4 := Tryz.sizeOf4
  v4 := Tryz.zeroValue4
  t23 := Tryz.underlying66
  a23 := Tryz.isAgg66
  z23 := Tryz.sizeOf66
  v23 := Tryz.zeroValue66
  t26 := Tryz.underlying3
  a26 := Tryz.isAgg3
  z26 := Tryz.sizeOf3
  v26 := Tryz.zeroValue3
  t27 := Tryz.underlying82
  a27 := Tryz.isAgg82
  z27 := Tryz.sizeOf82
  v27 := Tryz.zeroValue82
  t28 := Tryz.underlying83
  a28 := Tryz.isAgg83
  z28 := Tryz.sizeOf83
  v28 := Tryz.zeroValue83
  t33 := Tryz.underlying118
  a33 := Tryz.isAgg118
  z33 := Tryz.sizeOf118
  v33 := Tryz.zeroValue118 }
def Tryz.sortedI_ren : Go.Shelf.Ren := ⟨fun | 6 => 38 | 8 => 82 | 9 => 83 | 11 => 112 | 13 => 106 | 12 => 113 | 23 => 129 | 24 => 130 | 14 => 135 | 15 => 136 | 16 => 137 | 17 => 138 | 18 => 139 | 19 => 140 | 20 => 141 | 21 => 142 | 22 => 143 | 25 => 150 | 26 => 145 | 27 => 146 | 28 => 151 | 29 => 152 | 30 => 153 | 31 => 155 | n => n, fun | 26 => 3 | 28 => 83 | 24 => 35 | 0 => 0 | 3 => 3 | 37 => 139 | 48 => 161 | 50 => 163 | 4 => 4 | 40 => 154 | 39 => 153 | 45 => 128 | 5 => 5 | 9 => 9 | 51 => 172 | 55 => 176 | 57 => 180 | 58 => 63 | 33 => 118 | n => n, fun | n => n⟩
theorem Tryz.sortedI : Go.Proofs.SlLaysZI.n6 Tryz.prog Tryz.sortedI_ren := {
  mixed := by kernel_rfl
  f6 := ⟨Tryz.f38.name, by decide, Tryz.func38.trans (congrArg some (by kernel_rfl))⟩
  f8 := ⟨Tryz.f82.name, by decide, Tryz.func82.trans (congrArg some (by kernel_rfl))⟩
  f11 := ⟨Tryz.f112.name, by decide, Tryz.func112.trans (congrArg some (by kernel_rfl))⟩
  t0 := Tryz.underlying0
  a0 := Tryz.isAgg0
  z0 := Tryz.sizeOf0
  v0 := Tryz.zeroValue0
  t24 := Tryz.underlying35
  a24 := Tryz.isAgg35
  z24 := Tryz.sizeOf35
  v24 := Tryz.zeroValue35
  t26 := Tryz.underlying3
  a26 := Tryz.isAgg3
  z26 := Tryz.sizeOf3
  v26 := Tryz.zeroValue3
  t28 := Tryz.underlying83
  a28 := Tryz.isAgg83
  z28 := Tryz.sizeOf83
  v28 := Tryz.zeroValue83
  i26 := by kernel_rfl }
def Tryz.sortI_ren : Go.Shelf.Ren := ⟨fun | 5 => 83 | 8 => 106 | 7 => 113 | 19 => 129 | 20 => 130 | 10 => 135 | 11 => 136 | 12 => 137 | 13 => 138 | 14 => 139 | 15 => 140 | 16 => 141 | 17 => 142 | 18 => 143 | 30 => 150 | 31 => 145 | 32 => 146 | 33 => 151 | 34 => 152 | 35 => 153 | 40 => 155 | n => n, fun | 23 => 35 | 25 => 3 | 3 => 3 | 32 => 139 | 22 => 35 | 0 => 0 | 44 => 161 | 46 => 163 | 4 => 4 | 36 => 154 | 35 => 153 | 41 => 128 | 5 => 5 | 9 => 9 | 53 => 172 | 57 => 176 | 63 => 180 | 64 => 63 | n => n, fun | n => n⟩
theorem Tryz.sortI : Go.Proofs.SlLaysM.n5 Tryz.prog Tryz.sortI_ren := {
  mixed := by kernel_rfl
  f5 := ⟨Tryz.f83.name, by decide, Tryz.func83.trans (congrArg some (by kernel_rfl))⟩
  f7 := ⟨Tryz.f113.name, by decide, Tryz.func113.trans (congrArg some (by kernel_rfl))⟩
  f8 := Tryz.func106.trans (congrArg some (by kernel_rfl))
  f10 := ⟨Tryz.f135.name, by decide, Tryz.func135.trans (congrArg some (by kernel_rfl))⟩
  f11 := ⟨Tryz.f136.name, by decide, Tryz.func136.trans (congrArg some (by kernel_rfl))⟩
  f12 := ⟨Tryz.f137.name, by decide, Tryz.func137.trans (congrArg some (by kernel_rfl))⟩
  f13 := ⟨Tryz.f138.name, by decide, Tryz.func138.trans (congrArg some (by kernel_rfl))⟩
  f14 := ⟨Tryz.f139.name, by decide, Tryz.func139.trans (congrArg some (by kernel_rfl))⟩
  f15 := ⟨Tryz.f140.name, by decide, Tryz.func140.trans (congrArg some (by kernel_rfl))⟩
  f16 := ⟨Tryz.f141.name, by decide, Tryz.func141.trans (congrArg some (by kernel_rfl))⟩
  f17 := ⟨Tryz.f142.name, by decide, Tryz.func142.trans (congrArg some (by kernel_rfl))⟩
  f18 := ⟨Tryz.f143.name, by decide, Tryz.func143.trans (congrArg some (by kernel_rfl))⟩
  f19 := Tryz.func129.trans (congrArg some (by kernel_rfl))
  f20 := Tryz.func130.trans (congrArg some (by kernel_rfl))
  f30 := ⟨Tryz.f150.name, by decide, Tryz.func150.trans (congrArg some (by kernel_rfl))⟩
  f31 := Tryz.func145.trans (congrArg some (by kernel_rfl))
  f32 := Tryz.func146.trans (congrArg some (by kernel_rfl))
  f33 := ⟨Tryz.f151.name, by decide, Tryz.func151.trans (congrArg some (by kernel_rfl))⟩
  f34 := ⟨Tryz.f152.name, by decide, Tryz.func152.trans (congrArg some (by kernel_rfl))⟩
  f35 := ⟨Tryz.f153.name, by decide, Tryz.func153.trans (congrArg some (by kernel_rfl))⟩
  f40 := ⟨Tryz.f155.name, by decide, Tryz.func155.trans (congrArg some (by kernel_rfl))⟩
  t0 := Tryz.underlying0
  a0 := Tryz.isAgg0
  z0 := Tryz.sizeOf0
  v0 := Tryz.zeroValue0
  t3 := Tryz.underlying3
  a3 := Tryz.isAgg3
  z3 := Tryz.sizeOf3
  v3 := Tryz.zeroValue3
  t4 := Tryz.underlying4
  a4 := Tryz.isAgg4
  z4 := Tryz.sizeOf4
  v4 := Tryz.zeroValue4
  t5 := Tryz.underlying5
  a5 := Tryz.isAgg5
  z5 := Tryz.sizeOf5
  v5 := Tryz.zeroValue5
  t9 := Tryz.underlying9
  a9 := Tryz.isAgg9
  z9 := Tryz.sizeOf9
  v9 := Tryz.zeroValue9
  t22 := Tryz.underlying35
  a22 := Tryz.isAgg35
  z22 := Tryz.sizeOf35
  v22 := Tryz.zeroValue35
  t23 := Tryz.underlying35
  a23 := Tryz.isAgg35
  z23 := Tryz.sizeOf35
  v23 := Tryz.zeroValue35
  t25 := Tryz.underlying3
  a25 := Tryz.isAgg3
  z25 := Tryz.sizeOf3
  v25 := Tryz.zeroValue3
  t32 := Tryz.underlying139
  a32 := Tryz.isAgg139
  z32 := Tryz.sizeOf139
  v32 := Tryz.zeroValue139
  t35 := Tryz.underlying153
  a35 := Tryz.isAgg153
  z35 := Tryz.sizeOf153
  v35 := Tryz.zeroValue153
  t36 := Tryz.underlying154
  a36 := Tryz.isAgg154
  z36 := Tryz.sizeOf154
  v36 := Tryz.zeroValue154
  t41 := Tryz.underlying128
  a41 := Tryz.isAgg128
  z41 := Tryz.sizeOf128
  v41 := Tryz.zeroValue128
  t44 := Tryz.underlying161
  a44 := Tryz.isAgg161
  z44 := Tryz.sizeOf161
  v44 := Tryz.zeroValue161
  t46 := Tryz.underlying163
  a46 := Tryz.isAgg163
  z46 := Tryz.sizeOf163
  v46 := Tryz.zeroValue163
  t53 := Tryz.underlying172
  a53 := Tryz.isAgg172
  z53 := Tryz.sizeOf172
  v53 := Tryz.zeroValue172
  t57 := Tryz.underlying176
  a57 := Tryz.isAgg176
  z57 := Tryz.sizeOf176
  v57 := Tryz.zeroValue176
  t63 := Tryz.underlying180
  a63 := Tryz.isAgg180
  z63 := Tryz.sizeOf180
  v63 := Tryz.zeroValue180
  t64 := Tryz.underlying63
  a64 := Tryz.isAgg63
  z64 := Tryz.sizeOf63
  v64 := Tryz.zeroValue63 }
def Tryz.keysK_ren : Go.Shelf.Ren := ⟨fun | 7 => 30 | 10 => 67 | n => n, fun | 23 => 65 | 26 => 9 | 3 => 74 | 28 => 72 | 0 => 0 | 27 => 71 | 33 => 101 | 4 => 4 | n => n, fun | n => n⟩
theorem Tryz.keysK : Go.Proofs.SlLaysZ.n7 Tryz.prog Tryz.keysK_ren := {
  mixed := by kernel_rfl
  f7 := ⟨Tryz.f30.name, by decide, Tryz.func30.trans (congrArg some (by kernel_rfl))⟩
  f10 := ⟨Tryz.f67.name, by decide, Tryz.func67.trans (congrArg some (by kernel_rfl))⟩
  t0 := Tryz.underlying0
  a0 := Tryz.isAgg0
  z0 := Tryz.sizeOf0
  v0 := Tryz.zeroValue0
  t4 := Tryz.underlying4
  a4 := Tryz.isAgg4
  z4 := Tryz.sizeOf4
  v4 := Tryz.zeroValue4
  t23 := Tryz.underlying65
  a23 := Tryz.isAgg65
  z23 := Tryz.sizeOf65
  v23 := Tryz.zeroValue65
  t26 := Tryz.underlying9
  a26 := Tryz.isAgg9
  z26 := Tryz.sizeOf9
  v26 := Tryz.zeroValue9
  t27 := Tryz.underlying71
  a27 := Tryz.isAgg71
  z27 := Tryz.sizeOf71
  v27 := Tryz.zeroValue71
  t28 := Tryz.underlying72
  a28 := Tryz.isAgg72
  z28 := Tryz.sizeOf72
  v28 := Tryz.zeroValue72
  t33 := Tryz.underlying101
  a33 := Tryz.isAgg101
  z33 := Tryz.sizeOf101
  v33 := Tryz.zeroValue101 }
def Tryz.sortedS_ren : Go.Shelf.Ren := ⟨fun | 6 => 29 | 8 => 65 | 9 => 66 | 11 => 104 | 13 => 106 | 12 => 105 | 23 => 129 | 24 => 130 | 14 => 120 | 15 => 121 | 16 => 122 | 17 => 123 | 18 => 124 | 19 => 125 | 20 => 126 | 21 => 127 | 22 => 128 | 25 => 144 | 26 => 145 | 27 => 146 | 28 => 147 | 29 => 148 | 30 => 149 | 31 => 154 | n => n, fun | 26 => 9 | 28 => 72 | 24 => 23 | 0 => 0 | 3 => 3 | 37 => 139 | 48 => 161 | 50 => 163 | 4 => 4 | 40 => 154 | 39 => 153 | 45 => 128 | 5 => 5 | 9 => 9 | 51 => 172 | 55 => 176 | 57 => 180 | 58 => 63 | 33 => 101 | n => n, fun | n => n⟩
theorem Tryz.sortedS : Go.Proofs.SlLaysZ.n6 Tryz.prog Tryz.sortedS_ren := {
  mixed := by kernel_rfl
  f6 := ⟨Tryz.f29.name, by decide, Tryz.func29.trans (congrArg some (by kernel_rfl))⟩
  f8 := ⟨Tryz.f65.name, by decide, Tryz.func65.trans (congrArg some (by kernel_rfl))⟩
  f11 := ⟨Tryz.f104.name, by decide, Tryz.func104.trans (congrArg some (by kernel_rfl))⟩
  t0 := Tryz.underlying0
  a0 := Tryz.isAgg0
  z0 := Tryz.sizeOf0
  v0 := Tryz.zeroValue0
  t24 := Tryz.underlying23
  a24 := Tryz.isAgg23
  z24 := Tryz.sizeOf23
  v24 := Tryz.zeroValue23
  t26 := Tryz.underlying9
  a26 := Tryz.isAgg9
  z26 := Tryz.sizeOf9
  v26 := Tryz.zeroValue9
  t28 := Tryz.underlying72
  a28 := Tryz.isAgg72
  z28 := Tryz.sizeOf72
  v28 := Tryz.zeroValue72
  i26 := by kernel_rfl }
def Tryz.sortS_ren : Go.Shelf.Ren := ⟨fun | 6 => 66 | 8 => 106 | 9 => 105 | 19 => 129 | 20 => 130 | 21 => 120 | 22 => 121 | 23 => 122 | 24 => 123 | 25 => 124 | 26 => 125 | 27 => 126 | 28 => 127 | 29 => 128 | 36 => 144 | 31 => 145 | 32 => 146 | 37 => 147 | 38 => 148 | 39 => 149 | 41 => 154 | n => n, fun | 27 => 23 | 29 => 9 | 3 => 3 | 32 => 139 | 26 => 23 | 0 => 0 | 44 => 161 | 46 => 163 | 4 => 4 | 36 => 154 | 35 => 153 | 41 => 128 | 5 => 5 | 9 => 9 | 53 => 172 | 57 => 176 | 63 => 180 | 64 => 63 | n => n, fun | n => n⟩
theorem Tryz.sortS : Go.Proofs.SlLaysM.n6 Tryz.prog Tryz.sortS_ren := {
  mixed := by kernel_rfl
  f6 := ⟨Tryz.f66.name, by decide, Tryz.func66.trans (congrArg some (by kernel_rfl))⟩
  f8 := Tryz.func106.trans (congrArg some (by kernel_rfl))
  f9 := ⟨Tryz.f105.name, by decide, Tryz.func105.trans (congrArg some (by kernel_rfl))⟩
  f19 := Tryz.func129.trans (congrArg some (by kernel_rfl))
  f20 := Tryz.func130.trans (congrArg some (by kernel_rfl))
  f21 := ⟨Tryz.f120.name, by decide, Tryz.func120.trans (congrArg some (by kernel_rfl))⟩
  f22 := ⟨Tryz.f121.name, by decide, Tryz.func121.trans (congrArg some (by kernel_rfl))⟩
  f23 := ⟨Tryz.f122.name, by decide, Tryz.func122.trans (congrArg some (by kernel_rfl))⟩
  f24 := ⟨Tryz.f123.name, by decide, Tryz.func123.trans (congrArg some (by kernel_rfl))⟩
  f25 := ⟨Tryz.f124.name, by decide, Tryz.func124.trans (congrArg some (by kernel_rfl))⟩
  f26 := ⟨Tryz.f125.name, by decide, Tryz.func125.trans (congrArg some (by kernel_rfl))⟩
  f27 := ⟨Tryz.f126.name, by decide, Tryz.func126.trans (congrArg some (by kernel_rfl))⟩
  f28 := ⟨Tryz.f127.name, by decide, Tryz.func127.trans (congrArg some (by kernel_rfl))⟩
  f29 := ⟨Tryz.f128.name, by decide, Tryz.func128.trans (congrArg some (by kernel_rfl))⟩
  f31 := Tryz.func145.trans (congrArg some (by kernel_rfl))
  f32 := Tryz.func146.trans (congrArg some (by kernel_rfl))
  f36 := ⟨Tryz.f144.name, by decide, Tryz.func144.trans (congrArg some (by kernel_rfl))⟩
  f37 := ⟨Tryz.f147.name, by decide, Tryz.func147.trans (congrArg some (by kernel_rfl))⟩
  f38 := ⟨Tryz.f148.name, by decide, Tryz.func148.trans (congrArg some (by kernel_rfl))⟩
  f39 := ⟨Tryz.f149.name, by decide, Tryz.func149.trans (congrArg some (by kernel_rfl))⟩
  f41 := ⟨Tryz.f154.name, by decide, Tryz.func154.trans (congrArg some (by kernel_rfl))⟩
  t0 := Tryz.underlying0
  a0 := Tryz.isAgg0
  z0 := Tryz.sizeOf0
  v0 := Tryz.zeroValue0
  t3 := Tryz.underlying3
  a3 := Tryz.isAgg3
  z3 := Tryz.sizeOf3
  v3 := Tryz.zeroValue3
  t4 := Tryz.underlying4
  a4 := Tryz.isAgg4
  z4 := Tryz.sizeOf4
  v4 := Tryz.zeroValue4
  t5 := Tryz.underlying5
  a5 := Tryz.isAgg5
  z5 := Tryz.sizeOf5
  v5 := Tryz.zeroValue5
  t9 := Tryz.underlying9
  a9 := Tryz.isAgg9
  z9 := Tryz.sizeOf9
  v9 := Tryz.zeroValue9
  t26 := Tryz.underlying23
  a26 := Tryz.isAgg23
  z26 := Tryz.sizeOf23
  v26 := Tryz.zeroValue23
  t27 := Tryz.underlying23
  a27 := Tryz.isAgg23
  z27 := Tryz.sizeOf23
  v27 := Tryz.zeroValue23
  t29 := Tryz.underlying9
  a29 := Tryz.isAgg9
  z29 := Tryz.sizeOf9
  v29 := Tryz.zeroValue9
  t32 := Tryz.underlying139
  a32 := Tryz.isAgg139
  z32 := Tryz.sizeOf139
  v32 := Tryz.zeroValue139
  t35 := Tryz.underlying153
  a35 := Tryz.isAgg153
  z35 := Tryz.sizeOf153
  v35 := Tryz.zeroValue153
  t36 := Tryz.underlying154
  a36 := Tryz.isAgg154
  z36 := Tryz.sizeOf154
  v36 := Tryz.zeroValue154
  t41 := Tryz.underlying128
  a41 := Tryz.isAgg128
  z41 := Tryz.sizeOf128
  v41 := Tryz.zeroValue128
  t44 := Tryz.underlying161
  a44 := Tryz.isAgg161
  z44 := Tryz.sizeOf161
  v44 := Tryz.zeroValue161
  t46 := Tryz.underlying163
  a46 := Tryz.isAgg163
  z46 := Tryz.sizeOf163
  v46 := Tryz.zeroValue163
  t53 := Tryz.underlying172
  a53 := Tryz.isAgg172
  z53 := Tryz.sizeOf172
  v53 := Tryz.zeroValue172
  t57 := Tryz.underlying176
  a57 := Tryz.isAgg176
  z57 := Tryz.sizeOf176
  v57 := Tryz.zeroValue176
  t63 := Tryz.underlying180
  a63 := Tryz.isAgg180
  z63 := Tryz.sizeOf180
  v63 := Tryz.zeroValue180
  t64 := Tryz.underlying63
  a64 := Tryz.isAgg63
  z64 := Tryz.sizeOf63
  v64 := Tryz.zeroValue63 }
end Go.Proofs
namespace Go.Proofs
open Go.RowKit Go.Maps Go.Sort Go.Shelf
theorem Tryz.sortsI (m : Nat) : AnyZI.SortsIn Tryz.prog Tryz.sortedI_ren Fence.wide m :=
  ⟨fun blk off cap ss W hH hblk hsz => callsIn_wide.2 (AnyM.slices_Sort_int Tryz.sortI blk off cap ss W hH hblk hsz),
   fun p cap W => callsIn_wide.2 (AnyM.slices_Sort_int_none Tryz.sortI p cap W)⟩
theorem Tryz.maps_KeysP (mb : Option Nat) (W : World) : CallsIn Fence.wide 5 Tryz.prog 39 #[.map mb] W fun e w' => e = .returned (.func (.func 84) #[] #[.pointer (some ⟨W.heap.size, 0, none⟩)]) ∧ w' = W.alloc (.cells #[.map mb] 66) :=
  AnyZI.keys_in Tryz.keysP Fence.wide 5 trivial rfl mb W
set_option maxHeartbeats 1000000 in
theorem Tryz.slices_Sorted_keysP {H : Type} (b nn : Nat) (D0 : DataW H) (R : Value → Option (DataW H × List MemPlace)) (w : World) (hown : w.ownsMap Tryz.prog 3 R b nn D0) (hmax : Maps.size D0 ≤ maxLen) (hbytes : Maps.size D0 * 8 ≤ 140737488355328) :
    CallsIn Fence.wide 5 Tryz.prog 38 #[.func (.func 84) #[] #[.pointer (some ⟨w.heap.size, 0, none⟩)]] (w.alloc (.cells #[.map (some b)] 66)) fun e w' => ∃ (v : Value) (ss : List Int), e = .returned v ∧ ss.Perm (intKeys D0) ∧
      w'.ownsRow (w.alloc (.cells #[.map (some b)] 66)).heap.size 3 1 v ss.length ((ss.mergeSort (fun x y => decide (x ≤ y))).map encZ) ∧ (v = .slice none 0 0 ↔ ss = []) ∧ Below (w.alloc (.cells #[.map (some b)] 66)).heap.size (w.alloc (.cells #[.map (some b)] 66)) w' := by
  have hbl := hown.lt
  have hseq : SeqGives Fence.wide 2 Tryz.prog 84 #[.pointer (some ⟨w.heap.size, 0, none⟩)] encZ (fun ss => ss.Perm (intKeys D0)) (Maps.size D0) (w.alloc (.cells #[.map (some b)] 66)) :=
    AnyZI.keys_gives (ρ := Tryz.keysP_ren) { Tryz.keysP with } Fence.wide _ trivial rfl (by omega) w.heap.size b nn D0 _ (by simp) (by simp) (by
      obtain ⟨es, clock, hb, Ft, hs, hD⟩ := hown
      exact ⟨es, clock, (Below.heap_alloc _ _ b hbl).trans hb, Ft, hs, hD⟩)
  exact AnyZI.sorted_in Tryz.sortedI Fence.wide 5 trivial trivial trivial trivial rfl (by omega) (Tryz.sortsI _) (enters_of Tryz.func83 (by kernel_rfl) rfl) 84 #[.pointer (some ⟨w.heap.size, 0, none⟩)] trivial (enters_of Tryz.func84 (by kernel_rfl) rfl) _ _ hmax hbytes _ hseq
end Go.Proofs
namespace Go.Proofs.YtaldfbmjmpkmmaaGreat.PL
open Go.RowKit Go.Proofs.YtaldfbmjmpkmmaaGreatW.PrintWords Go.Proofs.YtaldfbmjmpkmmaaGreatW.PrintLast Go.Proofs.YtaldfbmjmpkmmaaGreatW.PrintMore Go.Sort Go.Shelf Go.Maps Go.WideMaps Go.Proofs.YtaldfbmjmpkmmaaGreat.Mk
set_option linter.unusedVariables false
set_option linter.unusedSimpArgs false
set_option linter.unusedSectionVars false
theorem R_intsO {w : World} {base : Nat} {v : Value} {rs : List Int} (h : w.ownsRow base 3 1 v rs.length (rs.map encZ)) : Kd.R (Kd.int .i64) 3 w base (fun _ => True) v rs := by
  refine ⟨fun _ _ => trivial, rs.map encZ, h, ?_, fun j p hj => ?_⟩
  · show (rs.map encZ).length = rs.length * 1
    simp
  · obtain ⟨hl, hp⟩ := List.getElem?_eq_some_iff.1 hj
    show ((rs.map encZ).drop (j * 1)).take 1 = [Value.int .i64 p]
    have hl' : j < (rs.map encZ).length := by simpa using hl
    rw [Nat.mul_one, List.drop_eq_getElem_cons hl']
    simp [hp, encZ]
theorem ownsRow_lower {w : World} {a b e size n : Nat} {v : Value} {xs : List Value} (h : w.ownsRow a e size v n xs) (hab : b ≤ a) : w.ownsRow b e size v n xs := own_weaken h hab
/-- Two lists that rise and hold the same are one. -/
theorem rise_eq : ∀ {a b : List Int}, a.Pairwise (· < ·) → b.Pairwise (· < ·) → (∀ i, i ∈ a ↔ i ∈ b) → a = b
  | [], [], _, _, _ => rfl
  | [], y :: b, _, _, h => absurd ((h y).2 (by simp)) (by simp)
  | x :: a, [], _, _, h => absurd ((h x).1 (by simp)) (by simp)
  | x :: a, y :: b, ha, hb, h => by
    obtain ⟨ha1, ha2⟩ := List.pairwise_cons.1 ha
    obtain ⟨hb1, hb2⟩ := List.pairwise_cons.1 hb
    have hxy : x = y := by
      rcases List.mem_cons.1 ((h x).1 List.mem_cons_self) with e | hx
      · exact e
      · rcases List.mem_cons.1 ((h y).2 List.mem_cons_self) with e | hy
        · exact e.symm
        · have := hb1 x hx
          have := ha1 y hy
          omega
    subst hxy
    rw [rise_eq ha2 hb2 (fun i => by
      constructor
      · intro hi
        rcases List.mem_cons.1 ((h i).1 (List.mem_cons_of_mem _ hi)) with e | hi2
        · have := ha1 i hi
          omega
        · exact hi2
      · intro hi
        rcases List.mem_cons.1 ((h i).2 (List.mem_cons_of_mem _ hi)) with e | hi2
        · have := hb1 i hi
          omega
        · exact hi2)]
set_option maxHeartbeats 1000000 in
theorem sortedP_calls (w : World) (b N : Nat) (f : Lit → Option Value) (h : MapL Tryz.prog 3 w b N f) (hN : N ≤ 1000000) :
    Calls Tryz.prog 38 #[.func (.func 84) #[] #[.pointer (some ⟨w.heap.size, 0, none⟩)]] (w.alloc (.cells #[.map (some b)] 66)) fun e w' => ∃ (v : Value) (ks : List Int), e = .returned v ∧ ks.Pairwise (· < ·) ∧ (∀ i, i ∈ ks ↔ (f (ik i)).isSome = true) ∧
      Kd.R (Kd.int .i64) 3 w' w.heap.size (fun _ => True) v ks ∧ Below w.heap.size w w' := by
  obtain ⟨D, hown, hhas, hat⟩ := h
  have hsz := hown.size_le
  have hmax : Maps.size D ≤ maxLen := Nat.le_trans hsz (Nat.le_trans hN (by unfold maxLen; decide))
  refine ((callsIn_wide (n := 5)).1 (Tryz.slices_Sorted_keysP b N D Rv w hown hmax (by omega))).mono ?_
  rintro e w' ⟨v, ss, rfl, hS, hrow, _, hb⟩
  obtain ⟨es, hD, hpw, _⟩ := hown.entries keyedI
  obtain ⟨es', hD', hko⟩ := hown.keysOf
  obtain rfl : es = es' := by rw [hD] at hD'; simpa using hD'
  subst hD
  have hk : ∀ p ∈ es, ∃ x, p.1 = .int .i64 x := fun p hp => by obtain ⟨v, hv⟩ := hko p hp; obtain ⟨x, _, hx, _⟩ := Maps.keyOf_i64 Tryz.underlying3 hv; exact ⟨x, hx⟩
  have hmem : ∀ x, x ∈ intKeys (.map es) ↔ Maps.has (.map es) (.int .i64 x) = true := by
    intro x
    rw [has_eq, List.any_eq_true]
    show x ∈ es.map (fun p => Go.intOf p.1) ↔ _
    rw [List.mem_map]
    constructor
    · rintro ⟨p, hp', rfl⟩
      obtain ⟨a, ha⟩ := hk p hp'
      exact ⟨p, hp', by rw [ha]; simp [Lit.sameKey, Go.intOf]⟩
    · rintro ⟨p, hp', hs⟩
      obtain ⟨a, ha⟩ := hk p hp'
      rw [ha] at hs
      exact ⟨p, hp', by rw [ha]; simpa [Lit.sameKey, Go.intOf] using hs⟩
  have hnd : (intKeys (.map es)).Nodup := by
    show (es.map fun p => Go.intOf p.1).Nodup
    refine List.pairwise_map.2 (hpw.imp_of_mem fun {p q} hp' hq' hne e => hne ?_)
    obtain ⟨a, ha⟩ := hk p hp'
    obtain ⟨b, hb⟩ := hk q hq'
    rw [ha, hb] at e ⊢
    exact congrArg _ e
  have tr : ∀ a b c : Int, decide (a ≤ b) = true → decide (b ≤ c) = true → decide (a ≤ c) = true := fun a b c h1 h2 => by simp only [decide_eq_true_eq] at *; exact Int.le_trans h1 h2
  have tl : ∀ a b : Int, (decide (a ≤ b) || decide (b ≤ a)) = true := fun a b => by simp only [Bool.or_eq_true, decide_eq_true_eq]; exact Int.le_total a b
  have hpm : (ss.mergeSort (fun x y => decide (x ≤ y))).Perm (intKeys (.map es)) := (List.mergeSort_perm ss _).trans hS
  have hlen : ss.length = (ss.mergeSort (fun x y => decide (x ≤ y))).length := (List.mergeSort_perm ss _).length_eq.symm
  have hup : (ss.mergeSort (fun x y => decide (x ≤ y))).Pairwise (fun a b => a < b) := by
    have h1 := List.pairwise_mergeSort tr tl ss
    have h2 : (ss.mergeSort (fun x y => decide (x ≤ y))).Nodup := (hpm.nodup_iff).2 hnd
    exact (h1.and h2).imp (fun {a b} hab => by
      have := hab.1
      simp only [decide_eq_true_eq] at this
      have hne := hab.2
      omega)
  refine ⟨v, ss.mergeSort (fun x y => decide (x ≤ y)), rfl, hup, fun i => by rw [hpm.mem_iff, hmem, hhas]; rfl, ?_, ((Below.refl _ w).alloc (Nat.le_refl _) _).trans (hb.mono (by simp))⟩
  rw [hlen] at hrow
  exact R_intsO (ownsRow_lower hrow (by simp))
def openV (s : Sh) : List Int := s.P.map (·.f1)
set_option maxRecDepth 100000 in
theorem open_walk {w : World} {ok : Nat → Prop} {b N : Nat} {s : Sh} (h : ShAt w ok b N s) (hN : N ≤ 1000000) :
    Calls Tryz.prog 14 #[.pointer (some ⟨b, 0, none⟩)] w fun e w' => ∃ v, e = .returned v ∧ Kd.R (Kd.int .i64) 3 w' w.heap.size (fun _ => True) v (openV s) ∧ Below w.heap.size w w' := by
  obtain ⟨bk, bp, ve, fk, fp, hp⟩ := h
  obtain ⟨c0, c1, c2, c3⟩ := hp.cells
  have HK := Aside0.mk ((callsIn_wide (n := 5)).1 (Tryz.maps_KeysP (some bp) w))
  have HS := Aside0.mk (sortedP_calls w bp N fp hp.preps hN)
  have HEQ : Aside0 (∀ ks : List Int, ks.Pairwise (· < ·) → (∀ i, i ∈ ks ↔ (fp (ik i)).isSome = true) → ks = openV s) := ⟨fun ks h1 h2 => rise_eq h1 (List.pairwise_map.2 hp.good.rise) (fun i => by
    rw [h2, hp.preps_iff, List.mem_map]
    unfold openV
    rw [List.mem_map]
    constructor
    · rintro ⟨r, hr, e⟩
      exact ⟨r, hr, by unfold ik at e; injection e⟩
    · rintro ⟨r, hr, e⟩
      exact ⟨r, hr, by rw [e]⟩)⟩
  clear hp
  go_enter Tryz.func14, Tryz.ntmps14
  go_wp2_with fail
  refine HK.out.mono ?_
  rintro e w1 ⟨rfl, rfl⟩
  go_wp2_with fail
  refine HS.out.mono ?_
  rintro e w2 ⟨v, ks, rfl, h1, h2, hR, hb⟩
  obtain rfl := HEQ.out ks h1 h2
  have HR := Aside0.mk hR
  have HB := Aside0.mk hb
  clear hR hb h1 h2 c0 c1 c2 c3
  go_wp2_with fail
  go_ret
  exact ⟨_, rfl, HR.out, HB.out⟩
def prepOf (s : Sh) (t : Int) : Option Rec := s.P.find? (fun r => decide (r.f1 = t))
def zRec : Rec := ⟨0, 0, 0, 0, ⟨#[]⟩, ⟨#[]⟩, false, [], []⟩
theorem prep_find {w : World} {ok : Nat → Prop} {b N : Nat} {s : Sh} {bk bp : Nat} {ve : Value} {fk fp : Lit → Option Value} (h : Parts w ok b N s bk bp ve fk fp) (t : Int) : ∃ A7 c7 A8 c8,
    (fp (ik t)).getD (.agg #[.int .i64 0, .int .i64 0, .int .i64 0, .int .i64 0, .string ⟨#[]⟩, .string ⟨#[]⟩, .bool false, .slice none 0 0, .slice none 0 0]) = .agg #[.int .i64 ((prepOf s t).getD zRec).f0, .int .i64 ((prepOf s t).getD zRec).f1, .int .i64 ((prepOf s t).getD zRec).f2, .int .i64 ((prepOf s t).getD zRec).f3, .string ((prepOf s t).getD zRec).f4, .string ((prepOf s t).getD zRec).f5, .bool ((prepOf s t).getD zRec).f6, .slice A7 ((prepOf s t).getD zRec).f7.length c7, .slice A8 ((prepOf s t).getD zRec).f8.length c8] ∧
    k26.K w ((prepOf s t).getD zRec) [.int .i64 ((prepOf s t).getD zRec).f0, .int .i64 ((prepOf s t).getD zRec).f1, .int .i64 ((prepOf s t).getD zRec).f2, .int .i64 ((prepOf s t).getD zRec).f3, .string ((prepOf s t).getD zRec).f4, .string ((prepOf s t).getD zRec).f5, .bool ((prepOf s t).getD zRec).f6, .slice A7 ((prepOf s t).getD zRec).f7.length c7, .slice A8 ((prepOf s t).getD zRec).f8.length c8] ∧
    (fp (ik t)).isSome = (prepOf s t).isSome ∧ ((prepOf s t).getD zRec).f7.length ≤ 16 ∧ ((prepOf s t).getD zRec).f8.length ≤ 16 := by
  have hsome := h.prep_some t
  cases hf : prepOf s t with
  | none =>
    have h1 : s.P.any (fun r => decide (r.f1 = t)) = false := List.any_eq_false.2 (fun r hr => by simpa using List.find?_eq_none.1 hf r hr)
    rw [h1] at hsome
    cases hg : fp (ik t) with
    | some v => rw [hg] at hsome; cases hsome
    | none => exact ⟨none, 0, none, 0, rfl, k26_mk w zRec (Nat.le_refl _) (Kd.C_nil _ _) (Nat.le_refl _) (Kd.C_nil _ _), rfl, by simp [zRec], by simp [zRec]⟩
  | some r =>
    have hr : r ∈ s.P := List.mem_of_find?_eq_some hf
    have hrt : r.f1 = t := of_decide_eq_true (by simpa using List.find?_some hf)
    obtain ⟨v7, v8, e, h7, h8⟩ := h.prep_rec r hr
    obtain ⟨A7, c7, rfl, l7, g7⟩ := Kd.R_reads h7
    obtain ⟨A8, c8, rfl, l8, g8⟩ := Kd.R_reads h8
    have hl := (prep_lists (h.good.recs r hr).1 (h.good.recs r hr).2).1
    rw [hrt] at e
    refine ⟨A7, c7, A8, c8, by rw [e, ← hrt]; rfl, k26_mk w r l7 g7 l8 g8, by rw [e]; rfl, hl.few7, hl.few8⟩
set_option maxRecDepth 100000 in
set_option maxHeartbeats 4000000 in
theorem prep_walk {w : World} {ok : Nat → Prop} {b N : Nat} {s : Sh} (h : ShAt w ok b N s) (t : Int) (ht : -9223372036854775808 ≤ t ∧ t ≤ 9223372036854775807) :
    Calls Tryz.prog 56 #[.pointer (some ⟨b, 0, none⟩), .int .i64 t] w fun e w' => ∃ cs, e = .returned (.tuple #[.agg cs.toArray, .bool (prepOf s t).isSome]) ∧ k26.M w' w.heap.size (fun _ => True) ((prepOf s t).getD zRec) cs ∧ Below w.heap.size w w' := by
  obtain ⟨bk, bp, ve, fk, fp, hp⟩ := h
  obtain ⟨A7, c7, A8, c8, hv, hK, hs, l7, l8⟩ := prep_find hp t
  generalize (prepOf s t).isSome = q at *
  generalize (prepOf s t).getD zRec = r at *
  obtain ⟨w1, hw1⟩ : ∃ w1, w1 = w.alloc (.cells #[.int .i64 0, .int .i64 0, .int .i64 0, .int .i64 0, .string ⟨#[]⟩, .string ⟨#[]⟩, .bool false, .slice none 0 0, .slice none 0 0] 26) := ⟨_, rfl⟩
  have hb1 : Below w.heap.size w w1 := by rw [hw1]; exact below_alloc (Below.refl _ _) _
  have hP1 := hp.below hb1
  obtain ⟨c0, c1, c2, c3⟩ := hP1.cells
  rw [hw1] at c1
  obtain ⟨w2, hw2⟩ : ∃ w2, w2 = w.alloc (.cells #[.int .i64 r.f0, .int .i64 r.f1, .int .i64 r.f2, .int .i64 r.f3, .string r.f4, .string r.f5, .bool r.f6, .slice A7 r.f7.length c7, .slice A8 r.f8.length c8] 26) := ⟨_, rfl⟩
  have hb2 : Below w.heap.size w w2 := by rw [hw2]; exact below_alloc (Below.refl _ _) _
  have hx2 : w2.heap[w.heap.size]? = some (.cells #[.int .i64 r.f0, .int .i64 r.f1, .int .i64 r.f2, .int .i64 r.f3, .string r.f4, .string r.f5, .bool r.f6, .slice A7 r.f7.length c7, .slice A8 r.f8.length c8] 26 (0, 0)) := by rw [hw2]; exact blk_new _ _
  have HCP := Aside0.mk (copied_walk w2 r _ (k26.K_below hb2 hK) (by omega) (by omega))
  have HV := Aside0.mk hv
  have HQ := Aside0.mk hs
  have HP1 := Aside0.mk hP1
  have HW1 := Aside0.mk hw1
  have HW2 := Aside0.mk hw2
  have HB2 := Aside0.mk hb2
  have HX2 := Aside0.mk hx2
  have HT := Aside0.mk ht
  have hu := Tryz.underlying26
  clear hv hs hP1 hw1 hw2 hb1 hb2 hx2 hK hp l7 l8 c0 c2 c3 ht
  go_enter Tryz.func56, Tryz.ntmps56
  go_wp2_with (at_lookup; rw [← HW1.out]; refine MapL.look HP1.out.preps keyedI rfl _ _ 66 26 rfl Tryz.underlying66 (zeroR _) rfl rfl (key_ik HT.out) ?_; rw [HV.out, HQ.out, HW1.out])
  rw [← HW2.out]
  refine HCP.out.mono ?_
  rintro e w3 ⟨cs, rfl, hM, hb3⟩
  obtain ⟨v7, v8, rfl, h7, h8⟩ := k26_openM hM
  obtain ⟨B7, d7, rfl⟩ := Kd.R_slice h7
  obtain ⟨B8, d8, rfl⟩ := Kd.R_slice h8
  have HB3 : Aside0 (Below w.heap.size w w3) := ⟨HB2.out.trans (hb3.mono HB2.out.size)⟩
  have X3 := Aside0.mk (blk_below HX2.out hb3)
  have H7 := Aside0.mk (Kd.R_lower h7 HB2.out.size)
  have H8 := Aside0.mk (Kd.R_lower h8 HB2.out.size)
  clear hM hb3 HCP h7 h8 c1
  obtain ⟨r0, r1, r2, r3, r4, r5, r6, r7, r8⟩ := r
  simp only at *
  have f0 := blk_frozen X3.out 0
  have f1 := blk_frozen X3.out 1
  have f2 := blk_frozen X3.out 2
  have f3 := blk_frozen X3.out 3
  have f4 := blk_frozen X3.out 4
  have f5 := blk_frozen X3.out 5
  have f6 := blk_frozen X3.out 6
  have f7 := blk_frozen X3.out 7
  have f8 := blk_frozen X3.out 8
  have x0 := blk_cell X3.out 0
  have x1 := blk_cell X3.out 1
  have x2 := blk_cell X3.out 2
  have x3 := blk_cell X3.out 3
  have x4 := blk_cell X3.out 4
  have x5 := blk_cell X3.out 5
  have x6 := blk_cell X3.out 6
  have x7 := blk_cell X3.out 7
  have x8 := blk_cell X3.out 8
  go_wp2_with fail
  have z0 := blk_put (cs' := #[.int .i64 r0, .int .i64 r1, .int .i64 r2, .int .i64 r3, .string r4, .string r5, .bool r6, .slice A7 r7.length c7, .slice A8 r8.length c8]) X3.out 0 (.int .i64 r0) rfl
  have z1 := blk_put (cs' := #[.int .i64 r0, .int .i64 r1, .int .i64 r2, .int .i64 r3, .string r4, .string r5, .bool r6, .slice A7 r7.length c7, .slice A8 r8.length c8]) z0 1 (.int .i64 r1) rfl
  have z2 := blk_put (cs' := #[.int .i64 r0, .int .i64 r1, .int .i64 r2, .int .i64 r3, .string r4, .string r5, .bool r6, .slice A7 r7.length c7, .slice A8 r8.length c8]) z1 2 (.int .i64 r2) rfl
  have z3 := blk_put (cs' := #[.int .i64 r0, .int .i64 r1, .int .i64 r2, .int .i64 r3, .string r4, .string r5, .bool r6, .slice A7 r7.length c7, .slice A8 r8.length c8]) z2 3 (.int .i64 r3) rfl
  have z4 := blk_put (cs' := #[.int .i64 r0, .int .i64 r1, .int .i64 r2, .int .i64 r3, .string r4, .string r5, .bool r6, .slice A7 r7.length c7, .slice A8 r8.length c8]) z3 4 (.string r4) rfl
  have z5 := blk_put (cs' := #[.int .i64 r0, .int .i64 r1, .int .i64 r2, .int .i64 r3, .string r4, .string r5, .bool r6, .slice A7 r7.length c7, .slice A8 r8.length c8]) z4 5 (.string r5) rfl
  have z6 := blk_put (cs' := #[.int .i64 r0, .int .i64 r1, .int .i64 r2, .int .i64 r3, .string r4, .string r5, .bool r6, .slice A7 r7.length c7, .slice A8 r8.length c8]) z5 6 (.bool r6) rfl
  have z7 := blk_put (cs' := #[.int .i64 r0, .int .i64 r1, .int .i64 r2, .int .i64 r3, .string r4, .string r5, .bool r6, .slice B7 r7.length d7, .slice A8 r8.length c8]) z6 7 (.slice B7 r7.length d7) rfl
  have z8 := blk_put (cs' := #[.int .i64 r0, .int .i64 r1, .int .i64 r2, .int .i64 r3, .string r4, .string r5, .bool r6, .slice B7 r7.length d7, .slice B8 r8.length d8]) z7 8 (.slice B8 r8.length d8) rfl
  have BZ : Aside0 ((((((((((w3.setCell ⟨w.heap.size, 0, none⟩ (.int .i64 r0)).setCell ⟨w.heap.size, 1, none⟩ (.int .i64 r1)).setCell ⟨w.heap.size, 2, none⟩ (.int .i64 r2)).setCell ⟨w.heap.size, 3, none⟩ (.int .i64 r3)).setCell ⟨w.heap.size, 4, none⟩ (.string r4)).setCell ⟨w.heap.size, 5, none⟩ (.string r5)).setCell ⟨w.heap.size, 6, none⟩ (.bool r6)).setCell ⟨w.heap.size, 7, none⟩ (.slice B7 r7.length d7)).setCell ⟨w.heap.size, 8, none⟩ (.slice B8 r8.length d8)).heap[w.heap.size]? = some (.cells #[.int .i64 r0, .int .i64 r1, .int .i64 r2, .int .i64 r3, .string r4, .string r5, .bool r6, .slice B7 r7.length d7, .slice B8 r8.length d8] 26 (0, 0))) := ⟨z8⟩
  have B6 : Aside0 (Below w.heap.size w (((((((((w3.setCell ⟨w.heap.size, 0, none⟩ (.int .i64 r0)).setCell ⟨w.heap.size, 1, none⟩ (.int .i64 r1)).setCell ⟨w.heap.size, 2, none⟩ (.int .i64 r2)).setCell ⟨w.heap.size, 3, none⟩ (.int .i64 r3)).setCell ⟨w.heap.size, 4, none⟩ (.string r4)).setCell ⟨w.heap.size, 5, none⟩ (.string r5)).setCell ⟨w.heap.size, 6, none⟩ (.bool r6)).setCell ⟨w.heap.size, 7, none⟩ (.slice B7 r7.length d7)).setCell ⟨w.heap.size, 8, none⟩ (.slice B8 r8.length d8))) := ⟨(Below.setCell (Below.setCell (Below.setCell (Below.setCell (Below.setCell (Below.setCell (Below.setCell (Below.setCell (Below.setCell HB3.out (Nat.le_refl _) _) (Nat.le_refl _) _) (Nat.le_refl _) _) (Nat.le_refl _) _) (Nat.le_refl _) _) (Nat.le_refl _) _) (Nat.le_refl _) _) (Nat.le_refl _) _) (Nat.le_refl _) _)⟩
  have HM : Aside0 (∀ k, k ≠ w.heap.size → (((((((((w3.setCell ⟨w.heap.size, 0, none⟩ (.int .i64 r0)).setCell ⟨w.heap.size, 1, none⟩ (.int .i64 r1)).setCell ⟨w.heap.size, 2, none⟩ (.int .i64 r2)).setCell ⟨w.heap.size, 3, none⟩ (.int .i64 r3)).setCell ⟨w.heap.size, 4, none⟩ (.string r4)).setCell ⟨w.heap.size, 5, none⟩ (.string r5)).setCell ⟨w.heap.size, 6, none⟩ (.bool r6)).setCell ⟨w.heap.size, 7, none⟩ (.slice B7 r7.length d7)).setCell ⟨w.heap.size, 8, none⟩ (.slice B8 r8.length d8)).heap[k]? = w3.heap[k]?) := ⟨fun k hk => (Eq.trans (Below.heap_setCell _ _ _ k hk) (Eq.trans (Below.heap_setCell _ _ _ k hk) (Eq.trans (Below.heap_setCell _ _ _ k hk) (Eq.trans (Below.heap_setCell _ _ _ k hk) (Eq.trans (Below.heap_setCell _ _ _ k hk) (Eq.trans (Below.heap_setCell _ _ _ k hk) (Eq.trans (Below.heap_setCell _ _ _ k hk) (Eq.trans (Below.heap_setCell _ _ _ k hk) (Below.heap_setCell _ _ _ k hk)))))))))⟩
  clear z0 z1 z2 z3 z4 z5 z6 z7 z8
  generalize (((((((((w3.setCell ⟨w.heap.size, 0, none⟩ (.int .i64 r0)).setCell ⟨w.heap.size, 1, none⟩ (.int .i64 r1)).setCell ⟨w.heap.size, 2, none⟩ (.int .i64 r2)).setCell ⟨w.heap.size, 3, none⟩ (.int .i64 r3)).setCell ⟨w.heap.size, 4, none⟩ (.string r4)).setCell ⟨w.heap.size, 5, none⟩ (.string r5)).setCell ⟨w.heap.size, 6, none⟩ (.bool r6)).setCell ⟨w.heap.size, 7, none⟩ (.slice B7 r7.length d7)).setCell ⟨w.heap.size, 8, none⟩ (.slice B8 r8.length d8)) = w6 at *
  have Z7 := Aside0.mk (R_box (by decide) H7.out X3.out HM.out)
  have Z8 := Aside0.mk (R_box (by decide) H8.out X3.out HM.out)
  (try simp only [Exit.inBlock, Exit.then])
  refine bodyPost_ret (results_list (rs := [.cell 4 26, .tmp 5]) rfl (by simp) (Vals.cell w.heap.size 26 _ (0, 0) _ rfl BZ.out Tryz.underlying26 rfl (by kernel_rfl) (Vals.tmp Vals.nil))) rfl ?_
  exact ⟨[.int .i64 r0, .int .i64 r1, .int .i64 r2, .int .i64 r3, .string r4, .string r5, .bool r6, .slice B7 r7.length d7, .slice B8 r8.length d8], rfl, k26_mkM _ _ _ (⟨r0, r1, r2, r3, r4, r5, r6, r7, r8⟩ : Rec) Z7.out Z8.out, B6.out⟩
end Go.Proofs.YtaldfbmjmpkmmaaGreat.PL
namespace Go.Proofs.YtaldfbmjmpkmmaaGreat.PL
open Go.RowKit Go.Proofs.YtaldfbmjmpkmmaaGreatW.PrintWords Go.Proofs.YtaldfbmjmpkmmaaGreatW.PrintLast Go.Proofs.YtaldfbmjmpkmmaaGreatW.PrintMore Go.Shelf Go.Maps Go.WideMaps Go.Proofs.YtaldfbmjmpkmmaaGreat.Mk
set_option linter.unusedVariables false
set_option linter.unusedSimpArgs false
set_option linter.unusedSectionVars false
/-- Prepared ones: who writes is alone. -/
structure PApart (P : List Rec) : Prop where
  ww : ∀ a ∈ P, ∀ c ∈ P, a.f1 ≠ c.f1 → ∀ k, wrote a k = true → wrote c k = false
  wk : ∀ a ∈ P, ∀ c ∈ P, a.f1 ≠ c.f1 → ∀ k, wrote a k = true → watches c k = false
theorem wrote_mem {r : Rec} {k : Key} (h : wrote r k = true) : ∃ w ∈ r.f8, wkey w = k := by
  obtain ⟨w, hw, he⟩ := List.any_eq_true.1 h
  exact ⟨w, hw, by simpa [wkey] using he⟩
theorem wrote_of {r : Rec} {w : Wr} (h : w ∈ r.f8) : wrote r (wkey w) = true := List.any_eq_true.2 ⟨w, h, by simp [wkey]⟩
theorem watch_mem {r : Rec} {k : Key} (h : watches r k = true) : ∃ q ∈ r.f7, kb q = k := by
  obtain ⟨q, hq, he⟩ := List.any_eq_true.1 h
  exact ⟨q, hq, by simpa using he⟩
theorem watch_of {r : Rec} {q : ByteArray} (h : q ∈ r.f7) : watches r (kb q) = true := List.any_eq_true.2 ⟨q, h, by simp⟩
theorem held_none {s : Sh} {k : Key} {wt : Bool} (h : heldV s k wt = false) : ∀ r ∈ s.P, wrote r k = false ∧ (wt = true → watches r k = false) := fun r hr => by
  have h1 := List.any_eq_false.1 h r hr
  unfold heldR at h1
  rw [Bool.not_eq_true, Bool.or_eq_false_iff] at h1
  exact ⟨h1.1, fun e => by subst e; simpa using h1.2⟩
theorem papart_prep {s : Sh} {r : Rec} (h : PApart s.P) : PApart (prepV s r).2.P := by
  unfold prepV
  split
  · exact h
  · split
    · exact h
    · rename_i hh
      split
      · exact h
      · rw [Bool.or_eq_true, not_or, Bool.not_eq_true, Bool.not_eq_true] at hh
        have h1 : ∀ k, watches r k = true → ∀ a ∈ s.P, wrote a k = false := fun k hk a ha => by
          obtain ⟨q, hq, rfl⟩ := watch_mem hk
          have := List.any_eq_false.1 hh.1 q hq
          rw [Bool.not_eq_true] at this
          exact (held_none this a ha).1
        have h2 : ∀ k, wrote r k = true → ∀ a ∈ s.P, wrote a k = false ∧ watches a k = false := fun k hk a ha => by
          obtain ⟨w, hw, rfl⟩ := wrote_mem hk
          have := List.any_eq_false.1 hh.2 w hw
          rw [Bool.not_eq_true] at this
          have := held_none this a ha
          exact ⟨this.1, this.2 rfl⟩
        refine ⟨fun a ha c hc hne k hk => ?_, fun a ha c hc hne k hk => ?_⟩
        · rcases (pput_mem r a s.P).1 ha with rfl | ha'
          · rcases (pput_mem a c s.P).1 hc with rfl | hc
            · exact absurd rfl hne
            · exact (h2 k hk c hc).1
          · rcases (pput_mem r c s.P).1 hc with rfl | hc
            · cases hw : wrote c k with
              | false => rfl
              | true => rw [(h2 k hw a ha').1] at hk; cases hk
            · exact h.ww a ha' c hc hne k hk
        · rcases (pput_mem r a s.P).1 ha with rfl | ha'
          · rcases (pput_mem a c s.P).1 hc with rfl | hc
            · exact absurd rfl hne
            · exact (h2 k hk c hc).2
          · rcases (pput_mem r c s.P).1 hc with rfl | hc
            · cases hw : watches c k with
              | false => rfl
              | true => rw [h1 k hw a ha'] at hk; cases hk
            · exact h.wk a ha' c hc hne k hk
theorem papart_sub {P Q : List Rec} (h : PApart P) (hs : ∀ r ∈ Q, r ∈ P) : PApart Q := ⟨fun a ha c hc => h.ww a (hs a ha) c (hs c hc), fun a ha c hc => h.wk a (hs a ha) c (hs c hc)⟩
theorem papart_end {s : Sh} (h : PApart s.P) (t ts : Int) : PApart (endV s t ts).P := papart_sub h (fun r hr => (List.mem_filter.1 hr).1)
theorem papart_apply {s : Sh} (h : PApart s.P) (r : Rec) : PApart (applyV s r).2.P := by
  unfold applyV
  split
  · split
    · exact papart_prep h
    · split
      · unfold doV
        split
        · exact h
        · split
          · exact h
          · split
            · split
              · exact papart_sub h (fun r hr => (List.mem_filter.1 hr).1)
              · exact h
            · exact papart_end h _ _
      · split
        · unfold sweepV
          split
          · exact h
          · exact h
        · split
          · split
            · exact h
            · exact h
          · exact h
  · exact h
theorem papart_fold : ∀ (l : List Rec) {s : Sh}, PApart s.P → PApart (l.foldl (fun s r => (applyV s r).2) s).P
  | [], _, h => h
  | r :: l, _, h => papart_fold l (papart_apply h r)
theorem papart_made (l : List Rec) : PApart (madeV l).P := papart_fold _ ⟨by simp [sh0], by simp [sh0]⟩
/-- The i-th prepared one is found by its number. -/
theorem prepOf_at {s : Sh} (h : ShOk s) (i : Nat) (hi : i < s.P.length) : prepOf s (s.P[i]).f1 = some s.P[i] := by
  unfold prepOf
  cases hf : s.P.find? (fun r => decide (r.f1 = (s.P[i]).f1)) with
  | none => exact absurd (decide_eq_true rfl) (List.find?_eq_none.1 hf _ (List.getElem_mem hi))
  | some r =>
    have h1 : r ∈ s.P := List.mem_of_find?_eq_some hf
    have h2 : r.f1 = (s.P[i]).f1 := of_decide_eq_true (by simpa using List.find?_some hf)
    rw [prep_one h.rise h1 (List.getElem_mem hi) h2]
theorem read_held {s : Sh} (h : ShOk s) {k : Key} (hk : heldV s k false = true) : readV s k 1125899906842624 = (3, zVer) := by
  unfold readV
  have := h.over
  rw [if_neg (by omega), if_pos hk]
theorem held_wrote {s : Sh} {r : Rec} (hr : r ∈ s.P) {k : Key} (h : wrote r k = true) (wt : Bool) : heldV s k wt = true := List.any_eq_true.2 ⟨r, hr, by unfold heldR; rw [h]; rfl⟩
theorem held_watch {s : Sh} {r : Rec} (hr : r ∈ s.P) {k : Key} (h : watches r k = true) : heldV s k true = true := List.any_eq_true.2 ⟨r, hr, by unfold heldR; rw [h]; simp⟩
/-- What 'holds' has: of the first i, and of the i-th one's first j writes. -/
def HoldsOk (P : List Rec) (i j : Nat) (f : Lit → Option Value) : Prop :=
  ∀ q v, f q = some v → ∃ a k, q = sk k ∧ v = .int .i64 a.f1 ∧ ((a ∈ P.take i ∧ wrote a k = true) ∨ (P[i]? = some a ∧ ∃ w ∈ a.f8.take j, wkey w = k))
theorem holds_none {P : List Rec} (hp : PApart P) (hd : P.Pairwise (fun a b => a.f1 < b.f1)) {i j : Nat} {f : Lit → Option Value} (h : HoldsOk P i j f) {a : Rec} (ha : P[i]? = some a) (hap : (a.f8.map wkey).Nodup) {w : Wr} (hw : a.f8[j]? = some w) : f (sk (wkey w)) = none := by
  obtain ⟨hi, hia⟩ := List.getElem?_eq_some_iff.1 ha
  cases hf : f (sk (wkey w)) with
  | none => rfl
  | some v =>
    obtain ⟨c, k, e, _, hc⟩ := h _ v hf
    have e : wkey w = k := by unfold sk at e; injection e
    subst e
    have hwa : wrote a (wkey w) = true := wrote_of (List.mem_of_getElem? hw)
    rcases hc with ⟨h1, h2⟩ | ⟨h1, u, hu, he⟩
    · obtain ⟨n, hn, hnc⟩ := List.getElem_of_mem h1
      have hni : n < i := by simp at hn; omega
      rw [List.getElem_take] at hnc
      have hlt : c.f1 < a.f1 := by
        rw [← hnc, ← hia]
        exact List.pairwise_iff_getElem.1 hd n i (by omega) hi hni
      have := hp.ww c (List.mem_of_mem_take h1) a (by rw [← hia]; exact List.getElem_mem hi) (by omega) _ h2
      rw [hwa] at this
      cases this
    · rw [ha] at h1
      obtain rfl := Option.some.inj h1
      obtain ⟨n, hn, hnu⟩ := List.getElem_of_mem hu
      have hnj : n < j ∧ n < a.f8.length := by simp at hn; omega
      rw [List.getElem_take] at hnu
      obtain ⟨hj, hjw⟩ := List.getElem?_eq_some_iff.1 hw
      have hlt := List.pairwise_iff_getElem.1 hap n j (by simpa using hnj.2) (by simpa using hj) hnj.1
      simp only [List.getElem_map] at hlt
      exact absurd (by rw [hnu, hjw]; exact he) hlt
theorem holds_put {P : List Rec} {i j : Nat} {f : Lit → Option Value} (h : HoldsOk P i j f) {a : Rec} (ha : P[i]? = some a) {w : Wr} (hw : a.f8[j]? = some w) : HoldsOk P i (j + 1) (lput f (sk (wkey w)) (.int .i64 a.f1)) := fun q v hq => by
  unfold lput at hq
  obtain ⟨hj, hjw⟩ := List.getElem?_eq_some_iff.1 hw
  split at hq
  · rename_i hs
    obtain rfl := Option.some.inj hq
    exact ⟨a, wkey w, WideAt.sameKey_eq hs, rfl, .inr ⟨ha, w, by rw [List.take_succ_eq_append_getElem hj, hjw]; simp, rfl⟩⟩
  · obtain ⟨c, k, e, e2, hc⟩ := h q v hq
    refine ⟨c, k, e, e2, ?_⟩
    rcases hc with hc | ⟨h1, u, hu, he⟩
    · exact .inl hc
    · have : a = c := by rw [ha] at h1; exact Option.some.inj h1
      subst this
      exact .inr ⟨h1, u, by rw [List.take_succ_eq_append_getElem hj]; exact List.mem_append_left _ hu, he⟩
theorem holds_next {P : List Rec} {i : Nat} {f : Lit → Option Value} {a : Rec} (ha : P[i]? = some a) (h : HoldsOk P i a.f8.length f) : HoldsOk P (i + 1) 0 f := fun q v hq => by
  obtain ⟨hi, hia⟩ := List.getElem?_eq_some_iff.1 ha
  obtain ⟨c, k, e, e2, hc⟩ := h q v hq
  refine ⟨c, k, e, e2, .inl ?_⟩
  rw [List.take_succ_eq_append_getElem hi, hia]
  rcases hc with ⟨h1, h2⟩ | ⟨h1, u, hu, he⟩
  · exact ⟨List.mem_append_left _ h1, h2⟩
  · have : a = c := by rw [ha] at h1; exact Option.some.inj h1
    subst this
    exact ⟨by simp, by rw [← he]; exact wrote_of (List.mem_of_mem_take hu)⟩
/-- Of what is watched: nobody else holds it. -/
theorem holds_watch {P : List Rec} (hp : PApart P) {f : Lit → Option Value} (h : HoldsOk P P.length 0 f) {a : Rec} (ha : a ∈ P) {q : ByteArray} (hq : q ∈ a.f7) : f (sk (kb q)) = none ∨ f (sk (kb q)) = some (.int .i64 a.f1) := by
  cases hf : f (sk (kb q)) with
  | none => exact .inl rfl
  | some v =>
    right
    obtain ⟨c, k, e, e2, hc⟩ := h _ v hf
    have e : kb q = k := by unfold sk at e; injection e
    subst e
    rw [e2]
    rcases hc with ⟨h1, h2⟩ | ⟨h1, u, hu, he⟩
    · by_cases hne : c.f1 = a.f1
      · rw [hne]
      · have := hp.wk c (List.mem_of_mem_take h1) a ha hne _ h2
        rw [watch_of hq] at this
        cases this
    · simp at hu
/-- What is known in the loops: the two maps, and the shelf beside them. -/
structure ApSt (w : World) (n0 b bh bw : Nat) (s : Sh) (wz : World) (nh nw : Nat) (fh fw : Lit → Option Value) : Prop where
  below : Below w.heap.size w wz
  holds : MapL Tryz.prog 9 wz bh nh fh
  watch : MapL Tryz.prog 9 wz bw nw fw
  sh : ShAt wz (fun g => g < n0) b 960 s
  lo : w.heap.size ≤ n0
  h0 : n0 ≤ bh
  w0 : n0 ≤ bw
  ne : bh ≠ bw
section
variable {w wz wy : World} {n0 b bh bw nh nw : Nat} {s : Sh} {fh fw : Lit → Option Value}
theorem ApSt.step (h : ApSt w n0 b bh bw s wz nh nw fh fw) (hb : Below wz.heap.size wz wy) : ApSt w n0 b bh bw s wy nh nw fh fw :=
  ⟨h.below.trans (hb.mono h.below.size), h.holds.below hb, h.watch.below hb, h.sh.below hb, h.lo, h.h0, h.w0, h.ne⟩
theorem below_grown {n : Nat} {bq : Nat} {w0 : World} (h : Below n w0 wz) (hg : wz.grownBy wy (some bq)) (hn : n ≤ wz.heap.size) (hq : n ≤ bq) : Below n w0 wy :=
  ⟨hg.os.trans h.os, hg.tape.trans h.tape, hg.output.trans h.output, Nat.le_trans h.size hg.size, fun g hlt => (hg.block g (by omega) (fun e => by injection e with e; omega)).trans (h.block g hlt)⟩
theorem ApSt.putH (h : ApSt w n0 b bh bw s wz nh nw fh fw) (hg : wz.grownBy wy (some bh)) {f2 : Lit → Option Value} {n2 : Nat} (hm : MapL Tryz.prog 9 wy bh n2 f2) : ApSt w n0 b bh bw s wy n2 nw f2 fw :=
  ⟨below_grown h.below hg h.below.size (Nat.le_trans h.lo h.h0), hm, h.watch.kept hg (fun e => h.ne (by injection e with e; exact e.symm)), h.sh.apart (Chg.of_grown (ok := fun g => n0 ≤ g) hg h.h0) (fun g hg => by omega), h.lo, h.h0, h.w0, h.ne⟩
theorem ApSt.putW (h : ApSt w n0 b bh bw s wz nh nw fh fw) (hg : wz.grownBy wy (some bw)) {f2 : Lit → Option Value} {n2 : Nat} (hm : MapL Tryz.prog 9 wy bw n2 f2) : ApSt w n0 b bh bw s wy nh n2 fh f2 :=
  ⟨below_grown h.below hg h.below.size (Nat.le_trans h.lo h.w0), h.holds.kept hg (fun e => h.ne (by injection e)), hm, h.sh.apart (Chg.of_grown (ok := fun g => n0 ≤ g) hg h.w0) (fun g hg => by omega), h.lo, h.h0, h.w0, h.ne⟩
end
theorem zeroI (w : World) : (zeroValue 3).run Tryz.prog w = .ok (.int .i64 0) w := by kernel_rfl
end Go.Proofs.YtaldfbmjmpkmmaaGreat.PL
namespace Go.Proofs.YtaldfbmjmpkmmaaGreat.PL
open Go.RowKit
set_option linter.unusedVariables false
set_option linter.unusedSimpArgs false
def sweepR (t : Int) : Rec := ⟨4, 0, t, 0, ⟨#[]⟩, ⟨#[]⟩, false, [], []⟩
def verR (k : Key) (v : Ver) : Rec := ⟨3, 0, v.f0, 0, ⟨k.toArray⟩, v.f1, v.f2, [], []⟩
def doR (e : Int × Int) : Rec := ⟨2, e.1, e.2, 0, ⟨#[]⟩, ⟨#[]⟩, false, [], []⟩
def recsK (K : List (Key × Chain)) : List Rec := K.flatMap (fun p => p.2.map (verR p.1))
def recsV (s : Sh) : List Rec := (if 0 < s.over then [sweepR s.over] else []) ++ (recsK s.K ++ (s.E.map doR ++ s.P))
theorem recsK_len : ∀ {K : List (Key × Chain)}, (∀ p ∈ K, p.2.length ≤ 1024) → (recsK K).length ≤ 1024 * K.length
  | [], _ => by simp [recsK]
  | p :: K, h => by
    have := recsK_len (K := K) (fun p hp => h p (List.mem_cons_of_mem _ hp))
    have h1 := h p List.mem_cons_self
    unfold recsK at *
    rw [List.flatMap_cons, List.length_append, List.length_map, List.length_cons]
    omega
theorem recs_len {s : Sh} (h : ShOk s) : (recsV s).length ≤ 2000000 := by
  have h1 := recsK_len (fun p hp => (h.keys.chain p hp).2.len)
  have h2 := h.keys.few
  have h3 := h.few
  have h4 := h.ends
  unfold recsV
  rw [List.length_append, List.length_append, List.length_append, List.length_map]
  split
  · simp; omega
  · simp; omega
/-! what else holds of a shelf to which records were applied -/
structure ShMore (s : Sh) : Prop where
  kk : ∀ k ∈ keysK s.K, keyB ⟨k.toArray⟩ = true
  en : s.E.Pairwise (fun a b => a.1 ≠ b.1)
  er : ∀ e ∈ s.E, 0 < e.1 ∧ e.1 ≤ 1125899906842623 ∧ 0 ≤ e.2 ∧ e.2 ≤ 1125899906842624
  pe : ∀ r ∈ s.P, ∀ e ∈ s.E, r.f1 ≠ e.1
  pa : PApart s.P
  el : s.E.length ≤ 1024
theorem key_back (b : ByteArray) : (⟨(kb b).toArray⟩ : ByteArray) = b := by
  cases b with | mk d => simp [kb]
theorem put_keys : ∀ (l : List Wr) (K : List (Key × Chain)) (ts : Int) (k : Key), k ∈ keysK (putV K l ts) → k ∈ keysK K ∨ ∃ w ∈ l, wkey w = k
  | [], _, _, _, h => .inl h
  | w :: l, K, ts, k, h => by
    rcases put_keys l _ ts k h with h | ⟨u, hu, e⟩
    · rcases (kput_keys _ _ _ _).1 h with rfl | h
      · exact .inr ⟨w, List.mem_cons_self, rfl⟩
      · exact .inl h
    · exact .inr ⟨u, List.mem_cons_of_mem _ hu, e⟩
theorem find_none {E : List (Int × Int)} {t : Int} (h : E.find? (fun e => decide (e.1 = t)) = none) : ∀ e ∈ E, e.1 ≠ t := fun e he => by
  have := List.find?_eq_none.1 h e he
  simpa using this
theorem find_none_of {E : List (Int × Int)} {t : Int} (h : ∀ e ∈ E, e.1 ≠ t) : E.find? (fun e => decide (e.1 = t)) = none := List.find?_eq_none.2 (fun e he => by simpa using h e he)
theorem not_ended {s : Sh} (m : ShMore s) {t : Int} (h : ¬ 1 < (stateV s t).1) : ∀ e ∈ s.E, e.1 ≠ t := by
  rcases state_cases s t with ⟨h1, _⟩ | ⟨_, ⟨h2, _⟩ | ⟨e, _, ⟨_, h3⟩ | ⟨_, h3⟩⟩⟩
  · obtain ⟨r, hr, hrt⟩ := List.any_eq_true.1 h1
    intro e he hc
    exact m.pe r hr e he (by rw [of_decide_eq_true hrt, hc])
  · exact find_none h2
  · rw [h3] at h; simp at h
  · rw [h3] at h; simp at h
theorem more_end {s : Sh} (m : ShMore s) {t ts : Int} (hn : ∀ e ∈ s.E, e.1 ≠ t) (ht : 0 < t ∧ t ≤ 1125899906842623) (hts : 0 ≤ ts ∧ ts ≤ 1125899906842624) : ShMore (endV s t ts) := by
  have hen : (s.E ++ [(t, ts)]).Pairwise (fun a b => a.1 ≠ b.1) := List.pairwise_append.2 ⟨m.en, by simp, fun a ha b hb => by rw [List.mem_singleton.1 hb]; exact hn a ha⟩
  have hsub : ∀ e ∈ endE s.E (t, ts), e ∈ s.E ∨ e = (t, ts) := fun e he => by
    unfold endE at he
    have : e ∈ s.E ++ [(t, ts)] := by
      split at he
      · exact List.mem_of_mem_drop he
      · exact he
    simpa using this
  refine ⟨m.kk, ?_, fun e he => ?_, fun r hr e he => ?_, papart_end m.pa t ts, endE_len (Nat.le_refl _) m.el _⟩
  · show (endE s.E (t, ts)).Pairwise _
    unfold endE
    split
    · exact hen.sublist (List.drop_sublist _ _)
    · exact hen
  · rcases hsub e he with h | rfl
    · exact m.er e h
    · exact ⟨ht.1, ht.2, hts.1, hts.2⟩
  · obtain ⟨h1, h2⟩ := List.mem_filter.1 hr
    rcases hsub e he with h | rfl
    · exact m.pe r h1 e h
    · simpa using h2
theorem more_put {s : Sh} (m : ShMore s) (l : List Wr) (ts : Int) (hl : ∀ w ∈ l, keyB w.f0 = true) : ShMore { s with K := putV s.K l ts } :=
  ⟨fun k hk => by
    rcases put_keys l s.K ts k hk with h | ⟨w, hw, rfl⟩
    · exact m.kk k h
    · rw [wkey, key_back]
      exact hl w hw, m.en, m.er, m.pe, m.pa, m.el⟩
theorem more_apply {s : Sh} (h : ShOk s) (m : ShMore s) (r : Rec) : ShMore (applyV s r).2 := by
  unfold applyV
  split
  · rename_i hr
    split
    · rename_i h0
      refine ⟨?_, ?_, ?_, fun x hx e he => ?_, papart_prep m.pa, ?_⟩
      · unfold prepV; split; exact m.kk; split; exact m.kk; split <;> exact m.kk
      · unfold prepV; split; exact m.en; split; exact m.en; split <;> exact m.en
      · unfold prepV; split; exact m.er; split; exact m.er; split <;> exact m.er
      · revert hx he
        unfold prepV
        split
        · exact fun hx he => m.pe x hx e he
        · rename_i hs
          split
          · exact fun hx he => m.pe x hx e he
          · split
            · exact fun hx he => m.pe x hx e he
            · intro hx he
              rcases (pput_mem r x s.P).1 hx with rfl | hx
              · exact fun e2 => find_none (state_zero hs).2 e he e2.symm
              · exact m.pe x hx e he
      · unfold prepV; split; exact m.el; split; exact m.el; split <;> exact m.el
    · split
      · rename_i h0
        have ht := do_facts h0 hr
        have hrg := okR_all hr
        unfold doV
        split
        · exact m
        · rename_i hc1
          split
          · exact m
          · rename_i hc2
            have hn := not_ended m hc2
            split
            · rename_i hd
              split
              · obtain ⟨q, hq, _, e⟩ := writesOf_some hd.1
                have hl := (prep_lists (h.recs q hq).1 (h.recs q hq).2).1
                exact more_end (s := { s with K := putV s.K (writesOf s r.f1) r.f2 }) (more_put m _ _ (by rw [e]; exact hl.key8)) hn ⟨ht, hrg.1.2⟩ hrg.2.1
              · exact m
            · exact more_end m hn ⟨ht, hrg.1.2⟩ hrg.2.1
      · split
        · unfold sweepV
          split
          · exact m
          · refine ⟨fun k hk => m.kk k ?_, m.en, m.er, m.pe, m.pa, m.el⟩
            obtain ⟨p, hp, rfl⟩ := List.mem_map.1 hk
            obtain ⟨hp, _⟩ := List.mem_filter.1 hp
            obtain ⟨q, hq, rfl⟩ := List.mem_map.1 hp
            exact List.mem_map.2 ⟨q, hq, rfl⟩
        · split
          · rename_i h0
            split
            · exact more_put m _ _ (fun w hw => by rw [List.mem_singleton.1 hw]; exact (ver_facts h0 hr).2.1)
            · exact m
          · exact m
  · exact m
theorem more_fold : ∀ (l : List Rec) {s : Sh}, ShOk s → ShMore s → ShMore (l.foldl (fun s r => (applyV s r).2) s)
  | [], _, _, m => m
  | r :: l, _, h, m => more_fold l (applyV_ok h r) (more_apply h m r)
theorem more_made (l : List Rec) : ShMore (madeV l) := more_fold _ sh0_ok ⟨by simp [sh0, keysK], by simp [sh0], by simp [sh0], by simp [sh0], ⟨by simp [sh0], by simp [sh0]⟩, by simp [sh0]⟩
/-! refused, or applied twice -/
theorem refused_same {s : Sh} {r : Rec} (h : (applyV s r).1 ≠ 0) : (applyV s r).2 = s := by
  revert h
  unfold applyV
  split
  · split
    · unfold prepV
      split
      · exact fun _ => rfl
      · split
        · exact fun _ => rfl
        · split
          · exact fun _ => rfl
          · exact fun h => absurd rfl h
    · split
      · unfold doV
        split
        · exact fun _ => rfl
        · split
          · exact fun _ => rfl
          · split
            · split
              · exact fun h => absurd rfl h
              · exact fun _ => rfl
            · exact fun h => absurd rfl h
      · split
        · unfold sweepV
          split
          · exact fun _ => rfl
          · exact fun h => absurd rfl h
        · split
          · split
            · exact fun h => absurd rfl h
            · exact fun _ => rfl
          · exact fun _ => rfl
  · exact fun _ => rfl
theorem sweepFrom_cases (c : Chain) (t : Int) : sweepFrom c t = untilV c t ∨ (0 < untilV c t ∧ sweepFrom c t = untilV c t - 1 ∧ (c.getD (untilV c t - 1) zVer).f2 = false) := by
  unfold sweepFrom
  split
  · rename_i h
    exact .inr ⟨h.1, rfl, h.2⟩
  · exact .inl rfl
theorem sweep_twice (c : Chain) (t : Int) : sweepC (sweepC c t) t = sweepC c t := by
  have hd : ∀ j, j ≤ untilV c t → untilV (c.drop j) t = untilV c t - j := fun j hj => until_drop j c t hj
  show (sweepC c t).drop (sweepFrom (sweepC c t) t) = sweepC c t
  have h0 : sweepFrom (sweepC c t) t = 0 := by
    rcases sweepFrom_cases c t with e | ⟨h1, e, h2⟩
    · have hu : untilV (sweepC c t) t = 0 := by
        unfold sweepC
        rw [e, hd _ (Nat.le_refl _)]
        omega
      unfold sweepFrom
      rw [hu]
      simp
    · have hu : untilV (sweepC c t) t = 1 := by
        unfold sweepC
        rw [e, hd _ (by omega)]
        omega
      unfold sweepFrom
      rw [hu, if_pos]
      refine ⟨by omega, ?_⟩
      unfold sweepC
      rw [e, getD_drop]
      simpa using h2
  rw [h0]
  rfl
theorem sweepK_twice (K : List (Key × Chain)) (t : Int) : sweepK (sweepK K t) t = sweepK K t := by
  unfold sweepK
  have : ∀ L : List (Key × Chain), (∀ p ∈ L, sweepC p.2 t = p.2 ∧ p.2 ≠ []) → (L.map (fun p => (p.1, sweepC p.2 t))).filter (fun p => !p.2.isEmpty) = L := by
    intro L
    induction L with
    | nil => intro _; rfl
    | cons p L ih =>
      intro h
      obtain ⟨h1, h2⟩ := h p List.mem_cons_self
      rw [List.map_cons, List.filter_cons, ih (fun q hq => h q (List.mem_cons_of_mem _ hq))]
      rw [h1, if_pos (by simpa using h2)]
  refine this _ (fun p hp => ?_)
  obtain ⟨h1, h2⟩ := List.mem_filter.1 hp
  obtain ⟨q, hq, rfl⟩ := List.mem_map.1 h1
  exact ⟨sweep_twice _ _, by simpa using h2⟩
theorem find_snoc {E : List (Int × Int)} {x : Int × Int} {t : Int} (h : ∀ e ∈ E, e.1 ≠ t) (hx : x.1 = t) : (endE E x).find? (fun e => decide (e.1 = t)) = some x := by
  have h1 : ∀ L : List (Int × Int), (∀ e ∈ L, e.1 ≠ t) → (L ++ [x]).find? (fun e => decide (e.1 = t)) = some x := fun L hL => by
    rw [List.find?_append, find_none_of hL]
    simp [hx]
  unfold endE
  split
  · rename_i hl
    rw [List.length_append, List.length_singleton] at hl
    rw [List.drop_append_of_le_length (by omega)]
    exact h1 _ (fun e he => h e (List.mem_of_mem_drop he))
  · exact h1 _ h
theorem end_state {s : Sh} {t ts : Int} (h : ∀ e ∈ s.E, e.1 ≠ t) : stateV (endV s t ts) t = if ts = 0 then (3, 0) else (2, ts) := by
  unfold stateV
  have hp : (endV s t ts).P.any (fun r => decide (r.f1 = t)) = false := List.any_eq_false.2 (fun r hr => by
    have := (List.mem_filter.1 hr).2
    simpa using this)
  rw [hp, if_neg (by simp)]
  have hf : (endV s t ts).E.find? (fun e => decide (e.1 = t)) = some (t, ts) := find_snoc h rfl
  rw [hf]
/-- Applied twice. -/
theorem twice {s : Sh} (h : ShOk s) (m : ShMore s) (r : Rec) (h0 : (applyV s r).1 = 0) :
    (r.f0 = 4 → applyV (applyV s r).2 r = (0, (applyV s r).2)) ∧ (r.f0 = 1 ∨ r.f0 = 2 → (applyV (applyV s r).2 r).1 = 6) ∧ (r.f0 ≠ 4 → r.f0 ≠ 1 → r.f0 ≠ 2 → (applyV (applyV s r).2 r).1 = 110) := by
  have hr : okR r = 0 := by
    by_cases hr : okR r = 0
    · exact hr
    · unfold applyV at h0
      rw [if_neg hr] at h0
      exact absurd h0 hr
  refine ⟨fun k => ?_, fun k => ?_, fun k4 k1 k2 => ?_⟩
  · have e : applyV s r = sweepV s r.f2 := by unfold applyV; rw [if_pos hr, if_neg (by omega), if_neg (by omega), if_pos k]
    have e2 : applyV (sweepV s r.f2).2 r = sweepV (sweepV s r.f2).2 r.f2 := by unfold applyV; rw [if_pos hr, if_neg (by omega), if_neg (by omega), if_pos k]
    rw [e] at h0 ⊢
    rw [e2]
    unfold sweepV at h0 ⊢
    by_cases hc : r.f2 < s.over
    · rw [if_pos hc] at h0
      cases h0
    · rw [if_neg hc]
      show (if r.f2 < r.f2 then _ else _) = _
      rw [if_neg (by omega)]
      show (0, ({ s with over := r.f2, K := sweepK (sweepK s.K r.f2) r.f2 } : Sh)) = _
      rw [sweepK_twice]
  · rcases k with k | k
    · have e : ∀ s, applyV s r = prepV s r := fun s => by unfold applyV; rw [if_pos hr, if_pos k]
      rw [e] at h0 ⊢
      rw [e]
      have hP : r ∈ (prepV s r).2.P := by
        unfold prepV at h0 ⊢
        split at h0
        · cases h0
        · split at h0
          · cases h0
          · split at h0
            · cases h0
            · rename_i a b c
              rw [if_neg a, if_neg b, if_neg c]
              exact (pput_mem r r s.P).2 (.inl rfl)
      have hst : stateV (prepV s r).2 r.f1 = (1, 0) := by
        unfold stateV
        rw [if_pos (List.any_eq_true.2 ⟨r, hP, decide_eq_true rfl⟩)]
      generalize (prepV s r).2 = s2 at *
      unfold prepV
      rw [hst, if_pos (by decide)]
    · have e : ∀ s, applyV s r = doV s r.f1 r.f2 := fun s => by unfold applyV; rw [if_pos hr, if_neg (by omega), if_pos k]
      rw [e] at h0 ⊢
      rw [e]
      have hst : stateV (doV s r.f1 r.f2).2 r.f1 = if r.f2 = 0 then (3, 0) else (2, r.f2) := by
        unfold doV at h0 ⊢
        split at h0
        · cases h0
        · split at h0
          · cases h0
          · rename_i a b
            have hn := not_ended m b
            rw [if_neg a, if_neg b]
            split at h0
            · split at h0
              · rename_i c d
                rw [if_pos c, if_pos d]
                exact end_state (s := { s with K := putV s.K (writesOf s r.f1) r.f2 }) hn
              · rename_i c d
                exact absurd h0 d
            · rename_i c
              rw [if_neg c]
              exact end_state hn
      generalize (doV s r.f1 r.f2).2 = s2 at *
      unfold doV
      rw [hst]
      by_cases hz : r.f2 = 0
      · rw [if_pos hz]
        rw [if_pos (show 1 < (3 : Int) ∧ (0 : Int) = r.f2 from ⟨by decide, hz.symm⟩)]
      · rw [if_neg hz]
        rw [if_pos (show 1 < (2 : Int) ∧ r.f2 = r.f2 from ⟨by decide, rfl⟩)]
  · have k3 : r.f0 = 3 := by
      by_cases k3 : r.f0 = 3
      · exact k3
      · unfold applyV at h0
        rw [if_pos hr, if_neg k1, if_neg k2, if_neg k4, if_neg k3] at h0
        cases h0
    have e : ∀ s, applyV s r = if roomV s [verW r] r.f2 = 0 then (0, { s with K := putV s.K [verW r] r.f2 }) else (roomV s [verW r] r.f2, s) := fun s => by unfold applyV; rw [if_pos hr, if_neg k1, if_neg k2, if_neg k4, if_pos k3]
    rw [e] at h0 ⊢
    rw [e]
    by_cases hm : roomV s [verW r] r.f2 = 0
    · rw [if_pos hm]
      have hv : roomV { s with K := putV s.K [verW r] r.f2 } [verW r] r.f2 = 110 := by
        unfold roomV
        rw [if_pos]
        refine List.any_eq_true.2 ⟨verW r, List.mem_singleton.2 rfl, decide_eq_true ?_⟩
        show r.f2 ≤ lastV (look (kput s.K (wkey (verW r)) (look s.K (wkey (verW r)) ++ [⟨r.f2, (verW r).f1, (verW r).f2⟩])) (wkey (verW r)))
        rw [look_kput, if_pos rfl, last_snoc]
        exact Int.le_refl _
      show (if roomV { s with K := putV s.K [verW r] r.f2 } [verW r] r.f2 = 0 then _ else _ : Int × Sh).1 = 110
      rw [hv]
      rfl
    · rw [if_neg hm] at h0
      exact absurd h0 hm
end Go.Proofs.YtaldfbmjmpkmmaaGreat.PL
namespace Go.Proofs
open Go.RowKit Go.Maps Go.Sort Go.Shelf
theorem Tryz.sortsS (m : Nat) : AnyZ.SortsIn Tryz.prog Tryz.sortedS_ren Fence.wide m :=
  ⟨fun blk off cap ss W hH hblk hsz => callsIn_wide.2 (AnyM.slices_Sort_string Tryz.sortS blk off cap ss W hH hblk hsz),
   fun p cap W => callsIn_wide.2 (AnyM.slices_Sort_string_none Tryz.sortS p cap W)⟩
theorem Tryz.maps_KeysK (mb : Option Nat) (W : World) : CallsIn Fence.wide 5 Tryz.prog 30 #[.map mb] W fun e w' => e = .returned (.func (.func 67) #[] #[.pointer (some ⟨W.heap.size, 0, none⟩)]) ∧ w' = W.alloc (.cells #[.map mb] 65) :=
  AnyZ.keys_in Tryz.keysK Fence.wide 5 trivial rfl mb W
set_option maxHeartbeats 1000000 in
theorem Tryz.slices_Sorted_keysK {H : Type} (b nn : Nat) (D0 : DataW H) (R : Value → Option (DataW H × List MemPlace)) (w : World) (hown : w.ownsMap Tryz.prog 9 R b nn D0) (hmax : Maps.size D0 ≤ maxLen) (hbytes : Maps.size D0 * 16 ≤ 140737488355328) :
    CallsIn Fence.wide 5 Tryz.prog 29 #[.func (.func 67) #[] #[.pointer (some ⟨w.heap.size, 0, none⟩)]] (w.alloc (.cells #[.map (some b)] 65)) fun e w' => ∃ (v : Value) (ss : List (List UInt8)), e = .returned v ∧ ss.Perm (strKeys D0) ∧
      w'.ownsRow (w.alloc (.cells #[.map (some b)] 65)).heap.size 9 1 v ss.length ((ss.mergeSort (fun x y => decide (x ≤ y))).map encStr) ∧ (v = .slice none 0 0 ↔ ss = []) ∧ Below (w.alloc (.cells #[.map (some b)] 65)).heap.size (w.alloc (.cells #[.map (some b)] 65)) w' := by
  have hbl := hown.lt
  have hseq : SeqGives Fence.wide 2 Tryz.prog 67 #[.pointer (some ⟨w.heap.size, 0, none⟩)] encStr (fun ss => ss.Perm (strKeys D0)) (Maps.size D0) (w.alloc (.cells #[.map (some b)] 65)) :=
    AnyZ.keys_gives (ρ := Tryz.keysK_ren) { Tryz.keysK with } Fence.wide _ trivial rfl (by omega) w.heap.size b nn D0 _ (by simp) (by simp) (by
      obtain ⟨es, clock, hb, Ft, hs, hD⟩ := hown
      exact ⟨es, clock, (Below.heap_alloc _ _ b hbl).trans hb, Ft, hs, hD⟩)
  exact AnyZ.sorted_in Tryz.sortedS Fence.wide 5 trivial trivial trivial trivial rfl (by omega) (Tryz.sortsS _) (enters_of Tryz.func66 (by kernel_rfl) rfl) 67 #[.pointer (some ⟨w.heap.size, 0, none⟩)] trivial (enters_of Tryz.func67 (by kernel_rfl) rfl) _ _ hmax hbytes _ hseq
end Go.Proofs
namespace Go.Proofs.YtaldfbmjmpkmmaaGreat.PL
open Go.RowKit Go.Proofs.YtaldfbmjmpkmmaaGreatW.PrintWords Go.Proofs.YtaldfbmjmpkmmaaGreatW.PrintLast Go.Proofs.YtaldfbmjmpkmmaaGreatW.PrintMore Go.Sort Go.Shelf Go.Maps Go.WideMaps Go.Proofs.YtaldfbmjmpkmmaaGreat.Mk
set_option linter.unusedVariables false
set_option linter.unusedSimpArgs false
set_option linter.unusedSectionVars false
def bytesOfL (l : List Key) : List ByteArray := l.map (fun x => ⟨x.toArray⟩)
theorem R_strsO {w : World} {base : Nat} {v : Value} {rs : List ByteArray} (h : w.ownsRow base 9 1 v rs.length (rs.map Value.string)) : Kd.R Kd.string 9 w base (fun _ => True) v rs := by
  refine ⟨fun _ _ => trivial, rs.map Value.string, h, ?_, fun j p hj => ?_⟩
  · show (rs.map Value.string).length = rs.length * 1
    simp
  · obtain ⟨hl, hp⟩ := List.getElem?_eq_some_iff.1 hj
    show ((rs.map Value.string).drop (j * 1)).take 1 = [Value.string p]
    have hl' : j < (rs.map Value.string).length := by simpa using hl
    rw [Nat.mul_one, List.drop_eq_getElem_cons hl']
    simp [hp]
theorem sorted_rising {ss ks : List Key} (hp : ss.Perm ks) (hr : Rising ks) : ss.mergeSort (fun x y => decide (x ≤ y)) = ks := by
  have tr : ∀ a b c : Key, decide (a ≤ b) = true → decide (b ≤ c) = true → decide (a ≤ c) = true := fun a b c h1 h2 => by simp only [decide_eq_true_eq] at *; exact List.le_trans h1 h2
  have tl : ∀ a b : Key, (decide (a ≤ b) || decide (b ≤ a)) = true := fun a b => by simp only [Bool.or_eq_true, decide_eq_true_eq]; exact List.le_total a b
  have h1 : (ss.mergeSort (fun x y => decide (x ≤ y))).Pairwise (fun a b => a ≤ b) := (List.pairwise_mergeSort tr tl ss).imp (fun h => by simpa using h)
  have h2 : ks.Pairwise (fun a b => a ≤ b) := hr.imp (fun {a b} h => by
    rw [Go.Proofs.bytesLess_eq, decide_eq_true_eq] at h
    exact List.le_of_lt h)
  exact List.Perm.eq_of_pairwise (le := fun a b => a ≤ b) (fun x y _ _ h1 h2 => List.le_antisymm h1 h2) h1 h2 ((List.mergeSort_perm ss _).trans hp)
set_option maxHeartbeats 1000000 in
theorem sortedK_calls (w : World) (b N : Nat) (f : Lit → Option Value) (h : MapL Tryz.prog 9 w b N f) (hN : N ≤ 1000000) (ks : List Key) (hr : Rising ks) (hks : ∀ q, (f q).isSome = true ↔ q ∈ ks.map sk) :
    Calls Tryz.prog 29 #[.func (.func 67) #[] #[.pointer (some ⟨w.heap.size, 0, none⟩)]] (w.alloc (.cells #[.map (some b)] 65)) fun e w' => ∃ v, e = .returned v ∧
      Kd.R Kd.string 9 w' w.heap.size (fun _ => True) v (bytesOfL ks) ∧ Below w.heap.size w w' := by
  obtain ⟨D, hown, hhas, hat⟩ := h
  have hsz := hown.size_le
  have hmax : Maps.size D ≤ maxLen := Nat.le_trans hsz (Nat.le_trans hN (by unfold maxLen; decide))
  refine ((callsIn_wide (n := 5)).1 (Tryz.slices_Sorted_keysK b N D Rv w hown hmax (by omega))).mono ?_
  rintro e w' ⟨v, ss, rfl, hS, hrow, _, hb⟩
  obtain ⟨es, hD, hpw, _⟩ := hown.entries keyedS
  obtain ⟨es', hD', hko⟩ := hown.keysOf
  obtain rfl : es = es' := by rw [hD] at hD'; simpa using hD'
  subst hD
  have hk : ∀ p ∈ es, ∃ x, p.1 = .string x := fun p hp => by obtain ⟨v, hv⟩ := hko p hp; obtain ⟨x, _, hx, _⟩ := Maps.keyOf_str Tryz.underlying9 hv; exact ⟨x, hx⟩
  have hmem : ∀ x, x ∈ strKeys (.map es) ↔ Maps.has (.map es) (.string x) = true := by
    intro x
    rw [has_eq, List.any_eq_true]
    show x ∈ es.map (fun p => strOf p.1) ↔ _
    rw [List.mem_map]
    constructor
    · rintro ⟨p, hp', rfl⟩
      obtain ⟨a, ha⟩ := hk p hp'
      exact ⟨p, hp', by rw [ha]; simp [Lit.sameKey, strOf]⟩
    · rintro ⟨p, hp', hs⟩
      obtain ⟨a, ha⟩ := hk p hp'
      rw [ha] at hs
      exact ⟨p, hp', by rw [ha]; simpa [Lit.sameKey, strOf] using hs⟩
  have hnd : (strKeys (.map es)).Nodup := by
    show (es.map fun p => strOf p.1).Nodup
    refine List.pairwise_map.2 (hpw.imp_of_mem fun {p q} hp' hq' hne e => hne ?_)
    obtain ⟨a, ha⟩ := hk p hp'
    obtain ⟨b, hb⟩ := hk q hq'
    rw [ha, hb] at e ⊢
    exact congrArg _ e
  have hperm : ss.Perm ks := hS.trans ((List.perm_ext_iff_of_nodup hnd hr.nodup).2 (fun x => by
    rw [hmem, hhas, hks, List.mem_map]
    constructor
    · rintro ⟨y, hy, e⟩
      unfold sk at e
      injection e with e
      rw [← e]
      exact hy
    · exact fun hx => ⟨x, hx, rfl⟩))
  have hss := sorted_rising hperm hr
  have hl : ss.length = (bytesOfL ks).length := by rw [hperm.length_eq]; simp [bytesOfL]
  rw [hss] at hrow
  have henc : ks.map encStr = (bytesOfL ks).map Value.string := by
    unfold bytesOfL
    rw [List.map_map]
    rfl
  rw [henc, hl] at hrow
  exact ⟨v, rfl, R_strsO (ownsRow_lower hrow (by simp)), ((Below.refl _ w).alloc (Nat.le_refl _) _).trans (hb.mono (by simp))⟩
theorem infoRec : (Tryz.prog.info? 26).map (fun i => (i.zero, i.size, i.bytes)) = some (some (.agg #[.int .i64 0, .int .i64 0, .int .i64 0, .int .i64 0, .string ⟨#[]⟩, .string ⟨#[]⟩, .bool false, .slice none 0 0, .slice none 0 0]), 9, 120) := by kernel_rfl
theorem bare_M (w : World) (base : Nat) (r : Rec) (h7 : r.f7 = []) (h8 : r.f8 = []) : k26.M w base (fun _ => False) r [.int .i64 r.f0, .int .i64 r.f1, .int .i64 r.f2, .int .i64 r.f3, .string r.f4, .string r.f5, .bool r.f6, .slice none 0 0, .slice none 0 0] :=
  k26_mkM w base _ r (by rw [h7]; exact ⟨fun k hk => by simp [Value.ownBlock] at hk, OwnRow.none_ _ _ _ _ _⟩) (by rw [h8]; exact ⟨fun k hk => by simp [Value.ownBlock] at hk, OwnRow.none_ _ _ _ _ _⟩)
theorem size_alloc1 (w : World) (o : Obj) : (w.alloc o).heap.size = w.heap.size + 1 := by simp
theorem recsK_take (K : List (Key × Chain)) (k : Nat) (hk : k < K.length) : recsK (K.take (k + 1)) = recsK (K.take k) ++ (K[k]).2.map (verR (K[k]).1) := by
  rw [List.take_succ_eq_append_getElem hk]
  unfold recsK
  rw [List.flatMap_append]
  simp
theorem recsK_pre {s : Sh} (h : ShOk s) (k : Nat) : (recsK (s.K.take k)).length ≤ 1024 * 1024 := by
  have h1 := recsK_len (K := s.K.take k) (fun p hp => (h.keys.chain p (List.mem_of_mem_take hp)).2.len)
  have h2 := h.keys.few
  have h3 : (s.K.take k).length ≤ s.K.length := by rw [List.length_take]; omega
  omega
set_option maxRecDepth 100000 in
set_option maxHeartbeats 16000000 in
theorem records_walk {w : World} {ok : Nat → Prop} {b N : Nat} {s : Sh} (h : ShAt w ok b N s) (hN : N ≤ 1000000) (hkk : ∀ k ∈ keysK s.K, keyB ⟨k.toArray⟩ = true) :
    Calls Tryz.prog 9 #[.pointer (some ⟨b, 0, none⟩)] w fun e w' => ∃ v, e = .returned v ∧ Kd.R k26 26 w' w.heap.size (fun _ => True) v (recsV s) ∧ Below w.heap.size w w' := by
  obtain ⟨bk, bp, ve, fk, fp, hp⟩ := h
  have HP := Aside0.mk hp
  have HKK := Aside0.mk hkk
  have HNN := Aside0.mk hN
  obtain ⟨c0, c1, c2, c3⟩ := hp.cells
  obtain ⟨pre, hpre⟩ : ∃ pre, pre = (if 0 < s.over then [sweepR s.over] else []) := ⟨_, rfl⟩
  have HPRE := Aside0.mk hpre
  have hpl : pre.length ≤ 1 := by rw [hpre]; split <;> simp
  have HPL := Aside0.mk hpl
  clear hp hkk hN hpre hpl
  go_enter Tryz.func9, Tryz.ntmps9
  go_upto_if 16 with (fail)
  go_cut [3] (fun v wc => Aside0 (Kd.R k26 26 wc w.heap.size (fun _ => True) v pre ∧ Below w.heap.size w wc))
  case first =>
    have HLN : Aside0 (([] : List Rec).length ≤ 2000000) := ⟨by simp⟩
    by_cases ho : 0 < s.over
    · have d0 : decide (0 < s.over) = true := decide_eq_true ho
      have HE : Aside0 (pre = [] ++ [sweepR s.over]) := ⟨by rw [HPRE.out, if_pos ho]; rfl⟩
      go_wp2_with (at_builtin; go_loud (refine Kd.R_append k26 (w0 := w) w.heap.size rfl (.tmp 17) (.tmp 23) 22 26 _ 120 rfl Tryz.underlying22 infoRec rfl (by decide) (by omega) (.slice none 0 0) [] (sweepR s.over) [.int .i64 4, .int .i64 0, .int .i64 s.over, .int .i64 0, .string ⟨#[]⟩, .string ⟨#[]⟩, .bool false, .slice none 0 0, .slice none 0 0] (fun _ => True) (fun _ => False) rfl rfl (bare_M w w.heap.size (sweepR s.over) rfl rfl) (fun _ hk => hk.elim) (fun _ _ => trivial) (Kd.R_nil k26 26 w w.heap.size (fun _ => True)) (Below.refl w.heap.size w) (Nat.le_refl _) (by simp) ?_); intro v1 w1 ho hb hg hat; have HO1 := Aside0.mk ho; have HB1 := Aside0.mk hb; have HG1 := Aside0.mk hg; clear ho hb hg hat)
      go_meet
      case rel => exact ⟨by rw [HE.out]; exact HO1.out, HB1.out⟩
    · have d0 : decide (0 < s.over) = false := decide_eq_false ho
      have HE : Aside0 (pre = []) := ⟨by rw [HPRE.out, if_neg ho]⟩
      go_wp2_with fail
      go_meet
      case rel => exact ⟨by rw [HE.out]; exact Kd.R_nil _ _ _ _ _, Below.refl _ _⟩
  case rest =>
    obtain ⟨HO0, HB0⟩ := hcut.out
    have HOC := Aside0.mk HO0
    have HBC := Aside0.mk HB0
    have HPC := Aside0.mk (HP.out.below (HB0.mono (Nat.le_refl _)))
    have hkf := HP.out.good.keys.few
    clear hcut HO0 HB0 c0 c1 c2 c3
    obtain ⟨c0, c1, c2, c3⟩ := HPC.out.cells
    have HKY := Aside0.mk ((callsIn_wide (n := 5)).1 (Tryz.maps_KeysK (some bk) wc))
    have HSO := Aside0.mk (sortedK_calls wc bk N fk HPC.out.keys HNN.out (keysK s.K) HP.out.good.keys.rise (fun q => HPC.out.keys_iff q))
    obtain ⟨A0, q0, hs0⟩ := Kd.R_slice HOC.out
    subst hs0
    go_wp2_with fail
    refine HKY.out.mono ?_
    rintro e w1 ⟨rfl, rfl⟩
    go_wp2_with fail
    refine HSO.out.mono ?_
    rintro e w2 ⟨vk, rfl, hR, hb2⟩
    obtain ⟨AK, cK, rfl⟩ := Kd.R_slice hR
    have hlen : (bytesOfL (keysK s.K)).length = s.K.length := by simp [bytesOfL, keysK]
    rw [hlen] at hR ⊢
    have HB2 : Aside0 (Below w.heap.size w w2) := ⟨HBC.out.trans (hb2.mono HBC.out.size)⟩
    have HO2 := Aside0.mk (Kd.R_below HOC.out hb2)
    have HRK2 := Aside0.mk (Kd.R_lower hR (Nat.zero_le _))
    clear hR hb2 HKY HSO hlen c0 c1 c2 c3 HPC HOC HBC
    go_wp2_with fail
    go_loopw [32, 3] (fun i vo wz => ∃ k : Nat, k ≤ s.K.length ∧ i = .int .i64 (k : Int) ∧ Aside0 (Kd.R k26 26 wz w.heap.size (fun _ => True) vo (pre ++ recsK (s.K.take k))) ∧ Aside0 (Below w.heap.size w wz) ∧ Aside0 (Kd.R Kd.string 9 wz 0 (fun _ => True) (.slice AK s.K.length cK) (bytesOfL (keysK s.K)))) (fun i _ _ => s.K.length - (intOf i).toNat)
    case atStart => exact ⟨0, Nat.zero_le _, rfl, ⟨by simpa [recsK] using HO2.out⟩, HB2, HRK2⟩
    case round =>
      clear HO2 HB2 HRK2
      obtain ⟨k, hk, rfl, HO, HB, HRK⟩ := hrel
      by_cases hlt : k < s.K.length
      · obtain ⟨A', c', he, hle', hC'⟩ := Kd.R_reads HRK.out
        injection he with e1 e2 e3
        subst e1 e3
        clear e2
        have hlen : (bytesOfL (keysK s.K)).length = s.K.length := by simp [bytesOfL, keysK]
        obtain ⟨ad, cs, rfl, hl9, hK, hc0⟩ := Kd.C_get hC' (⟨#[]⟩ : ByteArray) (k : Int) (by omega) (by omega)
        rw [Int.toNat_natCast] at hK hc0
        have hc : ∀ i u, cs[i]? = some u → wr.cell? (ad.add (k * 1 + i)) = some u := hc0
        obtain rfl := strK_open hK
        have hget : (bytesOfL (keysK s.K)).getD k (⟨#[]⟩ : ByteArray) = ⟨(s.K[k]).1.toArray⟩ := by
          unfold bytesOfL keysK
          rw [List.getD_eq_getElem?_getD, List.getElem?_map, List.getElem?_map, List.getElem?_eq_getElem hlt]
          rfl
        have z0 : wr.cell? (ad.add k) = some (.string ⟨(s.K[k]).1.toArray⟩) := by have := hc 0 _ rfl; rw [hget] at this; simpa using this
        have hm : s.K[k] ∈ s.K := List.getElem_mem hlt
        have hlook := look_of_mem HP.out.good.keys.rise (q := (s.K[k]).1) (c := (s.K[k]).2) hm
        have hkb := HKK.out (s.K[k]).1 (List.mem_map.2 ⟨_, hm, rfl⟩)
        have hks : (⟨(s.K[k]).1.toArray⟩ : ByteArray).size ≤ maxLen := Nat.le_trans (key_size hkb) (by decide)
        have hkk : kb ⟨(s.K[k]).1.toArray⟩ = (s.K[k]).1 := by simp [kb]
        have hpc := HP.out.below (HB.out.mono (Nat.le_refl _))
        obtain ⟨A2, ca, hv, hle, hC⟩ := HP.out.chain (s.K[k]).1
        rw [hlook] at hv hle hC
        have hc1024 := (HP.out.good.keys.chain _ hm).2.len
        have HTK := Aside0.mk (recsK_take s.K k hlt)
        have HLP := Aside0.mk (recsK_pre HP.out.good k)
        have HCH := Aside0.mk hC
        have HLE := Aside0.mk hle
        have HV : Aside0 ((fk (sk (kb ⟨(s.K[k]).1.toArray⟩))).getD (.slice none 0 0) = .slice A2 (s.K[k]).2.length ca) := ⟨by rw [hkk]; exact hv⟩
        have HKM := Aside0.mk (key_sk hks)
        have HPC := Aside0.mk hpc
        obtain ⟨c0, c1, c2, c3⟩ := hpc.cells
        obtain ⟨A3, n3, q3, hs3⟩ : ∃ A n c, u3 = .slice A n c := by (obtain ⟨A, c, e⟩ := Kd.R_slice HO.out); exact ⟨A, _, c, e⟩
        subst hs3
        clear hlook hkb hks hkk hpc hv hle hC hm hget hc hc0 hK hl9 hlen hC' hle'
        generalize hKe : s.K[k] = kc at *
        have HKE := Aside0.mk hKe
        clear hKe
        go_wp2_with (at_lookup; refine MapL.at_ HPC.out.keys keyedS rfl _ _ 65 74 rfl Tryz.underlying65 (zeroC _) rfl rfl HKM.out ?_; rw [HV.out])
        obtain ⟨⟩ : True := trivial
        go_loopw [43, 3] (fun j vo wz => ∃ j' : Nat, j' ≤ kc.2.length ∧ j = .int .i64 (j' : Int) ∧ Aside0 (Kd.R k26 26 wz w.heap.size (fun _ => True) vo (pre ++ (recsK (s.K.take k) ++ (kc.2.take j').map (verR kc.1)))) ∧ Aside0 (Below w.heap.size w wz) ∧ Aside0 (Kd.R Kd.string 9 wz 0 (fun _ => True) (.slice (some ad) s.K.length cK) (bytesOfL (keysK s.K)))) (fun j _ _ => kc.2.length - (intOf j).toNat)
        case atStart => exact ⟨0, Nat.zero_le _, rfl, ⟨by simpa using HO.out⟩, HB, HRK⟩
        case round =>
          clear HO HB HRK c0 c1 c2 c3 HPC z0
          obtain ⟨j, hj, rfl, HO, HB, HRK⟩ := hrel
          by_cases hjl : j < kc.2.length
          · obtain ⟨ad2, cs, rfl, hl9, hK, hc0⟩ := Kd.C_get (Kd.C_below HCH.out (HB.out.mono (Nat.le_refl _))) zVer (j : Int) (by omega) (by omega)
            rw [Int.toNat_natCast] at hK hc0
            have hc : ∀ i u, cs[i]? = some u → wr.cell? (ad2.add (j * 3 + i)) = some u := hc0
            obtain rfl := k43_open hK
            have z0 : wr.cell? (ad2.add (j * 3)) = some (.int .i64 (kc.2.getD j zVer).f0) := hc 0 _ rfl
            have z1 : wr.cell? ⟨(ad2.add (j * 3)).block, (ad2.add (j * 3)).off + 1, none⟩ = some (.string (kc.2.getD j zVer).f1) := by rw [← add_field _ _ 1 (by omega)]; exact hc 1 _ rfl
            have z2 : wr.cell? ⟨(ad2.add (j * 3)).block, (ad2.add (j * 3)).off + 2, none⟩ = some (.bool (kc.2.getD j zVer).f2) := by rw [← add_field _ _ 2 (by omega)]; exact hc 2 _ rfl
            have hgv : kc.2.getD j zVer = kc.2[j] := by simp [List.getElem?_eq_getElem hjl]
            have HTJ : Aside0 ((kc.2.take (j + 1)).map (verR kc.1) = (kc.2.take j).map (verR kc.1) ++ [verR kc.1 (kc.2.getD j zVer)]) := ⟨by rw [List.take_succ_eq_append_getElem hjl, hgv, List.map_append]; rfl⟩
            have HLN : Aside0 ((pre ++ (recsK (s.K.take k) ++ (kc.2.take j).map (verR kc.1))).length ≤ 2000000) := ⟨by
              have h1 := HPL.out
              have h2 := HLP.out
              rw [List.length_append, List.length_append, List.length_map, List.length_take]
              omega⟩
            generalize kc.2.getD j zVer = v at *
            obtain ⟨A3, n3, q3, hs3⟩ : ∃ A n c, u3 = .slice A n c := by (obtain ⟨A, c, e⟩ := Kd.R_slice HO.out); exact ⟨A, _, c, e⟩
            subst hs3
            clear hc hc0 hK hl9 hgv
            go_wp2_with (at_builtin; go_loud (refine Kd.R_append k26 (w0 := w) w.heap.size rfl (.tmp 47) (.tmp 56) 22 26 _ 120 rfl Tryz.underlying22 infoRec rfl (by decide) (by omega) _ (pre ++ (recsK (s.K.take k) ++ (kc.2.take j).map (verR kc.1))) (verR kc.1 v) [.int .i64 3, .int .i64 0, .int .i64 v.f0, .int .i64 0, .string ⟨kc.1.toArray⟩, .string v.f1, .bool v.f2, .slice none 0 0, .slice none 0 0] (fun _ => True) (fun _ => False) rfl (by rw [size_alloc1]; rfl) (bare_M _ _ (verR kc.1 v) rfl rfl) (fun _ hk => hk.elim) (fun _ _ => trivial) (Kd.R_alloc HO.out _) (below_alloc HB.out _) (below_alloc HB.out _).size (by have := HLN.out; omega) ?_); intro v1 w1 ho hb hg hat; have HO1 := Aside0.mk ho; have HB1 := Aside0.mk hb; have HG1 := Aside0.mk hg; clear ho hb hg hat)
            have HRK1 := Aside0.mk (Kd.R_over' (Kd.R_alloc HRK.out _) (Kd.R_typed (Kd.R_alloc HO.out _)) (by decide) HG1.out)
            go_roundw
            case rel => exact ⟨j + 1, by omega, by go_num, ⟨by rw [HTJ.out, ← List.append_assoc (recsK _), ← List.append_assoc pre]; exact HO1.out⟩, HB1, HRK1⟩
            case measure => simp [intOf]; omega
          · obtain rfl : j = kc.2.length := by omega
            go_wp2_with fail
            go_roundw
            case rel => exact ⟨k + 1, by omega, by go_num, ⟨by rw [HTK.out]; have := HO.out; rw [List.take_length] at this; exact this⟩, HB, HRK⟩
            case measure => simp [intOf]; omega
      · obtain rfl : k = s.K.length := by omega
        have hpc := HP.out.below (HB.out.mono (Nat.le_refl _))
        obtain ⟨c0, c1, c2, c3⟩ := hpc.cells
        obtain ⟨AE, cE, rfl, hlE, hCE⟩ := Kd.R_reads HP.out.ends
        have HCE := Aside0.mk hCE
        have hle1025 := HP.out.good.ends
        have HLP : Aside0 ((recsK s.K).length ≤ 1024 * 1024) := ⟨by have := recsK_pre HP.out.good s.K.length; rwa [List.take_length] at this⟩
        have HOA : Aside0 (Kd.R k26 26 wr w.heap.size (fun _ => True) u3 (pre ++ recsK s.K)) := ⟨by have := HO.out; rwa [List.take_length] at this⟩
        clear hpc hlE hCE HO HRK hlt
        go_wp2_with fail
        go_loopw [65, 3] (fun i vo wz => ∃ k : Nat, k ≤ s.E.length ∧ i = .int .i64 (k : Int) ∧ Aside0 (Kd.R k26 26 wz w.heap.size (fun _ => True) vo (pre ++ (recsK s.K ++ (s.E.take k).map doR))) ∧ Aside0 (Below w.heap.size w wz)) (fun i _ _ => s.E.length - (intOf i).toNat)
        case atStart => exact ⟨0, Nat.zero_le _, rfl, ⟨by simpa using HOA.out⟩, HB⟩
        case round =>
          clear HOA HB c0 c1 c2 c3
          obtain ⟨k, hk, rfl, HO, HB⟩ := hrel
          by_cases hlt : k < s.E.length
          · obtain ⟨ad2, cs, rfl, hl9, hK, hc0⟩ := Kd.C_get (Kd.C_below HCE.out (HB.out.mono (Nat.le_refl _))) ((0, 0) : Int × Int) (k : Int) (by omega) (by omega)
            rw [Int.toNat_natCast] at hK hc0
            have hc : ∀ i u, cs[i]? = some u → wr.cell? (ad2.add (k * 2 + i)) = some u := hc0
            obtain rfl := kEnd_open hK
            have z0 : wr.cell? (ad2.add (k * 2)) = some (.int .i64 (s.E.getD k (0, 0)).1) := hc 0 _ rfl
            have z1 : wr.cell? ⟨(ad2.add (k * 2)).block, (ad2.add (k * 2)).off + 1, none⟩ = some (.int .i64 (s.E.getD k (0, 0)).2) := by rw [← add_field _ _ 1 (by omega)]; exact hc 1 _ rfl
            have hgv : s.E.getD k (0, 0) = s.E[k] := by simp [List.getElem?_eq_getElem hlt]
            have HTJ : Aside0 ((s.E.take (k + 1)).map doR = (s.E.take k).map doR ++ [doR (s.E.getD k (0, 0))]) := ⟨by rw [List.take_succ_eq_append_getElem hlt, hgv, List.map_append]; rfl⟩
            have HLN : Aside0 ((pre ++ (recsK s.K ++ (s.E.take k).map doR)).length ≤ 2000000) := ⟨by
              have h1 := HPL.out
              have h2 := HLP.out
              rw [List.length_append, List.length_append, List.length_map, List.length_take]
              omega⟩
            generalize s.E.getD k (0, 0) = x at *
            obtain ⟨A3, n3, q3, hs3⟩ : ∃ A n c, u3 = .slice A n c := by (obtain ⟨A, c, e⟩ := Kd.R_slice HO.out); exact ⟨A, _, c, e⟩
            subst hs3
            clear hc hc0 hK hl9 hgv
            go_wp2_with (at_builtin; go_loud (refine Kd.R_append k26 (w0 := w) w.heap.size rfl (.tmp 69) (.tmp 75) 22 26 _ 120 rfl Tryz.underlying22 infoRec rfl (by decide) (by omega) _ (pre ++ (recsK s.K ++ (s.E.take k).map doR)) (doR x) [.int .i64 2, .int .i64 x.1, .int .i64 x.2, .int .i64 0, .string ⟨#[]⟩, .string ⟨#[]⟩, .bool false, .slice none 0 0, .slice none 0 0] (fun _ => True) (fun _ => False) rfl (by rw [size_alloc1]; rfl) (bare_M _ _ (doR x) rfl rfl) (fun _ hk => hk.elim) (fun _ _ => trivial) (Kd.R_alloc HO.out _) (below_alloc HB.out _) (below_alloc HB.out _).size (by have := HLN.out; omega) ?_); intro v1 w1 ho hb hg hat; have HO1 := Aside0.mk ho; have HB1 := Aside0.mk hb; have HG1 := Aside0.mk hg; clear ho hb hg hat)
            go_roundw
            case rel => exact ⟨k + 1, by omega, by go_num, ⟨by rw [HTJ.out, ← List.append_assoc (recsK _), ← List.append_assoc pre]; exact HO1.out⟩, HB1⟩
            case measure => simp [intOf]; omega
          · obtain rfl : k = s.E.length := by omega
            have HOA : Aside0 (Kd.R k26 26 wr w.heap.size (fun _ => True) u3 (pre ++ (recsK s.K ++ s.E.map doR))) := ⟨by have := HO.out; rwa [List.take_length] at this⟩
            have HOP := Aside0.mk (open_walk (w := wr) ⟨bk, bp, _, fk, fp, HP.out.below (HB.out.mono (Nat.le_refl _))⟩ HNN.out)
            clear HO hlt
            go_wp2_with fail
            refine HOP.out.mono ?_
            rintro e w2 ⟨vk, rfl, hR, hb2⟩
            obtain ⟨AO, cO, rfl⟩ := Kd.R_slice hR
            have hlen : (openV s).length = s.P.length := List.length_map ..
            rw [hlen] at hR ⊢
            have HB2 : Aside0 (Below w.heap.size w w2) := ⟨HB.out.trans (hb2.mono HB.out.size)⟩
            have HO2 := Aside0.mk (Kd.R_below HOA.out hb2)
            have HRK2 := Aside0.mk (Kd.R_lower hR (Nat.zero_le _))
            have hfewP := HP.out.good.few
            clear hR hb2 HOP hlen HOA HB
            go_wp2_with fail
            go_loopw [81, 3] (fun i vo wz => ∃ k : Nat, k ≤ s.P.length ∧ i = .int .i64 (k : Int) ∧ Aside0 (Kd.R k26 26 wz w.heap.size (fun _ => True) vo (pre ++ (recsK s.K ++ (s.E.map doR ++ s.P.take k)))) ∧ Aside0 (Below w.heap.size w wz) ∧ Aside0 (Kd.R (Kd.int .i64) 3 wz 0 (fun _ => True) (.slice AO s.P.length cO) (openV s))) (fun i _ _ => s.P.length - (intOf i).toNat)
            case atStart => exact ⟨0, Nat.zero_le _, rfl, ⟨by simpa using HO2.out⟩, HB2, HRK2⟩
            case round =>
              clear HO2 HB2 HRK2
              obtain ⟨k, hk, rfl, HO, HB, HRK⟩ := hrel
              by_cases hlt : k < s.P.length
              · obtain ⟨A', c', he, hle', hC'⟩ := Kd.R_reads HRK.out
                injection he with e1 e2 e3
                subst e1
                clear e2 e3
                obtain ⟨ad3, rfl, hci⟩ := Kd.at_int hC' (k : Int) (by omega) (by rw [show (openV s).length = s.P.length from List.length_map ..]; omega)
                rw [Int.toNat_natCast] at hci
                have hrd : Go.Proofs.YtaldfbmjmpkmmaaGreatW.PrintWords.rd (openV s) (k : Int) = (s.P[k]).f1 := by
                  unfold Go.Proofs.YtaldfbmjmpkmmaaGreatW.PrintWords.rd openV
                  rw [Int.toNat_natCast, List.getD_eq_getElem?_getD, List.getElem?_map, List.getElem?_eq_getElem hlt]
                  rfl
                rw [hrd] at hci
                have hmem : s.P[k] ∈ s.P := List.getElem_mem hlt
                have HTP : Aside0 (s.P.take (k + 1) = s.P.take k ++ [s.P[k]]) := ⟨List.take_succ_eq_append_getElem hlt⟩
                have HLN : Aside0 ((pre ++ (recsK s.K ++ (s.E.map doR ++ s.P.take k))).length ≤ 2000000) := ⟨by
                  have h1 := HPL.out
                  have h2 := HLP.out
                  rw [List.length_append, List.length_append, List.length_append, List.length_map, List.length_take]
                  omega⟩
                generalize s.P[k] = r at *
                have hpc := HP.out.below (HB.out.mono (Nat.le_refl _))
                obtain ⟨v7, v8, hfv, h7, h8⟩ := hpc.prep_rec r hmem
                obtain ⟨B7, d7, rfl, l7, g7⟩ := Kd.R_reads h7
                obtain ⟨B8, d8, rfl, l8, g8⟩ := Kd.R_reads h8
                have hla := prep_lists (HP.out.good.recs r hmem).1 (HP.out.good.recs r hmem).2
                have hrg := (okR_all (HP.out.good.recs r hmem).2).1
                have HV : Aside0 ((fp (ik r.f1)).getD (.agg #[.int .i64 0, .int .i64 0, .int .i64 0, .int .i64 0, .string ⟨#[]⟩, .string ⟨#[]⟩, .bool false, .slice none 0 0, .slice none 0 0]) = .agg #[.int .i64 r.f0, .int .i64 r.f1, .int .i64 r.f2, .int .i64 r.f3, .string r.f4, .string r.f5, .bool r.f6, .slice B7 r.f7.length d7, .slice B8 r.f8.length d8]) := ⟨by rw [hfv]; rfl⟩
                have HKI := Aside0.mk (key_ik (t := r.f1) (by omega))
                have HCP := Aside0.mk (copied_walk wr r _ (k26_mk wr r l7 g7 l8 g8) (by have := hla.1.few7; omega) (by have := hla.1.few8; omega))
                have HPC := Aside0.mk hpc
                obtain ⟨c0, c1, c2, c3⟩ := hpc.cells
                obtain ⟨A3, n3, q3, hs3⟩ : ∃ A n c, u3 = .slice A n c := by (obtain ⟨A, c, e⟩ := Kd.R_slice HO.out); exact ⟨A, _, c, e⟩
                subst hs3
                have HFL := Aside0.mk (Kd.R_lt HO.out)
                clear hfv h7 h8 l7 g7 l8 g8 hla hrg hpc hC' hle' hmem hrd
                go_wp2_with (at_lookup; refine MapL.at_ HPC.out.preps keyedI rfl _ _ 66 26 rfl Tryz.underlying66 (zeroR _) rfl rfl HKI.out ?_; rw [HV.out])
                refine HCP.out.mono ?_
                rintro e w5 ⟨cs', rfl, hM, hb5⟩
                have HM := Aside0.mk (k26.M_lower HB.out.size (k26.M_mono (fun q hq => hq.2.1) (k26.M_bound hM)))
                have HFR : Aside0 (∀ q, wr.heap.size ≤ q → some q ≠ (Value.slice A3 n3 q3).ownBlock) := ⟨fun q hq e => by have := HFL.out q e.symm; omega⟩
                have HO5 := Aside0.mk (Kd.R_below HO.out hb5)
                have HB5 : Aside0 (Below w.heap.size w w5) := ⟨HB.out.trans (hb5.mono HB.out.size)⟩
                have HRK5 := Aside0.mk (Kd.R_below HRK.out hb5)
                obtain ⟨x7, x8, rfl, -, -⟩ := k26_openM hM
                clear hM hb5 HCP c0 c1 c2 c3 hci
                go_wp2_with (at_builtin; go_loud (refine Kd.R_append k26 (w0 := w) w.heap.size rfl (.tmp 85) (.tmp 93) 22 26 _ 120 rfl Tryz.underlying22 infoRec rfl (by decide) (by omega) _ (pre ++ (recsK s.K ++ (s.E.map doR ++ s.P.take k))) r _ (fun _ => True) (fun q => wr.heap.size ≤ q) rfl rfl HM.out (fun q hq => ⟨trivial, HFR.out q hq⟩) (fun _ _ => trivial) HO5.out HB5.out HB5.out.size (by have := HLN.out; omega) ?_); intro v1 w1 ho hb hg hat; have HO1 := Aside0.mk ho; have HB1 := Aside0.mk hb; have HG1 := Aside0.mk hg; clear ho hb hg hat)
                have HRK1 := Aside0.mk (Kd.R_over' HRK5.out (Kd.R_typed HO5.out) (by decide) HG1.out)
                go_roundw
                case rel => exact ⟨k + 1, by omega, by go_num, ⟨by rw [HTP.out, ← List.append_assoc (s.E.map doR), ← List.append_assoc (recsK _), ← List.append_assoc pre]; exact HO1.out⟩, HB1, HRK1⟩
                case measure => simp [intOf]; omega
              · obtain rfl : k = s.P.length := by omega
                have HEND : Aside0 (Kd.R k26 26 wr w.heap.size (fun _ => True) u3 (recsV s)) := ⟨by
                  have := HO.out
                  rw [List.take_length, HPRE.out] at this
                  exact this⟩
                clear HO
                go_wp2
                go_ret
                exact ⟨_, rfl, HEND.out, HB.out⟩
end Go.Proofs.YtaldfbmjmpkmmaaGreat.PL
namespace Go.Proofs.YtaldfbmjmpkmmaaGreat.PL
open Go.RowKit
set_option linter.unusedVariables false
set_option linter.unusedSimpArgs false
/-- Records applied, each of them OK. -/
def runs : Sh → List Rec → Option Sh
  | s, [] => some s
  | s, r :: l => if (applyV s r).1 = 0 then runs (applyV s r).2 l else none
theorem runs_append : ∀ (l m : List Rec) (s t : Sh), runs s l = some t → runs s (l ++ m) = runs t m
  | [], m, s, t, h => by
    have : s = t := Option.some.inj h
    rw [this]
    rfl
  | r :: l, m, s, t, h => by
    have h' : (if (applyV s r).1 = 0 then runs (applyV s r).2 l else none) = some t := h
    show (if (applyV s r).1 = 0 then runs (applyV s r).2 (l ++ m) else none) = _
    split at h'
    · rename_i hc
      rw [if_pos hc]
      exact runs_append l m _ t h'
    · cases h'
theorem runs_cons {s t : Sh} {r : Rec} {l : List Rec} {u : Option Sh} (h : applyV s r = (0, t)) (ht : runs t l = u) : runs s (r :: l) = u := by
  unfold runs
  rw [h, if_pos rfl]
  exact ht
theorem sweepR_ok {t : Int} (h : 0 ≤ t ∧ t ≤ 1125899906842624) : okR (sweepR t) = 0 := by
  have h1 : rangeBad 0 t 0 = false := by unfold rangeBad; simp; omega
  show recV 4 0 t 0 ⟨#[]⟩ ⟨#[]⟩ false [] [] = 0
  unfold recV
  rw [h1, if_neg (by simp), if_pos]
  rw [ok4 rfl]
  kernel_rfl
theorem doR_ok {e : Int × Int} (h : 0 < e.1 ∧ e.1 ≤ 1125899906842623 ∧ 0 ≤ e.2 ∧ e.2 ≤ 1125899906842624) : okR (doR e) = 0 := by
  have h1 : rangeBad e.1 e.2 0 = false := by unfold rangeBad; simp; omega
  show recV 2 e.1 e.2 0 ⟨#[]⟩ ⟨#[]⟩ false [] [] = 0
  unfold recV
  rw [h1, if_neg (by simp), if_pos]
  rw [ok2 rfl, decide_eq_true h.1]
  kernel_rfl
theorem verR_ok {k : Key} {v : Ver} (hk : keyB ⟨k.toArray⟩ = true) (hv : VerOk v) : okR (verR k v) = 0 := by
  obtain ⟨h1, h2, h3, h4⟩ := hv
  have hb : rangeBad 0 v.f0 0 = false := by unfold rangeBad; simp; omega
  show recV 3 0 v.f0 0 ⟨k.toArray⟩ v.f1 v.f2 [] [] = 0
  unfold recV
  rw [hb, if_neg (by simp), if_pos]
  rw [ok3 rfl, hk, decide_eq_true (show 0 < v.f0 by omega), decide_eq_true h3]
  cases hd : v.f2 with
  | false => simp [noneB]
  | true => simp [noneB, h4 hd]
theorem apply_sweep {s : Sh} {t : Int} (h : 0 ≤ t ∧ t ≤ 1125899906842624) : applyV s (sweepR t) = sweepV s t := by
  unfold applyV
  rw [if_pos (sweepR_ok h), if_neg (show ¬ (sweepR t).f0 = 1 from fun h => by cases h), if_neg (show ¬ (sweepR t).f0 = 2 from fun h => by cases h), if_pos (show (sweepR t).f0 = 4 from rfl)]
  rfl
theorem apply_do {s : Sh} {e : Int × Int} (h : 0 < e.1 ∧ e.1 ≤ 1125899906842623 ∧ 0 ≤ e.2 ∧ e.2 ≤ 1125899906842624) : applyV s (doR e) = doV s e.1 e.2 := by
  unfold applyV
  rw [if_pos (doR_ok h), if_neg (show ¬ (doR e).f0 = 1 from fun h => by cases h), if_pos (show (doR e).f0 = 2 from rfl)]
  rfl
theorem wkey_ver (k : Key) (v : Ver) : wkey (verW (verR k v)) = k := by simp [wkey, verW, verR, kb]
theorem apply_ver {s : Sh} {k : Key} {v : Ver} (hk : keyB ⟨k.toArray⟩ = true) (hv : VerOk v) : applyV s (verR k v) = if roomV s [verW (verR k v)] v.f0 = 0 then (0, { s with K := kput s.K k (look s.K k ++ [v]) }) else (roomV s [verW (verR k v)] v.f0, s) := by
  unfold applyV
  rw [if_pos (verR_ok hk hv), if_neg (show ¬ (verR k v).f0 = 1 from fun h => by cases h), if_neg (show ¬ (verR k v).f0 = 2 from fun h => by cases h), if_neg (show ¬ (verR k v).f0 = 4 from fun h => by cases h), if_pos (show (verR k v).f0 = 3 from rfl)]
  have e : putV s.K [verW (verR k v)] (verR k v).f2 = kput s.K k (look s.K k ++ [v]) := by
    show kput s.K (wkey (verW (verR k v))) (look s.K (wkey (verW (verR k v))) ++ [⟨v.f0, v.f1, v.f2⟩]) = _
    rw [wkey_ver]
  rw [e]
  rfl
theorem kput_back : ∀ (K : List (Key × Chain)) (k : Key) (c : Chain), (∀ q ∈ keysK K, Op.bytesLess q k = true) → kput K k c = K ++ [(k, c)]
  | [], _, _, _ => rfl
  | (q, d) :: K, k, c, h => by
    have h1 := h q (by simp [keysK])
    unfold kput
    rw [if_neg (kl_ne h1), if_pos h1, kput_back K k c (fun q hq => h q (by simp [keysK] at hq ⊢; exact .inr hq))]
    rfl
theorem kput_over : ∀ (K : List (Key × Chain)) (k : Key) (c d : Chain), (∀ q ∈ keysK K, Op.bytesLess q k = true) → kput (K ++ [(k, c)]) k d = K ++ [(k, d)]
  | [], k, c, d, _ => by simp [kput]
  | (q, e) :: K, k, c, d, h => by
    have h1 := h q (by simp [keysK])
    rw [List.cons_append]
    unfold kput
    rw [if_neg (kl_ne h1), if_pos h1, kput_over K k c d (fun q hq => h q (by simp [keysK] at hq ⊢; exact .inr hq))]
    rfl
theorem look_back : ∀ (K : List (Key × Chain)) (k : Key) (c : Chain), (∀ q ∈ keysK K, Op.bytesLess q k = true) → look (K ++ [(k, c)]) k = c
  | [], k, c, _ => by simp [look]
  | (q, e) :: K, k, c, h => by
    have h1 := h q (by simp [keysK])
    rw [List.cons_append]
    unfold look
    rw [if_neg (kl_ne h1)]
    exact look_back K k c (fun q hq => h q (by simp [keysK] at hq ⊢; exact .inr hq))
theorem look_less (K : List (Key × Chain)) (k : Key) (h : ∀ q ∈ keysK K, Op.bytesLess q k = true) : look K k = [] := look_none (fun hk => by
  have := h k hk
  rw [kl_irrefl] at this
  cases this)
/-- The versions of one key, one behind the other. -/
theorem runs_chain (s : Sh) (K : List (Key × Chain)) (k : Key) (hK : ∀ q ∈ keysK K, Op.bytesLess q k = true) (hk : keyB ⟨k.toArray⟩ = true) (hl : K.length < 1024) : ∀ (d c : Chain), ChainOk (c ++ d) →
    runs { s with K := if c = [] then K else K ++ [(k, c)] } (d.map (verR k)) = some { s with K := if c ++ d = [] then K else K ++ [(k, c ++ d)] }
  | [], c, _ => by simp [runs]
  | v :: d, c, h => by
    have hv : VerOk v := h.ver v (by simp)
    have hlen : c.length < 1024 := by have := h.len; simp at this; omega
    have hlast : lastV c < v.f0 := by
      by_cases hc : c = []
      · subst hc; rw [last_nil]; have := hv.1; omega
      · unfold lastV
        obtain ⟨u, hu⟩ := List.getLast?_isSome.2 hc |> Option.isSome_iff_exists.1
        rw [hu]
        have hm : u ∈ c := List.mem_of_getLast? hu
        exact (List.pairwise_append.1 h.rise).2.2 u hm v (by simp)
    have hlook : look (if c = [] then K else K ++ [(k, c)]) k = c := by
      by_cases hc : c = []
      · rw [if_pos hc, hc]; exact look_less K k hK
      · rw [if_neg hc]; exact look_back K k c hK
    have hroom : roomV { s with K := if c = [] then K else K ++ [(k, c)] } [verW (verR k v)] v.f0 = 0 := by
      unfold roomV
      have hn : ¬ v.f0 ≤ lastV (look (if c = [] then K else K ++ [(k, c)]) (wkey (verW (verR k v)))) := by
        rw [wkey_ver, hlook]; omega
      rw [if_neg (by simpa using hn)]
      show roomN _ _ [_] = 0
      unfold roomN cntK
      rw [wkey_ver, hlook]
      have hcnt : (if c.isEmpty = true then (if c = [] then K else K ++ [(k, c)]).length + 1 else (if c = [] then K else K ++ [(k, c)]).length) ≤ 1024 := by
        by_cases hc : c = []
        · rw [if_pos (by simpa using hc), if_pos hc]; omega
        · rw [if_neg (by simpa using hc), if_neg hc]; simp; omega
      rw [if_neg (by show ¬ (1024 ≤ c.length ∨ 1024 < (if c.isEmpty = true then (if c = [] then K else K ++ [(k, c)]).length + 1 else (if c = [] then K else K ++ [(k, c)]).length)); omega)]
      rfl
    have happ := apply_ver (s := { s with K := if c = [] then K else K ++ [(k, c)] }) hk hv
    rw [if_pos hroom] at happ
    have hput : kput (if c = [] then K else K ++ [(k, c)]) k (look (if c = [] then K else K ++ [(k, c)]) k ++ [v]) = if c ++ [v] = [] then K else K ++ [(k, c ++ [v])] := by
      rw [hlook, if_neg (show ¬ c ++ [v] = [] by simp)]
      by_cases hc : c = []
      · rw [if_pos hc, kput_back K k _ hK]
      · rw [if_neg hc, kput_over K k c _ hK]
    simp only [hput] at happ
    have ih := runs_chain s K k hK hk hl d (c ++ [v]) (by rw [List.append_assoc]; exact h)
    rw [List.map_cons]
    refine runs_cons happ ?_
    rw [ih, List.append_assoc]
    rfl
theorem runs_keys (s : Sh) : ∀ (K2 K1 : List (Key × Chain)), KOk (K1 ++ K2) → (∀ k ∈ keysK (K1 ++ K2), keyB ⟨k.toArray⟩ = true) → runs { s with K := K1 } (recsK K2) = some { s with K := K1 ++ K2 }
  | [], K1, _, _ => by simp [runs, recsK]
  | (k, c) :: K2, K1, h, hk => by
    have hr := h.rise
    unfold Rising keysK at hr
    rw [List.map_append, List.pairwise_append] at hr
    have hK : ∀ q ∈ keysK K1, Op.bytesLess q k = true := fun q hq => hr.2.2 q hq k (by simp)
    have hc := h.chain (k, c) (by simp)
    have h1 := runs_chain s K1 k hK (hk k (by simp [keysK])) (by have := h.few; simp at this; omega) c [] (by simpa using hc.2)
    rw [if_pos rfl, List.nil_append, if_neg hc.1] at h1
    have e : recsK ((k, c) :: K2) = c.map (verR k) ++ recsK K2 := by simp [recsK]
    rw [e, runs_append _ _ _ _ h1]
    have e2 : K1 ++ (k, c) :: K2 = (K1 ++ [(k, c)]) ++ K2 := by simp
    rw [e2] at h hk ⊢
    exact runs_keys s K2 (K1 ++ [(k, c)]) h hk
theorem runs_ends (s : Sh) (hP : s.P = []) : ∀ (E2 E1 : List (Int × Int)), (E1 ++ E2).Pairwise (fun a b => a.1 ≠ b.1) → (∀ e ∈ E2, 0 < e.1 ∧ e.1 ≤ 1125899906842623 ∧ 0 ≤ e.2 ∧ e.2 ≤ 1125899906842624) → (E1 ++ E2).length ≤ 1024 → runs { s with E := E1 } (E2.map doR) = some { s with E := E1 ++ E2 }
  | [], E1, _, _, _ => by simp [runs]
  | e :: E2, E1, hd, hr, hl => by
    have hn : ∀ x ∈ E1, x.1 ≠ e.1 := fun x hx => (List.pairwise_append.1 hd).2.2 x hx e (by simp)
    have hst : stateV { s with E := E1 } e.1 = (0, 0) := by
      unfold stateV
      rw [if_neg (by show ¬ s.P.any _ = true; rw [hP]; simp)]
      rw [find_none_of hn]
    have hdo : doV { s with E := E1 } e.1 e.2 = (0, { s with E := E1 ++ [e] }) := by
      unfold doV
      rw [hst, if_neg (by simp), if_neg (by simp), if_neg (by simp)]
      unfold endV endE
      have hfl : ¬ 1024 < (E1 ++ [(e.1, e.2)]).length := by simp at hl ⊢; omega
      rw [if_neg hfl]
      show (0, ({ K := s.K, P := s.P.filter _, E := E1 ++ [(e.1, e.2)], over := s.over } : Sh)) = (0, { K := s.K, P := s.P, E := E1 ++ [e], over := s.over })
      rw [hP]
      rfl
    rw [List.map_cons]
    refine runs_cons ((apply_do (hr e (by simp))).trans hdo) ?_
    have e2 : E1 ++ e :: E2 = (E1 ++ [e]) ++ E2 := by simp
    rw [e2] at hd hl ⊢
    exact runs_ends s hP E2 (E1 ++ [e]) hd (fun x hx => hr x (by simp [hx])) hl
theorem pput_back : ∀ (P : List Rec) (r : Rec), (∀ x ∈ P, x.f1 < r.f1) → pput P r = P ++ [r]
  | [], _, _ => rfl
  | x :: P, r, h => by
    unfold pput
    rw [if_pos (h x (by simp)), pput_back P r (fun y hy => h y (by simp [hy]))]
    rfl
theorem runs_preps (s : Sh) : ∀ (P2 P1 : List Rec), (P1 ++ P2).Pairwise (fun a b => a.f1 < b.f1) → (∀ r ∈ P2, r.f0 = 1 ∧ okR r = 0) → PApart (P1 ++ P2) → (∀ r ∈ P2, ∀ e ∈ s.E, r.f1 ≠ e.1) → (P1 ++ P2).length ≤ 1024 → runs { s with P := P1 } P2 = some { s with P := P1 ++ P2 }
  | [], P1, _, _, _, _, _ => by simp [runs]
  | r :: P2, P1, hd, hr, ha, he, hl => by
    have hlt : ∀ x ∈ P1, x.f1 < r.f1 := fun x hx => (List.pairwise_append.1 hd).2.2 x hx r (by simp)
    have hst : stateV { s with P := P1 } r.f1 = (0, 0) := by
      unfold stateV
      rw [if_neg]
      · show (match s.E.find? _ with | none => _ | some e => _) = _
        rw [find_none_of (fun e h2 => Ne.symm (he r (by simp) e h2))]
      · intro hc
        obtain ⟨x, hx, hxt⟩ := List.any_eq_true.1 hc
        have := hlt x hx
        have := of_decide_eq_true hxt
        omega
    have hh : (r.f7.any (fun k => heldV { s with P := P1 } (kb k) false) || r.f8.any (fun w => heldV { s with P := P1 } (kb w.f0) true)) = false := by
      rw [Bool.or_eq_false_iff]
      refine ⟨List.any_eq_false.2 (fun k hk => ?_), List.any_eq_false.2 (fun w hw => ?_)⟩
      · rw [Bool.not_eq_true]
        refine List.any_eq_false.2 (fun x hx => ?_)
        rw [Bool.not_eq_true]
        have h1 : wrote x (kb k) = false := by
          cases h : wrote x (kb k) with
          | false => rfl
          | true =>
            have := ha.wk x (by simp [hx]) r (by simp) (by have := hlt x hx; omega) _ h
            rw [watch_of hk] at this
            cases this
        simp [heldR, h1]
      · rw [Bool.not_eq_true]
        refine List.any_eq_false.2 (fun x hx => ?_)
        rw [Bool.not_eq_true]
        have hne : r.f1 ≠ x.f1 := by have := hlt x hx; omega
        have h1 := ha.ww r (by simp) x (by simp [hx]) hne _ (wrote_of hw)
        have h2 := ha.wk r (by simp) x (by simp [hx]) hne _ (wrote_of hw)
        unfold wkey at h1 h2
        simp [heldR, h1, h2]
    have hpr : applyV { s with P := P1 } r = (0, { s with P := P1 ++ [r] }) := by
      unfold applyV
      rw [if_pos (hr r (by simp)).2, if_pos (hr r (by simp)).1]
      unfold prepV
      have hn : ¬ (1024 ≤ P1.length) := by simp at hl; omega
      rw [hst, if_neg (by simp), if_neg (by rw [hh]; simp), if_neg hn, pput_back P1 r hlt]
    refine runs_cons hpr ?_
    have e2 : P1 ++ r :: P2 = (P1 ++ [r]) ++ P2 := by simp
    rw [e2] at hd ha hl ⊢
    exact runs_preps s P2 (P1 ++ [r]) hd (fun x hx => hr x (by simp [hx])) ha (fun x hx => he x (by simp [hx])) hl
/-- A shelf that is made of a shelf's records is that shelf. -/
theorem runs_again {s : Sh} (h : ShOk s) (m : ShMore s) : runs sh0 (recsV s) = some s := by
  unfold recsV
  have h0 : runs sh0 (if 0 < s.over then [sweepR s.over] else []) = some ⟨[], [], [], s.over⟩ := by
    split
    · refine runs_cons (t := ⟨[], [], [], s.over⟩) ?_ rfl
      rw [apply_sweep h.over]
      unfold sweepV
      rw [if_neg (by show ¬ s.over < 0; have := h.over; omega)]
      rfl
    · have : s.over = 0 := by have := h.over; omega
      rw [this]
      rfl
  rw [runs_append _ _ _ _ h0]
  have h1 := runs_keys ⟨[], [], [], s.over⟩ s.K [] (by simpa using h.keys) (by simpa using m.kk)
  rw [List.nil_append] at h1
  rw [runs_append _ _ _ _ h1]
  have h2 := runs_ends ⟨s.K, [], [], s.over⟩ rfl s.E [] (by simpa using m.en) m.er (by simpa using m.el)
  rw [List.nil_append] at h2
  rw [runs_append _ _ _ _ h2]
  have h3 := runs_preps ⟨s.K, [], s.E, s.over⟩ s.P [] (by simpa using h.rise) h.recs (by simpa using m.pa) m.pe (by simpa using h.few)
  rw [List.nil_append] at h3
  exact h3
theorem runs_at : ∀ (l : List Rec) (s t : Sh) (i : Nat), runs s l = some t → i ≤ l.length → ∃ u, runs s (l.take i) = some u ∧ runs u (l.drop i) = some t
  | l, s, t, 0, h, _ => ⟨s, rfl, h⟩
  | [], s, t, i + 1, h, hi => absurd hi (by simp)
  | r :: l, s, t, i + 1, h, hi => by
    unfold runs at h
    split at h
    · rename_i hc
      obtain ⟨u, h1, h2⟩ := runs_at l _ t i h (by simpa using hi)
      refine ⟨u, ?_, h2⟩
      show runs s (r :: l.take i) = some u
      unfold runs
      rw [if_pos hc]
      exact h1
    · cases h
end Go.Proofs.YtaldfbmjmpkmmaaGreat.PL
namespace Go.Proofs.YtaldfbmjmpkmmaaGreat.PL
open Go.RowKit Go.Proofs.YtaldfbmjmpkmmaaGreatW.PrintWords Go.Proofs.YtaldfbmjmpkmmaaGreatW.PrintLast Go.Proofs.YtaldfbmjmpkmmaaGreatW.PrintMore
attribute [local go_sem] Mk.str_leq Mk.str_gtr Mk.str_geq max2_int min2_int max_two min_two max_three min_three max_four min_four   -- for this text's walks alone
set_option linter.unusedVariables false
set_option linter.unusedSimpArgs false

/-! ### corncribbook_SameTexts: function 51 -/
def corncribbook_SameTexts.l0 : Nat → List ByteArray → List ByteArray → Int → Option (Bool)
 | 0, _, _, _ => none
 | k + 1, x0, x1, x5 => if x5 < (x0.length : Int) then (if 0 ≤ x5 then (if x5 < (x1.length : Int) then (if (rdOf ByteArray.empty x0 x5).toList = (rdOf ByteArray.empty x1 x5).toList then (corncribbook_SameTexts.l0 k x0 x1 (wrap64 (x5 + 1))) else (some false)) else (none)) else (none)) else (some true)
def corncribbook_SameTexts.f (k : Nat) (l0 : List ByteArray) (l1 : List ByteArray) : Option (Bool) := if (l0.length : Int) = (l1.length : Int) then (corncribbook_SameTexts.l0 k l0 l1 0) else (some false)
theorem corncribbook_SameTexts.mono_l : ∀ k, (∀ y0 y1 y2, LeO (corncribbook_SameTexts.l0 k y0 y1 y2) (corncribbook_SameTexts.l0 (k + 1) y0 y1 y2))
 | 0 => fun _ _ _ r h => by simp [corncribbook_SameTexts.l0] at h
 | k + 1 => by
  have ih0 := corncribbook_SameTexts.mono_l k
  ·intro y0 y1 y2
   unfold corncribbook_SameTexts.l0
   repeat' first
   | (with_reducible exact ih0 _ _ _)
   | (with_reducible exact LeO.refl _)
   | (with_reducible exact LeO.none _)
   | (with_reducible refine LeO.ite ?_ ?_)
   | (with_reducible refine LeO.bind ?_ (fun _ => ?_))
   | exact ih0 _ _ _
   | exact LeO.none _
   | refine LeO.ite ?_ ?_
   | refine LeO.bind ?_ (fun _ => ?_)
theorem corncribbook_SameTexts.mono : ∀ a0 a1 k, LeO (corncribbook_SameTexts.f k a0 a1) (corncribbook_SameTexts.f (k + 1) a0 a1) := by
 intro a0 a1 k
 have ih0 := corncribbook_SameTexts.mono_l k
 unfold corncribbook_SameTexts.f
 repeat' first
   | (with_reducible exact ih0 _ _ _)
   | (with_reducible exact LeO.refl _)
   | (with_reducible exact LeO.none _)
   | (with_reducible refine LeO.ite ?_ ?_)
   | (with_reducible refine LeO.bind ?_ (fun _ => ?_))
   | exact ih0 _ _ _
   | exact LeO.none _
   | refine LeO.ite ?_ ?_
   | refine LeO.bind ?_ (fun _ => ?_)
set_option maxHeartbeats 8000000 in
set_option maxRecDepth 100000 in
theorem corncribbook_SameTexts.calls (k : Nat) (A0 : Option Addr) (c0 : Nat) (l0 : List ByteArray) (A1 : Option Addr) (c1 : Nat) (l1 : List ByteArray) (r : Bool) (w : World) (hr0 : Kd.C Kd.string w A0 l0.length l0) (hc0 : l0.length ≤ c0) (hr1 : Kd.C Kd.string w A1 l1.length l1) (hc1 : l1.length ≤ c1) (h : corncribbook_SameTexts.f k l0 l1 = some r) :
  Calls Tryz.prog 51 #[.slice A0 l0.length c0, .slice A1 l1.length c1] w fun e w' => e = .returned (.bool r) ∧ Drawn0 w w' := by
 have HR0 := Aside0.mk hr0
 have HC0 := Aside0.mk hc0
 clear hr0 hc0
 have HR1 := Aside0.mk hr1
 have HC1 := Aside0.mk hc1
 clear hr1 hc1
 have H : (if (l0.length : Int) = (l1.length : Int) then (corncribbook_SameTexts.l0 k l0 l1 0) else (some false)) = some r := h
 clear h
 by_cases c3 : (l0.length : Int) = (l1.length : Int)
 ·rw [if_pos c3] at H
  have c3b0 : ((l0.length : Int) == (l1.length : Int)) = true := beq_iff_eq.mpr c3
  have c3b1 : ((l0.length : Int) != (l1.length : Int)) = false := bne_eq_false_iff_eq.mpr c3
  have c3b2 : (l0.length == l1.length) = true := by first | simpa using c3 | (simp at c3 ⊢; omega)
  clear c3
  have H' := Aside0.mk H
  clear H
  go_enter Tryz.func51, Tryz.ntmps51
  go_wp2
  repeat (go_quiet (fail); try go_wp2)
  go_loopg [5] k (fun kq v5 w' => ∃ (x5_1 : Int), v5 = .int .i64 x5_1 ∧ Aside0 (corncribbook_SameTexts.l0 kq l0 l1 x5_1 = some r) ∧ Aside0 (kq ≤ k) ∧ Drawn0 w w')
  case atStart => exact ⟨(0), (by first | rfl | (simp; done) | (simp [*]; done)), H', ⟨Nat.le_refl _⟩, by repeat (first | exact Drawn0.refl _ | apply Drawn0.step)⟩
  case round =>
   clear H'
   try clear c1
   try clear p2
   try clear c3
   try clear c3b0
   try clear c3b1
   try clear c3b2
   obtain ⟨x5_1, rfl, HA, HK1, ⟨m1, rfl⟩⟩ := hrel
   cases gk with
   | zero => exact absurd HA.out (by simp [corncribbook_SameTexts.l0])
   | succ k1 =>
    have H := HA.out
    clear HA
    simp only [corncribbook_SameTexts.l0] at H
    by_cases c4 : x5_1 < (l0.length : Int)
    ·rw [if_pos c4] at H
     have c4b0 : decide (x5_1 < (l0.length : Int)) = true := decide_eq_true c4
     clear c4
     by_cases c5 : 0 ≤ x5_1
     ·rw [if_pos c5] at H
      have c5b0 : decide (0 ≤ x5_1) = true := decide_eq_true c5
      clear c5
      by_cases c6 : x5_1 < (l1.length : Int)
      ·rw [if_pos c6] at H
       have c6b0 : decide (x5_1 < (l1.length : Int)) = true := decide_eq_true c6
       clear c6
       by_cases c7 : (rdOf ByteArray.empty l0 x5_1).toList = (rdOf ByteArray.empty l1 x5_1).toList
       ·rw [if_pos c7] at H
        have c7b0 : ((rdOf ByteArray.empty l0 x5_1).toList == (rdOf ByteArray.empty l1 x5_1).toList) = true := beq_iff_eq.mpr c7
        have c7b1 : ((rdOf ByteArray.empty l0 x5_1).toList != (rdOf ByteArray.empty l1 x5_1).toList) = false := bne_eq_false_iff_eq.mpr c7
        clear c7
        have H' := Aside0.mk H
        clear H
        have p120 : 0 ≤ (x5_1 : Int) := of_decide_eq_true (by first | (with_reducible assumption) | assumption)
        have q120 : x5_1 < (l0.length : Int) := of_decide_eq_true (by first | (with_reducible assumption) | assumption)
        obtain ⟨ad120, e120, hx120_0⟩ := Kd.at_string HR0.out x5_1 p120 q120
        cases e120
        replace p120 := eq_true p120
        replace q120 := eq_true q120
        have p121 : 0 ≤ (x5_1 : Int) := of_decide_eq_true (by first | (with_reducible assumption) | assumption)
        have q121 : x5_1 < (l1.length : Int) := of_decide_eq_true (by first | (with_reducible assumption) | assumption)
        obtain ⟨ad121, e121, hx121_0⟩ := Kd.at_string HR1.out x5_1 p121 q121
        cases e121
        replace p121 := eq_true p121
        replace q121 := eq_true q121
        go_wp2
        repeat (go_quiet (fail); try go_wp2)
        go_roundg k1
        case measure => have := HK1.out; omega
        case rel => exact ⟨(wrap64 (x5_1 + 1)), (by first | rfl | (simp; done) | (simp [*]; done)), H', ⟨by have := HK1.out; omega⟩, by repeat (first | exact Drawn0.refl _ | apply Drawn0.step)⟩
       ·rw [if_neg c7] at H
        have c7b0 : ((rdOf ByteArray.empty l0 x5_1).toList == (rdOf ByteArray.empty l1 x5_1).toList) = false := beq_eq_false_iff_ne.mpr c7
        have c7b1 : ((rdOf ByteArray.empty l0 x5_1).toList != (rdOf ByteArray.empty l1 x5_1).toList) = true := bne_iff_ne.mpr c7
        obtain rfl := Option.some.inj H
        have p120 : 0 ≤ (x5_1 : Int) := of_decide_eq_true (by first | (with_reducible assumption) | assumption)
        have q120 : x5_1 < (l0.length : Int) := of_decide_eq_true (by first | (with_reducible assumption) | assumption)
        obtain ⟨ad120, e120, hx120_0⟩ := Kd.at_string HR0.out x5_1 p120 q120
        cases e120
        replace p120 := eq_true p120
        replace q120 := eq_true q120
        have p121 : 0 ≤ (x5_1 : Int) := of_decide_eq_true (by first | (with_reducible assumption) | assumption)
        have q121 : x5_1 < (l1.length : Int) := of_decide_eq_true (by first | (with_reducible assumption) | assumption)
        obtain ⟨ad121, e121, hx121_0⟩ := Kd.at_string HR1.out x5_1 p121 q121
        cases e121
        replace p121 := eq_true p121
        replace q121 := eq_true q121
        go_wp2
        repeat (go_quiet (fail); try go_wp2)
        go_ret
        exact ⟨by first | rfl | (simp; done) | (simp [*]; done), by repeat (first | exact Drawn0.refl _ | apply Drawn0.step)⟩
      ·rw [if_neg c6] at H
       exact absurd H (by simp)
     ·rw [if_neg c5] at H
      exact absurd H (by simp)
    ·rw [if_neg c4] at H
     have c4b0 : decide (x5_1 < (l0.length : Int)) = false := decide_eq_false c4
     clear c4
     obtain rfl := Option.some.inj H
     go_wp2
     repeat (go_quiet (fail); try go_wp2)
     go_ret
     exact ⟨by first | rfl | (simp; done) | (simp [*]; done), by repeat (first | exact Drawn0.refl _ | apply Drawn0.step)⟩
 ·rw [if_neg c3] at H
  have c3b0 : ((l0.length : Int) == (l1.length : Int)) = false := beq_eq_false_iff_ne.mpr c3
  have c3b1 : ((l0.length : Int) != (l1.length : Int)) = true := bne_iff_ne.mpr c3
  have c3b2 : (l0.length == l1.length) = false := by first | simpa using c3 | (simp at c3 ⊢; omega)
  obtain rfl := Option.some.inj H
  go_enter Tryz.func51, Tryz.ntmps51
  go_wp2
  repeat (go_quiet (fail); try go_wp2)
  go_ret
  exact ⟨by first | rfl | (simp; done) | (simp [*]; done), by repeat (first | exact Drawn0.refl _ | apply Drawn0.step)⟩

end Go.Proofs.YtaldfbmjmpkmmaaGreat.PL
namespace Go.Proofs.YtaldfbmjmpkmmaaGreat.PL
open Go.RowKit Go.Proofs.YtaldfbmjmpkmmaaGreatW.PrintWords Go.Proofs.YtaldfbmjmpkmmaaGreatW.PrintLast Go.Proofs.YtaldfbmjmpkmmaaGreatW.PrintMore
attribute [local go_sem] Mk.str_leq Mk.str_gtr Mk.str_geq max2_int min2_int max_two min_two max_three min_three max_four min_four   -- for this text's walks alone
set_option linter.unusedVariables false
set_option linter.unusedSimpArgs false

theorem eqA57 (d : Nat) (w : World) (x0 y0 : ByteArray) (x1 y1 : ByteArray) (x2 y2 : Bool) :
  (Op.equalIn (d + 2) 57 (.agg #[.string x0, .string x1, .bool x2]) (.agg #[.string y0, .string y1, .bool y2])).run Tryz.prog w = .ok (x0.toList == y0.toList && (x1.toList == y1.toList && (x2 == y2))) w := by
 refine eqA_of Tryz.underlying57 (by kernel_rfl) ?_
 refine eqf_cons (by rfl) (by go_simp; rfl) (by go_simp; rfl) (by go_simp) ?_
 refine eqf_cons (by rfl) (by go_simp; rfl) (by go_simp; rfl) (by go_simp) ?_
 exact eqf_last (by rfl) (by go_simp; rfl) (by go_simp; rfl) (by go_simp)
end Go.Proofs.YtaldfbmjmpkmmaaGreat.PL
namespace Go.Proofs.YtaldfbmjmpkmmaaGreat.PL
open Go.RowKit Go.Proofs.YtaldfbmjmpkmmaaGreatW.PrintWords Go.Proofs.YtaldfbmjmpkmmaaGreatW.PrintLast Go.Proofs.YtaldfbmjmpkmmaaGreatW.PrintMore
attribute [local go_sem] Mk.str_leq Mk.str_gtr Mk.str_geq max2_int min2_int max_two min_two max_three min_three max_four min_four   -- for this text's walks alone
set_option linter.unusedVariables false
set_option linter.unusedSimpArgs false

attribute [local go_sem high] eqA57
/-! ### corncribbook_SameWrites: function 52 -/
def corncribbook_SameWrites.l0 : Nat → List (S57) → List (S57) → Int → Option (Bool)
 | 0, _, _, _ => none
 | k + 1, x0, x1, x5 => if x5 < (x0.length : Int) then (if 0 ≤ x5 then (if x5 < (x1.length : Int) then (if (!((((rd_T57 x0 x5).f0).toList) == (((rd_T57 x1 x5).f0).toList)) || (!((((rd_T57 x0 x5).f1).toList) == (((rd_T57 x1 x5).f1).toList)) || (!(((rd_T57 x0 x5).f2) == ((rd_T57 x1 x5).f2))))) = true then (some false) else (corncribbook_SameWrites.l0 k x0 x1 (wrap64 (x5 + 1)))) else (none)) else (none)) else (some true)
def corncribbook_SameWrites.f (k : Nat) (l0 : List (S57)) (l1 : List (S57)) : Option (Bool) := if (l0.length : Int) = (l1.length : Int) then (corncribbook_SameWrites.l0 k l0 l1 0) else (some false)
theorem corncribbook_SameWrites.mono_l : ∀ k, (∀ y0 y1 y2, LeO (corncribbook_SameWrites.l0 k y0 y1 y2) (corncribbook_SameWrites.l0 (k + 1) y0 y1 y2))
 | 0 => fun _ _ _ r h => by simp [corncribbook_SameWrites.l0] at h
 | k + 1 => by
  have ih0 := corncribbook_SameWrites.mono_l k
  ·intro y0 y1 y2
   unfold corncribbook_SameWrites.l0
   repeat' first
   | (with_reducible exact ih0 _ _ _)
   | (with_reducible exact LeO.refl _)
   | (with_reducible exact LeO.none _)
   | (with_reducible refine LeO.ite ?_ ?_)
   | (with_reducible refine LeO.bind ?_ (fun _ => ?_))
   | exact ih0 _ _ _
   | exact LeO.none _
   | refine LeO.ite ?_ ?_
   | refine LeO.bind ?_ (fun _ => ?_)
theorem corncribbook_SameWrites.mono : ∀ a0 a1 k, LeO (corncribbook_SameWrites.f k a0 a1) (corncribbook_SameWrites.f (k + 1) a0 a1) := by
 intro a0 a1 k
 have ih0 := corncribbook_SameWrites.mono_l k
 unfold corncribbook_SameWrites.f
 repeat' first
   | (with_reducible exact ih0 _ _ _)
   | (with_reducible exact LeO.refl _)
   | (with_reducible exact LeO.none _)
   | (with_reducible refine LeO.ite ?_ ?_)
   | (with_reducible refine LeO.bind ?_ (fun _ => ?_))
   | exact ih0 _ _ _
   | exact LeO.none _
   | refine LeO.ite ?_ ?_
   | refine LeO.bind ?_ (fun _ => ?_)
set_option maxHeartbeats 8000000 in
set_option maxRecDepth 100000 in
theorem corncribbook_SameWrites.calls (k : Nat) (A0 : Option Addr) (c0 : Nat) (l0 : List (S57)) (A1 : Option Addr) (c1 : Nat) (l1 : List (S57)) (r : Bool) (w : World) (hr0 : Kd.C k57 w A0 l0.length l0) (hc0 : l0.length ≤ c0) (hr1 : Kd.C k57 w A1 l1.length l1) (hc1 : l1.length ≤ c1) (h : corncribbook_SameWrites.f k l0 l1 = some r) :
  Calls Tryz.prog 52 #[.slice A0 l0.length c0, .slice A1 l1.length c1] w fun e w' => e = .returned (.bool r) ∧ Drawn0 w w' := by
 have hu57 := Tryz.underlying57
 have HR0 := Aside0.mk hr0
 have HC0 := Aside0.mk hc0
 clear hr0 hc0
 have HR1 := Aside0.mk hr1
 have HC1 := Aside0.mk hc1
 clear hr1 hc1
 have H : (if (l0.length : Int) = (l1.length : Int) then (corncribbook_SameWrites.l0 k l0 l1 0) else (some false)) = some r := h
 clear h
 by_cases c3 : (l0.length : Int) = (l1.length : Int)
 ·rw [if_pos c3] at H
  have c3b0 : ((l0.length : Int) == (l1.length : Int)) = true := beq_iff_eq.mpr c3
  have c3b1 : ((l0.length : Int) != (l1.length : Int)) = false := bne_eq_false_iff_eq.mpr c3
  have c3b2 : (l0.length == l1.length) = true := by first | simpa using c3 | (simp at c3 ⊢; omega)
  clear c3
  have H' := Aside0.mk H
  clear H
  go_enter Tryz.func52, Tryz.ntmps52
  go_wp2
  repeat (go_quiet (fail); try go_wp2)
  go_loopg [5] k (fun kq v5 w' => ∃ (x5_1 : Int), v5 = .int .i64 x5_1 ∧ Aside0 (corncribbook_SameWrites.l0 kq l0 l1 x5_1 = some r) ∧ Aside0 (kq ≤ k) ∧ Drawn0 w w')
  case atStart => exact ⟨(0), (by first | rfl | (simp; done) | (simp [*]; done)), H', ⟨Nat.le_refl _⟩, by repeat (first | exact Drawn0.refl _ | apply Drawn0.step)⟩
  case round =>
   clear H'
   try clear c1
   try clear p2
   try clear c3
   try clear c3b0
   try clear c3b1
   try clear c3b2
   obtain ⟨x5_1, rfl, HA, HK1, ⟨m1, rfl⟩⟩ := hrel
   cases gk with
   | zero => exact absurd HA.out (by simp [corncribbook_SameWrites.l0])
   | succ k1 =>
    have H := HA.out
    clear HA
    simp only [corncribbook_SameWrites.l0] at H
    by_cases c4 : x5_1 < (l0.length : Int)
    ·rw [if_pos c4] at H
     have c4b0 : decide (x5_1 < (l0.length : Int)) = true := decide_eq_true c4
     clear c4
     by_cases c5 : 0 ≤ x5_1
     ·rw [if_pos c5] at H
      have c5b0 : decide (0 ≤ x5_1) = true := decide_eq_true c5
      clear c5
      by_cases c6 : x5_1 < (l1.length : Int)
      ·rw [if_pos c6] at H
       have c6b0 : decide (x5_1 < (l1.length : Int)) = true := decide_eq_true c6
       clear c6
       by_cases c7 : (!((((rd_T57 l0 x5_1).f0).toList) == (((rd_T57 l1 x5_1).f0).toList)) || (!((((rd_T57 l0 x5_1).f1).toList) == (((rd_T57 l1 x5_1).f1).toList)) || (!(((rd_T57 l0 x5_1).f2) == ((rd_T57 l1 x5_1).f2))))) = true
       ·rw [if_pos c7] at H
        have c7b0 : (!((((rd_T57 l0 x5_1).f0).toList) == (((rd_T57 l1 x5_1).f0).toList)) || (!((((rd_T57 l0 x5_1).f1).toList) == (((rd_T57 l1 x5_1).f1).toList)) || (!(((rd_T57 l0 x5_1).f2) == ((rd_T57 l1 x5_1).f2))))) = true := c7
        clear c7
        obtain rfl := Option.some.inj H
        have p122 : 0 ≤ (x5_1 : Int) := of_decide_eq_true (by first | (with_reducible assumption) | assumption)
        have q122 : x5_1 < (l0.length : Int) := of_decide_eq_true (by first | (with_reducible assumption) | assumption)
        obtain ⟨ad122, e122, hx122_0, hx122_1, hx122_2⟩ := at_T57 HR0.out x5_1 p122 q122
        cases e122
        replace p122 := eq_true p122
        replace q122 := eq_true q122
        have p123 : 0 ≤ (x5_1 : Int) := of_decide_eq_true (by first | (with_reducible assumption) | assumption)
        have q123 : x5_1 < (l1.length : Int) := of_decide_eq_true (by first | (with_reducible assumption) | assumption)
        obtain ⟨ad123, e123, hx123_0, hx123_1, hx123_2⟩ := at_T57 HR1.out x5_1 p123 q123
        cases e123
        replace p123 := eq_true p123
        replace q123 := eq_true q123
        go_wp2
        repeat (go_quiet (fail); try go_wp2)
        go_ret
        exact ⟨by first | rfl | (simp; done) | (simp [*]; done), by repeat (first | exact Drawn0.refl _ | apply Drawn0.step)⟩
       ·rw [if_neg c7] at H
        have c7b0 : (!((((rd_T57 l0 x5_1).f0).toList) == (((rd_T57 l1 x5_1).f0).toList)) || (!((((rd_T57 l0 x5_1).f1).toList) == (((rd_T57 l1 x5_1).f1).toList)) || (!(((rd_T57 l0 x5_1).f2) == ((rd_T57 l1 x5_1).f2))))) = false := by simpa using c7
        clear c7
        have H' := Aside0.mk H
        clear H
        have p122 : 0 ≤ (x5_1 : Int) := of_decide_eq_true (by first | (with_reducible assumption) | assumption)
        have q122 : x5_1 < (l0.length : Int) := of_decide_eq_true (by first | (with_reducible assumption) | assumption)
        obtain ⟨ad122, e122, hx122_0, hx122_1, hx122_2⟩ := at_T57 HR0.out x5_1 p122 q122
        cases e122
        replace p122 := eq_true p122
        replace q122 := eq_true q122
        have p123 : 0 ≤ (x5_1 : Int) := of_decide_eq_true (by first | (with_reducible assumption) | assumption)
        have q123 : x5_1 < (l1.length : Int) := of_decide_eq_true (by first | (with_reducible assumption) | assumption)
        obtain ⟨ad123, e123, hx123_0, hx123_1, hx123_2⟩ := at_T57 HR1.out x5_1 p123 q123
        cases e123
        replace p123 := eq_true p123
        replace q123 := eq_true q123
        go_wp2
        repeat (go_quiet (fail); try go_wp2)
        go_roundg k1
        case measure => have := HK1.out; omega
        case rel => exact ⟨(wrap64 (x5_1 + 1)), (by first | rfl | (simp; done) | (simp [*]; done)), H', ⟨by have := HK1.out; omega⟩, by repeat (first | exact Drawn0.refl _ | apply Drawn0.step)⟩
      ·rw [if_neg c6] at H
       exact absurd H (by simp)
     ·rw [if_neg c5] at H
      exact absurd H (by simp)
    ·rw [if_neg c4] at H
     have c4b0 : decide (x5_1 < (l0.length : Int)) = false := decide_eq_false c4
     clear c4
     obtain rfl := Option.some.inj H
     go_wp2
     repeat (go_quiet (fail); try go_wp2)
     go_ret
     exact ⟨by first | rfl | (simp; done) | (simp [*]; done), by repeat (first | exact Drawn0.refl _ | apply Drawn0.step)⟩
 ·rw [if_neg c3] at H
  have c3b0 : ((l0.length : Int) == (l1.length : Int)) = false := beq_eq_false_iff_ne.mpr c3
  have c3b1 : ((l0.length : Int) != (l1.length : Int)) = true := bne_iff_ne.mpr c3
  have c3b2 : (l0.length == l1.length) = false := by first | simpa using c3 | (simp at c3 ⊢; omega)
  obtain rfl := Option.some.inj H
  go_enter Tryz.func52, Tryz.ntmps52
  go_wp2
  repeat (go_quiet (fail); try go_wp2)
  go_ret
  exact ⟨by first | rfl | (simp; done) | (simp [*]; done), by repeat (first | exact Drawn0.refl _ | apply Drawn0.step)⟩

end Go.Proofs.YtaldfbmjmpkmmaaGreat.PL
namespace Go.Proofs.YtaldfbmjmpkmmaaGreat.PL
open Go.RowKit Go.Proofs.YtaldfbmjmpkmmaaGreatW.PrintWords Go.Proofs.YtaldfbmjmpkmmaaGreatW.PrintLast Go.Proofs.YtaldfbmjmpkmmaaGreatW.PrintMore
attribute [local go_sem] Mk.str_leq Mk.str_gtr Mk.str_geq max2_int min2_int max_two min_two max_three min_three max_four min_four   -- for this text's walks alone
set_option linter.unusedVariables false
set_option linter.unusedSimpArgs false

/-! ### corncribbook_SameRecord: function 21 -/
def corncribbook_SameRecord.f (k : Nat) (a0_0 : Int) (a0_1 : Int) (a0_2 : Int) (a0_3 : Int) (a0_4 : ByteArray) (a0_5 : ByteArray) (a0_6 : Bool) (l0_7 : List ByteArray) (l0_8 : List (S57)) (a1_0 : Int) (a1_1 : Int) (a1_2 : Int) (a1_3 : Int) (a1_4 : ByteArray) (a1_5 : ByteArray) (a1_6 : Bool) (l1_7 : List ByteArray) (l1_8 : List (S57)) : Option (Bool) := if a0_0 = a1_0 then (if a0_1 = a1_1 then (if a0_2 = a1_2 then (if a0_3 = a1_3 then (if a0_4.toList = a1_4.toList then (if a0_5.toList = a1_5.toList then (if (a0_6 == a1_6) = true then ((corncribbook_SameTexts.f k l0_7 l1_7).bind fun t126 => (if t126 = true then ((corncribbook_SameWrites.f k l0_8 l1_8).bind fun t127 => (some t127)) else (some false))) else (some false)) else (some false)) else (some false)) else (some false)) else (some false)) else (some false)) else (some false)
theorem corncribbook_SameRecord.mono : ∀ a0 a1 a2 a3 a4 a5 a6 a7 a8 a9 a10 a11 a12 a13 a14 a15 a16 a17 k, LeO (corncribbook_SameRecord.f k a0 a1 a2 a3 a4 a5 a6 a7 a8 a9 a10 a11 a12 a13 a14 a15 a16 a17) (corncribbook_SameRecord.f (k + 1) a0 a1 a2 a3 a4 a5 a6 a7 a8 a9 a10 a11 a12 a13 a14 a15 a16 a17) := by
 intro a0 a1 a2 a3 a4 a5 a6 a7 a8 a9 a10 a11 a12 a13 a14 a15 a16 a17 k
 unfold corncribbook_SameRecord.f
 repeat' first
   | (with_reducible exact corncribbook_SameTexts.mono _ _ _)
   | (with_reducible exact corncribbook_SameWrites.mono _ _ _)
   | (with_reducible exact LeO.refl _)
   | (with_reducible exact LeO.none _)
   | (with_reducible refine LeO.ite ?_ ?_)
   | (with_reducible refine LeO.bind ?_ (fun _ => ?_))
   | exact corncribbook_SameTexts.mono _ _ _
   | exact corncribbook_SameWrites.mono _ _ _
   | exact LeO.none _
   | refine LeO.ite ?_ ?_
   | refine LeO.bind ?_ (fun _ => ?_)
set_option maxHeartbeats 8000000 in
set_option maxRecDepth 100000 in
theorem corncribbook_SameRecord.calls (k : Nat) (a0_0 : Int) (a0_1 : Int) (a0_2 : Int) (a0_3 : Int) (a0_4 : ByteArray) (a0_5 : ByteArray) (a0_6 : Bool) (A0_7 : Option Addr) (c0_7 : Nat) (l0_7 : List ByteArray) (A0_8 : Option Addr) (c0_8 : Nat) (l0_8 : List (S57)) (a1_0 : Int) (a1_1 : Int) (a1_2 : Int) (a1_3 : Int) (a1_4 : ByteArray) (a1_5 : ByteArray) (a1_6 : Bool) (A1_7 : Option Addr) (c1_7 : Nat) (l1_7 : List ByteArray) (A1_8 : Option Addr) (c1_8 : Nat) (l1_8 : List (S57)) (r : Bool) (w : World) (hr0_7 : Kd.C Kd.string w A0_7 l0_7.length l0_7) (hc0_7 : l0_7.length ≤ c0_7) (hr0_8 : Kd.C k57 w A0_8 l0_8.length l0_8) (hc0_8 : l0_8.length ≤ c0_8) (hr1_7 : Kd.C Kd.string w A1_7 l1_7.length l1_7) (hc1_7 : l1_7.length ≤ c1_7) (hr1_8 : Kd.C k57 w A1_8 l1_8.length l1_8) (hc1_8 : l1_8.length ≤ c1_8) (h : corncribbook_SameRecord.f k a0_0 a0_1 a0_2 a0_3 a0_4 a0_5 a0_6 l0_7 l0_8 a1_0 a1_1 a1_2 a1_3 a1_4 a1_5 a1_6 l1_7 l1_8 = some r) :
  Calls Tryz.prog 21 #[.agg #[.int .i64 a0_0, .int .i64 a0_1, .int .i64 a0_2, .int .i64 a0_3, .string a0_4, .string a0_5, .bool a0_6, .slice A0_7 l0_7.length c0_7, .slice A0_8 l0_8.length c0_8], .agg #[.int .i64 a1_0, .int .i64 a1_1, .int .i64 a1_2, .int .i64 a1_3, .string a1_4, .string a1_5, .bool a1_6, .slice A1_7 l1_7.length c1_7, .slice A1_8 l1_8.length c1_8]] w fun e w' => e = .returned (.bool r) ∧ Below w.heap.size w w' := by
 have hu26 := Tryz.underlying26
 have HR0_7 := Aside0.mk hr0_7
 have HC0_7 := Aside0.mk hc0_7
 clear hr0_7 hc0_7
 have HR0_8 := Aside0.mk hr0_8
 have HC0_8 := Aside0.mk hc0_8
 clear hr0_8 hc0_8
 have HR1_7 := Aside0.mk hr1_7
 have HC1_7 := Aside0.mk hc1_7
 clear hr1_7 hc1_7
 have HR1_8 := Aside0.mk hr1_8
 have HC1_8 := Aside0.mk hc1_8
 clear hr1_8 hc1_8
 have HB := Aside0.mk (Below.refl w.heap.size w)
 have H : (if a0_0 = a1_0 then (if a0_1 = a1_1 then (if a0_2 = a1_2 then (if a0_3 = a1_3 then (if a0_4.toList = a1_4.toList then (if a0_5.toList = a1_5.toList then (if (a0_6 == a1_6) = true then ((corncribbook_SameTexts.f k l0_7 l1_7).bind fun t126 => (if t126 = true then ((corncribbook_SameWrites.f k l0_8 l1_8).bind fun t127 => (some t127)) else (some false))) else (some false)) else (some false)) else (some false)) else (some false)) else (some false)) else (some false)) else (some false)) = some r := h
 clear h
 by_cases c3 : a0_0 = a1_0
 ·rw [if_pos c3] at H
  have c3b0 : (a0_0 == a1_0) = true := beq_iff_eq.mpr c3
  have c3b1 : (a0_0 != a1_0) = false := bne_eq_false_iff_eq.mpr c3
  clear c3
  by_cases c4 : a0_1 = a1_1
  ·rw [if_pos c4] at H
   have c4b0 : (a0_1 == a1_1) = true := beq_iff_eq.mpr c4
   have c4b1 : (a0_1 != a1_1) = false := bne_eq_false_iff_eq.mpr c4
   clear c4
   by_cases c5 : a0_2 = a1_2
   ·rw [if_pos c5] at H
    have c5b0 : (a0_2 == a1_2) = true := beq_iff_eq.mpr c5
    have c5b1 : (a0_2 != a1_2) = false := bne_eq_false_iff_eq.mpr c5
    clear c5
    by_cases c6 : a0_3 = a1_3
    ·rw [if_pos c6] at H
     have c6b0 : (a0_3 == a1_3) = true := beq_iff_eq.mpr c6
     have c6b1 : (a0_3 != a1_3) = false := bne_eq_false_iff_eq.mpr c6
     clear c6
     by_cases c7 : a0_4.toList = a1_4.toList
     ·rw [if_pos c7] at H
      have c7b0 : (a0_4.toList == a1_4.toList) = true := beq_iff_eq.mpr c7
      have c7b1 : (a0_4.toList != a1_4.toList) = false := bne_eq_false_iff_eq.mpr c7
      clear c7
      by_cases c8 : a0_5.toList = a1_5.toList
      ·rw [if_pos c8] at H
       have c8b0 : (a0_5.toList == a1_5.toList) = true := beq_iff_eq.mpr c8
       have c8b1 : (a0_5.toList != a1_5.toList) = false := bne_eq_false_iff_eq.mpr c8
       clear c8
       by_cases c9 : (a0_6 == a1_6) = true
       ·rw [if_pos c9] at H
        have c9b0 : (a0_6 == a1_6) = true := c9
        (try (have c9b1 : decide (a0_6 = a1_6) = true := by simpa using c9))
        (try (have c9b2 : (a0_6 == a1_6) = true := by simpa using c9))
        clear c9
        replace H := Option.bind_eq_some_iff.mp H
        obtain ⟨t126, A100, H⟩ := H
        replace H : (if t126 = true then ((corncribbook_SameWrites.f k l0_8 l1_8).bind fun t127 => (some t127)) else (some false)) = some r := H
        have A10 := Aside0.mk A100
        clear A100
        by_cases c11 : t126 = true
        ·subst c11
         have H1 : ((corncribbook_SameWrites.f k l0_8 l1_8).bind fun t127 => (some t127)) = some r := by rw [if_pos rfl] at H; exact H
         clear H
         have H := H1
         clear H1
         replace H := Option.bind_eq_some_iff.mp H
         obtain ⟨t127, A120, H⟩ := H
         replace H : (some t127) = some r := H
         have A12 := Aside0.mk A120
         clear A120
         obtain rfl := Option.some.inj H
         go_enter Tryz.func21, Tryz.ntmps21
         go_wp2_with (first | ((with_reducible refine gate_dst (N := 2) rfl ?_); refine box_event ?hg (N := 2) ?hd (cs := #[.int .i64 a0_0, .int .i64 a0_1, .int .i64 a0_2, .int .i64 a0_3, .string a0_4, .string a0_5, .bool a0_6, .slice A0_7 l0_7.length c0_7, .slice A0_8 l0_8.length c0_8]) (t := 26) ?hr ?_; (case hd => rfl); (case hg => rfl); (case hr => first | (go_simp; done) | (go_simp; rfl)); intro gb124 hg w13 hbox hb; have n0_ := Aside0.mk (below_step (by repeat (first | (with_reducible first | exact HB.out | apply below_alloc | apply pw_below_drewN | apply below_drew1) | exact HB.out)) hb); have n1_ := Aside0.mk (hbox); have n2_ := Aside0.mk ((by rw [hg]; exact (below_size (by repeat (first | (with_reducible first | exact HB.out | apply below_alloc | apply pw_below_drewN | apply below_drew1) | exact HB.out))) : w.heap.size ≤ gb124)); have n3_ := Aside0.mk ((by rw [hg]; exact (below_size (by repeat (first | (with_reducible first | exact HB.out | apply below_alloc | apply pw_below_drewN | apply below_drew1) | exact HB.out))) : w.heap.size ≤ gb124)); clear HB; have HB := n0_; have BK124 := n1_; have GW124 := n2_; have GE124 := n3_; clear n0_ n1_ n2_ n3_; clear hb hbox hg) | ((with_reducible refine gate_dst (N := 3) rfl ?_); refine box_event ?hg (N := 3) ?hd (cs := #[.int .i64 a1_0, .int .i64 a1_1, .int .i64 a1_2, .int .i64 a1_3, .string a1_4, .string a1_5, .bool a1_6, .slice A1_7 l1_7.length c1_7, .slice A1_8 l1_8.length c1_8]) (t := 26) ?hr ?_; (case hd => rfl); (case hg => rfl); (case hr => first | (go_simp; done) | (go_simp; rfl)); intro gb125 hg w14 hbox hb; have n0_ := Aside0.mk (blk_below (g := gb124) (o := .cells #[.int .i64 a0_0, .int .i64 a0_1, .int .i64 a0_2, .int .i64 a0_3, .string a0_4, .string a0_5, .bool a0_6, .slice A0_7 l0_7.length c0_7, .slice A0_8 l0_8.length c0_8] 26 (0, 0)) (by (with_reducible repeat (first | refine blk_drewN ?_ _ | refine blk_drew ?_ | refine blk_alloc ?_ _)); exact BK124.out) hb); have n1_ := Aside0.mk (below_step (by repeat (first | (with_reducible first | exact HB.out | apply below_alloc | apply pw_below_drewN | apply below_drew1 | refine below_set ?_ GE124.out) | exact HB.out)) hb); have n2_ := Aside0.mk (hbox); have n3_ := Aside0.mk ((by rw [hg]; exact (below_size (by repeat (first | (with_reducible first | exact HB.out | apply below_alloc | apply pw_below_drewN | apply below_drew1 | refine below_set ?_ GE124.out) | exact HB.out))) : w.heap.size ≤ gb125)); have n4_ := Aside0.mk ((by rw [hg]; exact (below_size (by repeat (first | (with_reducible first | exact HB.out | apply below_alloc | apply pw_below_drewN | apply below_drew1 | refine below_set ?_ GE124.out) | exact HB.out))) : w.heap.size ≤ gb125)); have n5_ := Aside0.mk ((by rw [hg]; exact Nat.ne_of_lt (blk_lt (g := gb124) (o := .cells #[.int .i64 a0_0, .int .i64 a0_1, .int .i64 a0_2, .int .i64 a0_3, .string a0_4, .string a0_5, .bool a0_6, .slice A0_7 l0_7.length c0_7, .slice A0_8 l0_8.length c0_8] 26 (0, 0)) (by (with_reducible repeat (first | refine blk_drewN ?_ _ | refine blk_drew ?_ | refine blk_alloc ?_ _)); exact BK124.out)) : gb124 ≠ gb125)); have n6_ := Aside0.mk ((by rw [hg]; exact Nat.ne_of_gt (blk_lt (g := gb124) (o := .cells #[.int .i64 a0_0, .int .i64 a0_1, .int .i64 a0_2, .int .i64 a0_3, .string a0_4, .string a0_5, .bool a0_6, .slice A0_7 l0_7.length c0_7, .slice A0_8 l0_8.length c0_8] 26 (0, 0)) (by (with_reducible repeat (first | refine blk_drewN ?_ _ | refine blk_drew ?_ | refine blk_alloc ?_ _)); exact BK124.out)) : gb125 ≠ gb124)); clear BK124; clear HB; have BK124 := n0_; have HB := n1_; have BK125 := n2_; have GW125 := n3_; have GE125 := n4_; have NB124_125 := n5_; have NB125_124 := n6_; clear n0_ n1_ n2_ n3_ n4_ n5_ n6_; clear hb hbox hg; have hnb15 := NB124_125.out; have hnc15 := NB125_124.out; have hcz16_0 : w14.cell? ⟨gb124, 0, none⟩ = some (.int .i64 a0_0) := (blk_cell BK124.out 0).trans rfl; have hcz16_1 : w14.cell? ⟨gb124, 1, none⟩ = some (.int .i64 a0_1) := (blk_cell BK124.out 1).trans rfl; have hcz16_2 : w14.cell? ⟨gb124, 2, none⟩ = some (.int .i64 a0_2) := (blk_cell BK124.out 2).trans rfl; have hcz16_3 : w14.cell? ⟨gb124, 3, none⟩ = some (.int .i64 a0_3) := (blk_cell BK124.out 3).trans rfl; have hcz16_4 : w14.cell? ⟨gb124, 4, none⟩ = some (.string a0_4) := (blk_cell BK124.out 4).trans rfl; have hcz16_5 : w14.cell? ⟨gb124, 5, none⟩ = some (.string a0_5) := (blk_cell BK124.out 5).trans rfl; have hcz16_6 : w14.cell? ⟨gb124, 6, none⟩ = some (.bool a0_6) := (blk_cell BK124.out 6).trans rfl; have hcz16_7 : w14.cell? ⟨gb124, 7, none⟩ = some (.slice A0_7 l0_7.length c0_7) := (blk_cell BK124.out 7).trans rfl; have hcz16_8 : w14.cell? ⟨gb124, 8, none⟩ = some (.slice A0_8 l0_8.length c0_8) := (blk_cell BK124.out 8).trans rfl; have hfz16_0 := blk_frozen BK124.out 0; have hfz16_1 := blk_frozen BK124.out 1; have hfz16_2 := blk_frozen BK124.out 2; have hfz16_3 := blk_frozen BK124.out 3; have hfz16_4 := blk_frozen BK124.out 4; have hfz16_5 := blk_frozen BK124.out 5; have hfz16_6 := blk_frozen BK124.out 6; have hfz16_7 := blk_frozen BK124.out 7; have hfz16_8 := blk_frozen BK124.out 8; have hcz17_0 : w14.cell? ⟨gb125, 0, none⟩ = some (.int .i64 a1_0) := (blk_cell BK125.out 0).trans rfl; have hcz17_1 : w14.cell? ⟨gb125, 1, none⟩ = some (.int .i64 a1_1) := (blk_cell BK125.out 1).trans rfl; have hcz17_2 : w14.cell? ⟨gb125, 2, none⟩ = some (.int .i64 a1_2) := (blk_cell BK125.out 2).trans rfl; have hcz17_3 : w14.cell? ⟨gb125, 3, none⟩ = some (.int .i64 a1_3) := (blk_cell BK125.out 3).trans rfl; have hcz17_4 : w14.cell? ⟨gb125, 4, none⟩ = some (.string a1_4) := (blk_cell BK125.out 4).trans rfl; have hcz17_5 : w14.cell? ⟨gb125, 5, none⟩ = some (.string a1_5) := (blk_cell BK125.out 5).trans rfl; have hcz17_6 : w14.cell? ⟨gb125, 6, none⟩ = some (.bool a1_6) := (blk_cell BK125.out 6).trans rfl; have hcz17_7 : w14.cell? ⟨gb125, 7, none⟩ = some (.slice A1_7 l1_7.length c1_7) := (blk_cell BK125.out 7).trans rfl; have hcz17_8 : w14.cell? ⟨gb125, 8, none⟩ = some (.slice A1_8 l1_8.length c1_8) := (blk_cell BK125.out 8).trans rfl; have hfz17_0 := blk_frozen BK125.out 0; have hfz17_1 := blk_frozen BK125.out 1; have hfz17_2 := blk_frozen BK125.out 2; have hfz17_3 := blk_frozen BK125.out 3; have hfz17_4 := blk_frozen BK125.out 4; have hfz17_5 := blk_frozen BK125.out 5; have hfz17_6 := blk_frozen BK125.out 6; have hfz17_7 := blk_frozen BK125.out 7; have hfz17_8 := blk_frozen BK125.out 8) | (go_at_call 51; (with_reducible refine (corncribbook_SameTexts.calls k _ _ l0_7 _ _ l1_7 true _ ?side1 ?side2 ?side3 ?side4 A10.out).mono ?_); (case side1 => repeat (first | exact (Kd.C_below HR0_7.out HB.out) | (with_reducible refine Kd.C_alloc ?_ _) | (with_reducible refine Kd.C_drewN ?_ _) | (with_reducible refine Kd.C_drew ?_))); (case side2 => exact HC0_7.out); (case side3 => repeat (first | exact (Kd.C_below HR1_7.out HB.out) | (with_reducible refine Kd.C_alloc ?_ _) | (with_reducible refine Kd.C_drewN ?_ _) | (with_reducible refine Kd.C_drew ?_))); (case side4 => exact HC1_7.out); rintro e w' ⟨rfl, ⟨nd, rfl⟩⟩) | (go_at_call 52; (with_reducible refine (corncribbook_SameWrites.calls k _ _ l0_8 _ _ l1_8 t127 _ ?side1 ?side2 ?side3 ?side4 A12.out).mono ?_); (case side1 => repeat (first | exact (Kd.C_below HR0_8.out (by repeat (first | (with_reducible first | exact HB.out | apply below_alloc | apply pw_below_drewN | apply below_drew1 | refine below_set ?_ GE124.out | refine below_set ?_ GE125.out) | exact HB.out))) | (with_reducible refine Kd.C_alloc ?_ _) | (with_reducible refine Kd.C_drewN ?_ _) | (with_reducible refine Kd.C_drew ?_))); (case side2 => exact HC0_8.out); (case side3 => repeat (first | exact (Kd.C_below HR1_8.out (by repeat (first | (with_reducible first | exact HB.out | apply below_alloc | apply pw_below_drewN | apply below_drew1 | refine below_set ?_ GE124.out | refine below_set ?_ GE125.out) | exact HB.out))) | (with_reducible refine Kd.C_alloc ?_ _) | (with_reducible refine Kd.C_drewN ?_ _) | (with_reducible refine Kd.C_drew ?_))); (case side4 => exact HC1_8.out); rintro e w' ⟨rfl, ⟨nd, rfl⟩⟩))
         go_ret
         exact ⟨by first | rfl | (simp [errW_none, errW_some] <;> rfl) | (simp [*, errW_none, errW_some] <;> rfl), by repeat (first | (with_reducible first | exact HB.out | apply below_alloc | apply pw_below_drewN | apply below_drew1 | refine below_set ?_ GE124.out | refine below_set ?_ GE125.out) | exact HB.out)⟩
        ·replace c11 := Bool.eq_false_iff.mpr c11
         subst c11
         have H1 : (some false) = some r := by rw [if_neg (show ¬ (false = true) by decide)] at H; exact H
         clear H
         have H := H1
         clear H1
         obtain rfl := Option.some.inj H
         go_enter Tryz.func21, Tryz.ntmps21
         go_wp2_with (first | ((with_reducible refine gate_dst (N := 2) rfl ?_); refine box_event ?hg (N := 2) ?hd (cs := #[.int .i64 a0_0, .int .i64 a0_1, .int .i64 a0_2, .int .i64 a0_3, .string a0_4, .string a0_5, .bool a0_6, .slice A0_7 l0_7.length c0_7, .slice A0_8 l0_8.length c0_8]) (t := 26) ?hr ?_; (case hd => rfl); (case hg => rfl); (case hr => first | (go_simp; done) | (go_simp; rfl)); intro gb124 hg w18 hbox hb; have n0_ := Aside0.mk (below_step (by repeat (first | (with_reducible first | exact HB.out | apply below_alloc | apply pw_below_drewN | apply below_drew1) | exact HB.out)) hb); have n1_ := Aside0.mk (hbox); have n2_ := Aside0.mk ((by rw [hg]; exact (below_size (by repeat (first | (with_reducible first | exact HB.out | apply below_alloc | apply pw_below_drewN | apply below_drew1) | exact HB.out))) : w.heap.size ≤ gb124)); have n3_ := Aside0.mk ((by rw [hg]; exact (below_size (by repeat (first | (with_reducible first | exact HB.out | apply below_alloc | apply pw_below_drewN | apply below_drew1) | exact HB.out))) : w.heap.size ≤ gb124)); clear HB; have HB := n0_; have BK124 := n1_; have GW124 := n2_; have GE124 := n3_; clear n0_ n1_ n2_ n3_; clear hb hbox hg) | ((with_reducible refine gate_dst (N := 3) rfl ?_); refine box_event ?hg (N := 3) ?hd (cs := #[.int .i64 a1_0, .int .i64 a1_1, .int .i64 a1_2, .int .i64 a1_3, .string a1_4, .string a1_5, .bool a1_6, .slice A1_7 l1_7.length c1_7, .slice A1_8 l1_8.length c1_8]) (t := 26) ?hr ?_; (case hd => rfl); (case hg => rfl); (case hr => first | (go_simp; done) | (go_simp; rfl)); intro gb125 hg w19 hbox hb; have n0_ := Aside0.mk (blk_below (g := gb124) (o := .cells #[.int .i64 a0_0, .int .i64 a0_1, .int .i64 a0_2, .int .i64 a0_3, .string a0_4, .string a0_5, .bool a0_6, .slice A0_7 l0_7.length c0_7, .slice A0_8 l0_8.length c0_8] 26 (0, 0)) (by (with_reducible repeat (first | refine blk_drewN ?_ _ | refine blk_drew ?_ | refine blk_alloc ?_ _)); exact BK124.out) hb); have n1_ := Aside0.mk (below_step (by repeat (first | (with_reducible first | exact HB.out | apply below_alloc | apply pw_below_drewN | apply below_drew1 | refine below_set ?_ GE124.out) | exact HB.out)) hb); have n2_ := Aside0.mk (hbox); have n3_ := Aside0.mk ((by rw [hg]; exact (below_size (by repeat (first | (with_reducible first | exact HB.out | apply below_alloc | apply pw_below_drewN | apply below_drew1 | refine below_set ?_ GE124.out) | exact HB.out))) : w.heap.size ≤ gb125)); have n4_ := Aside0.mk ((by rw [hg]; exact (below_size (by repeat (first | (with_reducible first | exact HB.out | apply below_alloc | apply pw_below_drewN | apply below_drew1 | refine below_set ?_ GE124.out) | exact HB.out))) : w.heap.size ≤ gb125)); have n5_ := Aside0.mk ((by rw [hg]; exact Nat.ne_of_lt (blk_lt (g := gb124) (o := .cells #[.int .i64 a0_0, .int .i64 a0_1, .int .i64 a0_2, .int .i64 a0_3, .string a0_4, .string a0_5, .bool a0_6, .slice A0_7 l0_7.length c0_7, .slice A0_8 l0_8.length c0_8] 26 (0, 0)) (by (with_reducible repeat (first | refine blk_drewN ?_ _ | refine blk_drew ?_ | refine blk_alloc ?_ _)); exact BK124.out)) : gb124 ≠ gb125)); have n6_ := Aside0.mk ((by rw [hg]; exact Nat.ne_of_gt (blk_lt (g := gb124) (o := .cells #[.int .i64 a0_0, .int .i64 a0_1, .int .i64 a0_2, .int .i64 a0_3, .string a0_4, .string a0_5, .bool a0_6, .slice A0_7 l0_7.length c0_7, .slice A0_8 l0_8.length c0_8] 26 (0, 0)) (by (with_reducible repeat (first | refine blk_drewN ?_ _ | refine blk_drew ?_ | refine blk_alloc ?_ _)); exact BK124.out)) : gb125 ≠ gb124)); clear BK124; clear HB; have BK124 := n0_; have HB := n1_; have BK125 := n2_; have GW125 := n3_; have GE125 := n4_; have NB124_125 := n5_; have NB125_124 := n6_; clear n0_ n1_ n2_ n3_ n4_ n5_ n6_; clear hb hbox hg; have hnb20 := NB124_125.out; have hnc20 := NB125_124.out; have hcz21_0 : w19.cell? ⟨gb124, 0, none⟩ = some (.int .i64 a0_0) := (blk_cell BK124.out 0).trans rfl; have hcz21_1 : w19.cell? ⟨gb124, 1, none⟩ = some (.int .i64 a0_1) := (blk_cell BK124.out 1).trans rfl; have hcz21_2 : w19.cell? ⟨gb124, 2, none⟩ = some (.int .i64 a0_2) := (blk_cell BK124.out 2).trans rfl; have hcz21_3 : w19.cell? ⟨gb124, 3, none⟩ = some (.int .i64 a0_3) := (blk_cell BK124.out 3).trans rfl; have hcz21_4 : w19.cell? ⟨gb124, 4, none⟩ = some (.string a0_4) := (blk_cell BK124.out 4).trans rfl; have hcz21_5 : w19.cell? ⟨gb124, 5, none⟩ = some (.string a0_5) := (blk_cell BK124.out 5).trans rfl; have hcz21_6 : w19.cell? ⟨gb124, 6, none⟩ = some (.bool a0_6) := (blk_cell BK124.out 6).trans rfl; have hcz21_7 : w19.cell? ⟨gb124, 7, none⟩ = some (.slice A0_7 l0_7.length c0_7) := (blk_cell BK124.out 7).trans rfl; have hcz21_8 : w19.cell? ⟨gb124, 8, none⟩ = some (.slice A0_8 l0_8.length c0_8) := (blk_cell BK124.out 8).trans rfl; have hfz21_0 := blk_frozen BK124.out 0; have hfz21_1 := blk_frozen BK124.out 1; have hfz21_2 := blk_frozen BK124.out 2; have hfz21_3 := blk_frozen BK124.out 3; have hfz21_4 := blk_frozen BK124.out 4; have hfz21_5 := blk_frozen BK124.out 5; have hfz21_6 := blk_frozen BK124.out 6; have hfz21_7 := blk_frozen BK124.out 7; have hfz21_8 := blk_frozen BK124.out 8; have hcz22_0 : w19.cell? ⟨gb125, 0, none⟩ = some (.int .i64 a1_0) := (blk_cell BK125.out 0).trans rfl; have hcz22_1 : w19.cell? ⟨gb125, 1, none⟩ = some (.int .i64 a1_1) := (blk_cell BK125.out 1).trans rfl; have hcz22_2 : w19.cell? ⟨gb125, 2, none⟩ = some (.int .i64 a1_2) := (blk_cell BK125.out 2).trans rfl; have hcz22_3 : w19.cell? ⟨gb125, 3, none⟩ = some (.int .i64 a1_3) := (blk_cell BK125.out 3).trans rfl; have hcz22_4 : w19.cell? ⟨gb125, 4, none⟩ = some (.string a1_4) := (blk_cell BK125.out 4).trans rfl; have hcz22_5 : w19.cell? ⟨gb125, 5, none⟩ = some (.string a1_5) := (blk_cell BK125.out 5).trans rfl; have hcz22_6 : w19.cell? ⟨gb125, 6, none⟩ = some (.bool a1_6) := (blk_cell BK125.out 6).trans rfl; have hcz22_7 : w19.cell? ⟨gb125, 7, none⟩ = some (.slice A1_7 l1_7.length c1_7) := (blk_cell BK125.out 7).trans rfl; have hcz22_8 : w19.cell? ⟨gb125, 8, none⟩ = some (.slice A1_8 l1_8.length c1_8) := (blk_cell BK125.out 8).trans rfl; have hfz22_0 := blk_frozen BK125.out 0; have hfz22_1 := blk_frozen BK125.out 1; have hfz22_2 := blk_frozen BK125.out 2; have hfz22_3 := blk_frozen BK125.out 3; have hfz22_4 := blk_frozen BK125.out 4; have hfz22_5 := blk_frozen BK125.out 5; have hfz22_6 := blk_frozen BK125.out 6; have hfz22_7 := blk_frozen BK125.out 7; have hfz22_8 := blk_frozen BK125.out 8) | (go_at_call 51; (with_reducible refine (corncribbook_SameTexts.calls k _ _ l0_7 _ _ l1_7 false _ ?side1 ?side2 ?side3 ?side4 A10.out).mono ?_); (case side1 => repeat (first | exact (Kd.C_below HR0_7.out HB.out) | (with_reducible refine Kd.C_alloc ?_ _) | (with_reducible refine Kd.C_drewN ?_ _) | (with_reducible refine Kd.C_drew ?_))); (case side2 => exact HC0_7.out); (case side3 => repeat (first | exact (Kd.C_below HR1_7.out HB.out) | (with_reducible refine Kd.C_alloc ?_ _) | (with_reducible refine Kd.C_drewN ?_ _) | (with_reducible refine Kd.C_drew ?_))); (case side4 => exact HC1_7.out); rintro e w' ⟨rfl, ⟨nd, rfl⟩⟩))
         go_ret
         exact ⟨by first | rfl | (simp [errW_none, errW_some] <;> rfl) | (simp [*, errW_none, errW_some] <;> rfl), by repeat (first | (with_reducible first | exact HB.out | apply below_alloc | apply pw_below_drewN | apply below_drew1 | refine below_set ?_ GE124.out | refine below_set ?_ GE125.out) | exact HB.out)⟩
       ·rw [if_neg c9] at H
        have c9b0 : (a0_6 == a1_6) = false := by simpa using c9
        (try (have c9b1 : decide (a0_6 = a1_6) = false := by simpa using c9))
        (try (have c9b2 : (a0_6 == a1_6) = false := by simpa using c9))
        (try (have c9b3 : ¬ (a0_6 = a1_6) := by simpa using c9))
        clear c9
        obtain rfl := Option.some.inj H
        go_enter Tryz.func21, Tryz.ntmps21
        go_wp2_with (first | ((with_reducible refine gate_dst (N := 2) rfl ?_); refine box_event ?hg (N := 2) ?hd (cs := #[.int .i64 a0_0, .int .i64 a0_1, .int .i64 a0_2, .int .i64 a0_3, .string a0_4, .string a0_5, .bool a0_6, .slice A0_7 l0_7.length c0_7, .slice A0_8 l0_8.length c0_8]) (t := 26) ?hr ?_; (case hd => rfl); (case hg => rfl); (case hr => first | (go_simp; done) | (go_simp; rfl)); intro gb124 hg w23 hbox hb; have n0_ := Aside0.mk (below_step (by repeat (first | (with_reducible first | exact HB.out | apply below_alloc | apply pw_below_drewN | apply below_drew1) | exact HB.out)) hb); have n1_ := Aside0.mk (hbox); have n2_ := Aside0.mk ((by rw [hg]; exact (below_size (by repeat (first | (with_reducible first | exact HB.out | apply below_alloc | apply pw_below_drewN | apply below_drew1) | exact HB.out))) : w.heap.size ≤ gb124)); have n3_ := Aside0.mk ((by rw [hg]; exact (below_size (by repeat (first | (with_reducible first | exact HB.out | apply below_alloc | apply pw_below_drewN | apply below_drew1) | exact HB.out))) : w.heap.size ≤ gb124)); clear HB; have HB := n0_; have BK124 := n1_; have GW124 := n2_; have GE124 := n3_; clear n0_ n1_ n2_ n3_; clear hb hbox hg) | ((with_reducible refine gate_dst (N := 3) rfl ?_); refine box_event ?hg (N := 3) ?hd (cs := #[.int .i64 a1_0, .int .i64 a1_1, .int .i64 a1_2, .int .i64 a1_3, .string a1_4, .string a1_5, .bool a1_6, .slice A1_7 l1_7.length c1_7, .slice A1_8 l1_8.length c1_8]) (t := 26) ?hr ?_; (case hd => rfl); (case hg => rfl); (case hr => first | (go_simp; done) | (go_simp; rfl)); intro gb125 hg w24 hbox hb; have n0_ := Aside0.mk (blk_below (g := gb124) (o := .cells #[.int .i64 a0_0, .int .i64 a0_1, .int .i64 a0_2, .int .i64 a0_3, .string a0_4, .string a0_5, .bool a0_6, .slice A0_7 l0_7.length c0_7, .slice A0_8 l0_8.length c0_8] 26 (0, 0)) (by (with_reducible repeat (first | refine blk_drewN ?_ _ | refine blk_drew ?_ | refine blk_alloc ?_ _)); exact BK124.out) hb); have n1_ := Aside0.mk (below_step (by repeat (first | (with_reducible first | exact HB.out | apply below_alloc | apply pw_below_drewN | apply below_drew1 | refine below_set ?_ GE124.out) | exact HB.out)) hb); have n2_ := Aside0.mk (hbox); have n3_ := Aside0.mk ((by rw [hg]; exact (below_size (by repeat (first | (with_reducible first | exact HB.out | apply below_alloc | apply pw_below_drewN | apply below_drew1 | refine below_set ?_ GE124.out) | exact HB.out))) : w.heap.size ≤ gb125)); have n4_ := Aside0.mk ((by rw [hg]; exact (below_size (by repeat (first | (with_reducible first | exact HB.out | apply below_alloc | apply pw_below_drewN | apply below_drew1 | refine below_set ?_ GE124.out) | exact HB.out))) : w.heap.size ≤ gb125)); have n5_ := Aside0.mk ((by rw [hg]; exact Nat.ne_of_lt (blk_lt (g := gb124) (o := .cells #[.int .i64 a0_0, .int .i64 a0_1, .int .i64 a0_2, .int .i64 a0_3, .string a0_4, .string a0_5, .bool a0_6, .slice A0_7 l0_7.length c0_7, .slice A0_8 l0_8.length c0_8] 26 (0, 0)) (by (with_reducible repeat (first | refine blk_drewN ?_ _ | refine blk_drew ?_ | refine blk_alloc ?_ _)); exact BK124.out)) : gb124 ≠ gb125)); have n6_ := Aside0.mk ((by rw [hg]; exact Nat.ne_of_gt (blk_lt (g := gb124) (o := .cells #[.int .i64 a0_0, .int .i64 a0_1, .int .i64 a0_2, .int .i64 a0_3, .string a0_4, .string a0_5, .bool a0_6, .slice A0_7 l0_7.length c0_7, .slice A0_8 l0_8.length c0_8] 26 (0, 0)) (by (with_reducible repeat (first | refine blk_drewN ?_ _ | refine blk_drew ?_ | refine blk_alloc ?_ _)); exact BK124.out)) : gb125 ≠ gb124)); clear BK124; clear HB; have BK124 := n0_; have HB := n1_; have BK125 := n2_; have GW125 := n3_; have GE125 := n4_; have NB124_125 := n5_; have NB125_124 := n6_; clear n0_ n1_ n2_ n3_ n4_ n5_ n6_; clear hb hbox hg; have hnb25 := NB124_125.out; have hnc25 := NB125_124.out; have hcz26_0 : w24.cell? ⟨gb124, 0, none⟩ = some (.int .i64 a0_0) := (blk_cell BK124.out 0).trans rfl; have hcz26_1 : w24.cell? ⟨gb124, 1, none⟩ = some (.int .i64 a0_1) := (blk_cell BK124.out 1).trans rfl; have hcz26_2 : w24.cell? ⟨gb124, 2, none⟩ = some (.int .i64 a0_2) := (blk_cell BK124.out 2).trans rfl; have hcz26_3 : w24.cell? ⟨gb124, 3, none⟩ = some (.int .i64 a0_3) := (blk_cell BK124.out 3).trans rfl; have hcz26_4 : w24.cell? ⟨gb124, 4, none⟩ = some (.string a0_4) := (blk_cell BK124.out 4).trans rfl; have hcz26_5 : w24.cell? ⟨gb124, 5, none⟩ = some (.string a0_5) := (blk_cell BK124.out 5).trans rfl; have hcz26_6 : w24.cell? ⟨gb124, 6, none⟩ = some (.bool a0_6) := (blk_cell BK124.out 6).trans rfl; have hcz26_7 : w24.cell? ⟨gb124, 7, none⟩ = some (.slice A0_7 l0_7.length c0_7) := (blk_cell BK124.out 7).trans rfl; have hcz26_8 : w24.cell? ⟨gb124, 8, none⟩ = some (.slice A0_8 l0_8.length c0_8) := (blk_cell BK124.out 8).trans rfl; have hfz26_0 := blk_frozen BK124.out 0; have hfz26_1 := blk_frozen BK124.out 1; have hfz26_2 := blk_frozen BK124.out 2; have hfz26_3 := blk_frozen BK124.out 3; have hfz26_4 := blk_frozen BK124.out 4; have hfz26_5 := blk_frozen BK124.out 5; have hfz26_6 := blk_frozen BK124.out 6; have hfz26_7 := blk_frozen BK124.out 7; have hfz26_8 := blk_frozen BK124.out 8; have hcz27_0 : w24.cell? ⟨gb125, 0, none⟩ = some (.int .i64 a1_0) := (blk_cell BK125.out 0).trans rfl; have hcz27_1 : w24.cell? ⟨gb125, 1, none⟩ = some (.int .i64 a1_1) := (blk_cell BK125.out 1).trans rfl; have hcz27_2 : w24.cell? ⟨gb125, 2, none⟩ = some (.int .i64 a1_2) := (blk_cell BK125.out 2).trans rfl; have hcz27_3 : w24.cell? ⟨gb125, 3, none⟩ = some (.int .i64 a1_3) := (blk_cell BK125.out 3).trans rfl; have hcz27_4 : w24.cell? ⟨gb125, 4, none⟩ = some (.string a1_4) := (blk_cell BK125.out 4).trans rfl; have hcz27_5 : w24.cell? ⟨gb125, 5, none⟩ = some (.string a1_5) := (blk_cell BK125.out 5).trans rfl; have hcz27_6 : w24.cell? ⟨gb125, 6, none⟩ = some (.bool a1_6) := (blk_cell BK125.out 6).trans rfl; have hcz27_7 : w24.cell? ⟨gb125, 7, none⟩ = some (.slice A1_7 l1_7.length c1_7) := (blk_cell BK125.out 7).trans rfl; have hcz27_8 : w24.cell? ⟨gb125, 8, none⟩ = some (.slice A1_8 l1_8.length c1_8) := (blk_cell BK125.out 8).trans rfl; have hfz27_0 := blk_frozen BK125.out 0; have hfz27_1 := blk_frozen BK125.out 1; have hfz27_2 := blk_frozen BK125.out 2; have hfz27_3 := blk_frozen BK125.out 3; have hfz27_4 := blk_frozen BK125.out 4; have hfz27_5 := blk_frozen BK125.out 5; have hfz27_6 := blk_frozen BK125.out 6; have hfz27_7 := blk_frozen BK125.out 7; have hfz27_8 := blk_frozen BK125.out 8))
        go_ret
        exact ⟨by first | rfl | (simp [errW_none, errW_some] <;> rfl) | (simp [*, errW_none, errW_some] <;> rfl), by repeat (first | (with_reducible first | exact HB.out | apply below_alloc | apply pw_below_drewN | apply below_drew1 | refine below_set ?_ GE124.out | refine below_set ?_ GE125.out) | exact HB.out)⟩
      ·rw [if_neg c8] at H
       have c8b0 : (a0_5.toList == a1_5.toList) = false := beq_eq_false_iff_ne.mpr c8
       have c8b1 : (a0_5.toList != a1_5.toList) = true := bne_iff_ne.mpr c8
       obtain rfl := Option.some.inj H
       go_enter Tryz.func21, Tryz.ntmps21
       go_wp2_with (first | ((with_reducible refine gate_dst (N := 2) rfl ?_); refine box_event ?hg (N := 2) ?hd (cs := #[.int .i64 a0_0, .int .i64 a0_1, .int .i64 a0_2, .int .i64 a0_3, .string a0_4, .string a0_5, .bool a0_6, .slice A0_7 l0_7.length c0_7, .slice A0_8 l0_8.length c0_8]) (t := 26) ?hr ?_; (case hd => rfl); (case hg => rfl); (case hr => first | (go_simp; done) | (go_simp; rfl)); intro gb124 hg w28 hbox hb; have n0_ := Aside0.mk (below_step (by repeat (first | (with_reducible first | exact HB.out | apply below_alloc | apply pw_below_drewN | apply below_drew1) | exact HB.out)) hb); have n1_ := Aside0.mk (hbox); have n2_ := Aside0.mk ((by rw [hg]; exact (below_size (by repeat (first | (with_reducible first | exact HB.out | apply below_alloc | apply pw_below_drewN | apply below_drew1) | exact HB.out))) : w.heap.size ≤ gb124)); have n3_ := Aside0.mk ((by rw [hg]; exact (below_size (by repeat (first | (with_reducible first | exact HB.out | apply below_alloc | apply pw_below_drewN | apply below_drew1) | exact HB.out))) : w.heap.size ≤ gb124)); clear HB; have HB := n0_; have BK124 := n1_; have GW124 := n2_; have GE124 := n3_; clear n0_ n1_ n2_ n3_; clear hb hbox hg) | ((with_reducible refine gate_dst (N := 3) rfl ?_); refine box_event ?hg (N := 3) ?hd (cs := #[.int .i64 a1_0, .int .i64 a1_1, .int .i64 a1_2, .int .i64 a1_3, .string a1_4, .string a1_5, .bool a1_6, .slice A1_7 l1_7.length c1_7, .slice A1_8 l1_8.length c1_8]) (t := 26) ?hr ?_; (case hd => rfl); (case hg => rfl); (case hr => first | (go_simp; done) | (go_simp; rfl)); intro gb125 hg w29 hbox hb; have n0_ := Aside0.mk (blk_below (g := gb124) (o := .cells #[.int .i64 a0_0, .int .i64 a0_1, .int .i64 a0_2, .int .i64 a0_3, .string a0_4, .string a0_5, .bool a0_6, .slice A0_7 l0_7.length c0_7, .slice A0_8 l0_8.length c0_8] 26 (0, 0)) (by (with_reducible repeat (first | refine blk_drewN ?_ _ | refine blk_drew ?_ | refine blk_alloc ?_ _)); exact BK124.out) hb); have n1_ := Aside0.mk (below_step (by repeat (first | (with_reducible first | exact HB.out | apply below_alloc | apply pw_below_drewN | apply below_drew1 | refine below_set ?_ GE124.out) | exact HB.out)) hb); have n2_ := Aside0.mk (hbox); have n3_ := Aside0.mk ((by rw [hg]; exact (below_size (by repeat (first | (with_reducible first | exact HB.out | apply below_alloc | apply pw_below_drewN | apply below_drew1 | refine below_set ?_ GE124.out) | exact HB.out))) : w.heap.size ≤ gb125)); have n4_ := Aside0.mk ((by rw [hg]; exact (below_size (by repeat (first | (with_reducible first | exact HB.out | apply below_alloc | apply pw_below_drewN | apply below_drew1 | refine below_set ?_ GE124.out) | exact HB.out))) : w.heap.size ≤ gb125)); have n5_ := Aside0.mk ((by rw [hg]; exact Nat.ne_of_lt (blk_lt (g := gb124) (o := .cells #[.int .i64 a0_0, .int .i64 a0_1, .int .i64 a0_2, .int .i64 a0_3, .string a0_4, .string a0_5, .bool a0_6, .slice A0_7 l0_7.length c0_7, .slice A0_8 l0_8.length c0_8] 26 (0, 0)) (by (with_reducible repeat (first | refine blk_drewN ?_ _ | refine blk_drew ?_ | refine blk_alloc ?_ _)); exact BK124.out)) : gb124 ≠ gb125)); have n6_ := Aside0.mk ((by rw [hg]; exact Nat.ne_of_gt (blk_lt (g := gb124) (o := .cells #[.int .i64 a0_0, .int .i64 a0_1, .int .i64 a0_2, .int .i64 a0_3, .string a0_4, .string a0_5, .bool a0_6, .slice A0_7 l0_7.length c0_7, .slice A0_8 l0_8.length c0_8] 26 (0, 0)) (by (with_reducible repeat (first | refine blk_drewN ?_ _ | refine blk_drew ?_ | refine blk_alloc ?_ _)); exact BK124.out)) : gb125 ≠ gb124)); clear BK124; clear HB; have BK124 := n0_; have HB := n1_; have BK125 := n2_; have GW125 := n3_; have GE125 := n4_; have NB124_125 := n5_; have NB125_124 := n6_; clear n0_ n1_ n2_ n3_ n4_ n5_ n6_; clear hb hbox hg; have hnb30 := NB124_125.out; have hnc30 := NB125_124.out; have hcz31_0 : w29.cell? ⟨gb124, 0, none⟩ = some (.int .i64 a0_0) := (blk_cell BK124.out 0).trans rfl; have hcz31_1 : w29.cell? ⟨gb124, 1, none⟩ = some (.int .i64 a0_1) := (blk_cell BK124.out 1).trans rfl; have hcz31_2 : w29.cell? ⟨gb124, 2, none⟩ = some (.int .i64 a0_2) := (blk_cell BK124.out 2).trans rfl; have hcz31_3 : w29.cell? ⟨gb124, 3, none⟩ = some (.int .i64 a0_3) := (blk_cell BK124.out 3).trans rfl; have hcz31_4 : w29.cell? ⟨gb124, 4, none⟩ = some (.string a0_4) := (blk_cell BK124.out 4).trans rfl; have hcz31_5 : w29.cell? ⟨gb124, 5, none⟩ = some (.string a0_5) := (blk_cell BK124.out 5).trans rfl; have hcz31_6 : w29.cell? ⟨gb124, 6, none⟩ = some (.bool a0_6) := (blk_cell BK124.out 6).trans rfl; have hcz31_7 : w29.cell? ⟨gb124, 7, none⟩ = some (.slice A0_7 l0_7.length c0_7) := (blk_cell BK124.out 7).trans rfl; have hcz31_8 : w29.cell? ⟨gb124, 8, none⟩ = some (.slice A0_8 l0_8.length c0_8) := (blk_cell BK124.out 8).trans rfl; have hfz31_0 := blk_frozen BK124.out 0; have hfz31_1 := blk_frozen BK124.out 1; have hfz31_2 := blk_frozen BK124.out 2; have hfz31_3 := blk_frozen BK124.out 3; have hfz31_4 := blk_frozen BK124.out 4; have hfz31_5 := blk_frozen BK124.out 5; have hfz31_6 := blk_frozen BK124.out 6; have hfz31_7 := blk_frozen BK124.out 7; have hfz31_8 := blk_frozen BK124.out 8; have hcz32_0 : w29.cell? ⟨gb125, 0, none⟩ = some (.int .i64 a1_0) := (blk_cell BK125.out 0).trans rfl; have hcz32_1 : w29.cell? ⟨gb125, 1, none⟩ = some (.int .i64 a1_1) := (blk_cell BK125.out 1).trans rfl; have hcz32_2 : w29.cell? ⟨gb125, 2, none⟩ = some (.int .i64 a1_2) := (blk_cell BK125.out 2).trans rfl; have hcz32_3 : w29.cell? ⟨gb125, 3, none⟩ = some (.int .i64 a1_3) := (blk_cell BK125.out 3).trans rfl; have hcz32_4 : w29.cell? ⟨gb125, 4, none⟩ = some (.string a1_4) := (blk_cell BK125.out 4).trans rfl; have hcz32_5 : w29.cell? ⟨gb125, 5, none⟩ = some (.string a1_5) := (blk_cell BK125.out 5).trans rfl; have hcz32_6 : w29.cell? ⟨gb125, 6, none⟩ = some (.bool a1_6) := (blk_cell BK125.out 6).trans rfl; have hcz32_7 : w29.cell? ⟨gb125, 7, none⟩ = some (.slice A1_7 l1_7.length c1_7) := (blk_cell BK125.out 7).trans rfl; have hcz32_8 : w29.cell? ⟨gb125, 8, none⟩ = some (.slice A1_8 l1_8.length c1_8) := (blk_cell BK125.out 8).trans rfl; have hfz32_0 := blk_frozen BK125.out 0; have hfz32_1 := blk_frozen BK125.out 1; have hfz32_2 := blk_frozen BK125.out 2; have hfz32_3 := blk_frozen BK125.out 3; have hfz32_4 := blk_frozen BK125.out 4; have hfz32_5 := blk_frozen BK125.out 5; have hfz32_6 := blk_frozen BK125.out 6; have hfz32_7 := blk_frozen BK125.out 7; have hfz32_8 := blk_frozen BK125.out 8))
       go_ret
       exact ⟨by first | rfl | (simp [errW_none, errW_some] <;> rfl) | (simp [*, errW_none, errW_some] <;> rfl), by repeat (first | (with_reducible first | exact HB.out | apply below_alloc | apply pw_below_drewN | apply below_drew1 | refine below_set ?_ GE124.out | refine below_set ?_ GE125.out) | exact HB.out)⟩
     ·rw [if_neg c7] at H
      have c7b0 : (a0_4.toList == a1_4.toList) = false := beq_eq_false_iff_ne.mpr c7
      have c7b1 : (a0_4.toList != a1_4.toList) = true := bne_iff_ne.mpr c7
      obtain rfl := Option.some.inj H
      go_enter Tryz.func21, Tryz.ntmps21
      go_wp2_with (first | ((with_reducible refine gate_dst (N := 2) rfl ?_); refine box_event ?hg (N := 2) ?hd (cs := #[.int .i64 a0_0, .int .i64 a0_1, .int .i64 a0_2, .int .i64 a0_3, .string a0_4, .string a0_5, .bool a0_6, .slice A0_7 l0_7.length c0_7, .slice A0_8 l0_8.length c0_8]) (t := 26) ?hr ?_; (case hd => rfl); (case hg => rfl); (case hr => first | (go_simp; done) | (go_simp; rfl)); intro gb124 hg w33 hbox hb; have n0_ := Aside0.mk (below_step (by repeat (first | (with_reducible first | exact HB.out | apply below_alloc | apply pw_below_drewN | apply below_drew1) | exact HB.out)) hb); have n1_ := Aside0.mk (hbox); have n2_ := Aside0.mk ((by rw [hg]; exact (below_size (by repeat (first | (with_reducible first | exact HB.out | apply below_alloc | apply pw_below_drewN | apply below_drew1) | exact HB.out))) : w.heap.size ≤ gb124)); have n3_ := Aside0.mk ((by rw [hg]; exact (below_size (by repeat (first | (with_reducible first | exact HB.out | apply below_alloc | apply pw_below_drewN | apply below_drew1) | exact HB.out))) : w.heap.size ≤ gb124)); clear HB; have HB := n0_; have BK124 := n1_; have GW124 := n2_; have GE124 := n3_; clear n0_ n1_ n2_ n3_; clear hb hbox hg) | ((with_reducible refine gate_dst (N := 3) rfl ?_); refine box_event ?hg (N := 3) ?hd (cs := #[.int .i64 a1_0, .int .i64 a1_1, .int .i64 a1_2, .int .i64 a1_3, .string a1_4, .string a1_5, .bool a1_6, .slice A1_7 l1_7.length c1_7, .slice A1_8 l1_8.length c1_8]) (t := 26) ?hr ?_; (case hd => rfl); (case hg => rfl); (case hr => first | (go_simp; done) | (go_simp; rfl)); intro gb125 hg w34 hbox hb; have n0_ := Aside0.mk (blk_below (g := gb124) (o := .cells #[.int .i64 a0_0, .int .i64 a0_1, .int .i64 a0_2, .int .i64 a0_3, .string a0_4, .string a0_5, .bool a0_6, .slice A0_7 l0_7.length c0_7, .slice A0_8 l0_8.length c0_8] 26 (0, 0)) (by (with_reducible repeat (first | refine blk_drewN ?_ _ | refine blk_drew ?_ | refine blk_alloc ?_ _)); exact BK124.out) hb); have n1_ := Aside0.mk (below_step (by repeat (first | (with_reducible first | exact HB.out | apply below_alloc | apply pw_below_drewN | apply below_drew1 | refine below_set ?_ GE124.out) | exact HB.out)) hb); have n2_ := Aside0.mk (hbox); have n3_ := Aside0.mk ((by rw [hg]; exact (below_size (by repeat (first | (with_reducible first | exact HB.out | apply below_alloc | apply pw_below_drewN | apply below_drew1 | refine below_set ?_ GE124.out) | exact HB.out))) : w.heap.size ≤ gb125)); have n4_ := Aside0.mk ((by rw [hg]; exact (below_size (by repeat (first | (with_reducible first | exact HB.out | apply below_alloc | apply pw_below_drewN | apply below_drew1 | refine below_set ?_ GE124.out) | exact HB.out))) : w.heap.size ≤ gb125)); have n5_ := Aside0.mk ((by rw [hg]; exact Nat.ne_of_lt (blk_lt (g := gb124) (o := .cells #[.int .i64 a0_0, .int .i64 a0_1, .int .i64 a0_2, .int .i64 a0_3, .string a0_4, .string a0_5, .bool a0_6, .slice A0_7 l0_7.length c0_7, .slice A0_8 l0_8.length c0_8] 26 (0, 0)) (by (with_reducible repeat (first | refine blk_drewN ?_ _ | refine blk_drew ?_ | refine blk_alloc ?_ _)); exact BK124.out)) : gb124 ≠ gb125)); have n6_ := Aside0.mk ((by rw [hg]; exact Nat.ne_of_gt (blk_lt (g := gb124) (o := .cells #[.int .i64 a0_0, .int .i64 a0_1, .int .i64 a0_2, .int .i64 a0_3, .string a0_4, .string a0_5, .bool a0_6, .slice A0_7 l0_7.length c0_7, .slice A0_8 l0_8.length c0_8] 26 (0, 0)) (by (with_reducible repeat (first | refine blk_drewN ?_ _ | refine blk_drew ?_ | refine blk_alloc ?_ _)); exact BK124.out)) : gb125 ≠ gb124)); clear BK124; clear HB; have BK124 := n0_; have HB := n1_; have BK125 := n2_; have GW125 := n3_; have GE125 := n4_; have NB124_125 := n5_; have NB125_124 := n6_; clear n0_ n1_ n2_ n3_ n4_ n5_ n6_; clear hb hbox hg; have hnb35 := NB124_125.out; have hnc35 := NB125_124.out; have hcz36_0 : w34.cell? ⟨gb124, 0, none⟩ = some (.int .i64 a0_0) := (blk_cell BK124.out 0).trans rfl; have hcz36_1 : w34.cell? ⟨gb124, 1, none⟩ = some (.int .i64 a0_1) := (blk_cell BK124.out 1).trans rfl; have hcz36_2 : w34.cell? ⟨gb124, 2, none⟩ = some (.int .i64 a0_2) := (blk_cell BK124.out 2).trans rfl; have hcz36_3 : w34.cell? ⟨gb124, 3, none⟩ = some (.int .i64 a0_3) := (blk_cell BK124.out 3).trans rfl; have hcz36_4 : w34.cell? ⟨gb124, 4, none⟩ = some (.string a0_4) := (blk_cell BK124.out 4).trans rfl; have hcz36_5 : w34.cell? ⟨gb124, 5, none⟩ = some (.string a0_5) := (blk_cell BK124.out 5).trans rfl; have hcz36_6 : w34.cell? ⟨gb124, 6, none⟩ = some (.bool a0_6) := (blk_cell BK124.out 6).trans rfl; have hcz36_7 : w34.cell? ⟨gb124, 7, none⟩ = some (.slice A0_7 l0_7.length c0_7) := (blk_cell BK124.out 7).trans rfl; have hcz36_8 : w34.cell? ⟨gb124, 8, none⟩ = some (.slice A0_8 l0_8.length c0_8) := (blk_cell BK124.out 8).trans rfl; have hfz36_0 := blk_frozen BK124.out 0; have hfz36_1 := blk_frozen BK124.out 1; have hfz36_2 := blk_frozen BK124.out 2; have hfz36_3 := blk_frozen BK124.out 3; have hfz36_4 := blk_frozen BK124.out 4; have hfz36_5 := blk_frozen BK124.out 5; have hfz36_6 := blk_frozen BK124.out 6; have hfz36_7 := blk_frozen BK124.out 7; have hfz36_8 := blk_frozen BK124.out 8; have hcz37_0 : w34.cell? ⟨gb125, 0, none⟩ = some (.int .i64 a1_0) := (blk_cell BK125.out 0).trans rfl; have hcz37_1 : w34.cell? ⟨gb125, 1, none⟩ = some (.int .i64 a1_1) := (blk_cell BK125.out 1).trans rfl; have hcz37_2 : w34.cell? ⟨gb125, 2, none⟩ = some (.int .i64 a1_2) := (blk_cell BK125.out 2).trans rfl; have hcz37_3 : w34.cell? ⟨gb125, 3, none⟩ = some (.int .i64 a1_3) := (blk_cell BK125.out 3).trans rfl; have hcz37_4 : w34.cell? ⟨gb125, 4, none⟩ = some (.string a1_4) := (blk_cell BK125.out 4).trans rfl; have hcz37_5 : w34.cell? ⟨gb125, 5, none⟩ = some (.string a1_5) := (blk_cell BK125.out 5).trans rfl; have hcz37_6 : w34.cell? ⟨gb125, 6, none⟩ = some (.bool a1_6) := (blk_cell BK125.out 6).trans rfl; have hcz37_7 : w34.cell? ⟨gb125, 7, none⟩ = some (.slice A1_7 l1_7.length c1_7) := (blk_cell BK125.out 7).trans rfl; have hcz37_8 : w34.cell? ⟨gb125, 8, none⟩ = some (.slice A1_8 l1_8.length c1_8) := (blk_cell BK125.out 8).trans rfl; have hfz37_0 := blk_frozen BK125.out 0; have hfz37_1 := blk_frozen BK125.out 1; have hfz37_2 := blk_frozen BK125.out 2; have hfz37_3 := blk_frozen BK125.out 3; have hfz37_4 := blk_frozen BK125.out 4; have hfz37_5 := blk_frozen BK125.out 5; have hfz37_6 := blk_frozen BK125.out 6; have hfz37_7 := blk_frozen BK125.out 7; have hfz37_8 := blk_frozen BK125.out 8))
      go_ret
      exact ⟨by first | rfl | (simp [errW_none, errW_some] <;> rfl) | (simp [*, errW_none, errW_some] <;> rfl), by repeat (first | (with_reducible first | exact HB.out | apply below_alloc | apply pw_below_drewN | apply below_drew1 | refine below_set ?_ GE124.out | refine below_set ?_ GE125.out) | exact HB.out)⟩
    ·rw [if_neg c6] at H
     have c6b0 : (a0_3 == a1_3) = false := beq_eq_false_iff_ne.mpr c6
     have c6b1 : (a0_3 != a1_3) = true := bne_iff_ne.mpr c6
     obtain rfl := Option.some.inj H
     go_enter Tryz.func21, Tryz.ntmps21
     go_wp2_with (first | ((with_reducible refine gate_dst (N := 2) rfl ?_); refine box_event ?hg (N := 2) ?hd (cs := #[.int .i64 a0_0, .int .i64 a0_1, .int .i64 a0_2, .int .i64 a0_3, .string a0_4, .string a0_5, .bool a0_6, .slice A0_7 l0_7.length c0_7, .slice A0_8 l0_8.length c0_8]) (t := 26) ?hr ?_; (case hd => rfl); (case hg => rfl); (case hr => first | (go_simp; done) | (go_simp; rfl)); intro gb124 hg w38 hbox hb; have n0_ := Aside0.mk (below_step (by repeat (first | (with_reducible first | exact HB.out | apply below_alloc | apply pw_below_drewN | apply below_drew1) | exact HB.out)) hb); have n1_ := Aside0.mk (hbox); have n2_ := Aside0.mk ((by rw [hg]; exact (below_size (by repeat (first | (with_reducible first | exact HB.out | apply below_alloc | apply pw_below_drewN | apply below_drew1) | exact HB.out))) : w.heap.size ≤ gb124)); have n3_ := Aside0.mk ((by rw [hg]; exact (below_size (by repeat (first | (with_reducible first | exact HB.out | apply below_alloc | apply pw_below_drewN | apply below_drew1) | exact HB.out))) : w.heap.size ≤ gb124)); clear HB; have HB := n0_; have BK124 := n1_; have GW124 := n2_; have GE124 := n3_; clear n0_ n1_ n2_ n3_; clear hb hbox hg) | ((with_reducible refine gate_dst (N := 3) rfl ?_); refine box_event ?hg (N := 3) ?hd (cs := #[.int .i64 a1_0, .int .i64 a1_1, .int .i64 a1_2, .int .i64 a1_3, .string a1_4, .string a1_5, .bool a1_6, .slice A1_7 l1_7.length c1_7, .slice A1_8 l1_8.length c1_8]) (t := 26) ?hr ?_; (case hd => rfl); (case hg => rfl); (case hr => first | (go_simp; done) | (go_simp; rfl)); intro gb125 hg w39 hbox hb; have n0_ := Aside0.mk (blk_below (g := gb124) (o := .cells #[.int .i64 a0_0, .int .i64 a0_1, .int .i64 a0_2, .int .i64 a0_3, .string a0_4, .string a0_5, .bool a0_6, .slice A0_7 l0_7.length c0_7, .slice A0_8 l0_8.length c0_8] 26 (0, 0)) (by (with_reducible repeat (first | refine blk_drewN ?_ _ | refine blk_drew ?_ | refine blk_alloc ?_ _)); exact BK124.out) hb); have n1_ := Aside0.mk (below_step (by repeat (first | (with_reducible first | exact HB.out | apply below_alloc | apply pw_below_drewN | apply below_drew1 | refine below_set ?_ GE124.out) | exact HB.out)) hb); have n2_ := Aside0.mk (hbox); have n3_ := Aside0.mk ((by rw [hg]; exact (below_size (by repeat (first | (with_reducible first | exact HB.out | apply below_alloc | apply pw_below_drewN | apply below_drew1 | refine below_set ?_ GE124.out) | exact HB.out))) : w.heap.size ≤ gb125)); have n4_ := Aside0.mk ((by rw [hg]; exact (below_size (by repeat (first | (with_reducible first | exact HB.out | apply below_alloc | apply pw_below_drewN | apply below_drew1 | refine below_set ?_ GE124.out) | exact HB.out))) : w.heap.size ≤ gb125)); have n5_ := Aside0.mk ((by rw [hg]; exact Nat.ne_of_lt (blk_lt (g := gb124) (o := .cells #[.int .i64 a0_0, .int .i64 a0_1, .int .i64 a0_2, .int .i64 a0_3, .string a0_4, .string a0_5, .bool a0_6, .slice A0_7 l0_7.length c0_7, .slice A0_8 l0_8.length c0_8] 26 (0, 0)) (by (with_reducible repeat (first | refine blk_drewN ?_ _ | refine blk_drew ?_ | refine blk_alloc ?_ _)); exact BK124.out)) : gb124 ≠ gb125)); have n6_ := Aside0.mk ((by rw [hg]; exact Nat.ne_of_gt (blk_lt (g := gb124) (o := .cells #[.int .i64 a0_0, .int .i64 a0_1, .int .i64 a0_2, .int .i64 a0_3, .string a0_4, .string a0_5, .bool a0_6, .slice A0_7 l0_7.length c0_7, .slice A0_8 l0_8.length c0_8] 26 (0, 0)) (by (with_reducible repeat (first | refine blk_drewN ?_ _ | refine blk_drew ?_ | refine blk_alloc ?_ _)); exact BK124.out)) : gb125 ≠ gb124)); clear BK124; clear HB; have BK124 := n0_; have HB := n1_; have BK125 := n2_; have GW125 := n3_; have GE125 := n4_; have NB124_125 := n5_; have NB125_124 := n6_; clear n0_ n1_ n2_ n3_ n4_ n5_ n6_; clear hb hbox hg; have hnb40 := NB124_125.out; have hnc40 := NB125_124.out; have hcz41_0 : w39.cell? ⟨gb124, 0, none⟩ = some (.int .i64 a0_0) := (blk_cell BK124.out 0).trans rfl; have hcz41_1 : w39.cell? ⟨gb124, 1, none⟩ = some (.int .i64 a0_1) := (blk_cell BK124.out 1).trans rfl; have hcz41_2 : w39.cell? ⟨gb124, 2, none⟩ = some (.int .i64 a0_2) := (blk_cell BK124.out 2).trans rfl; have hcz41_3 : w39.cell? ⟨gb124, 3, none⟩ = some (.int .i64 a0_3) := (blk_cell BK124.out 3).trans rfl; have hcz41_4 : w39.cell? ⟨gb124, 4, none⟩ = some (.string a0_4) := (blk_cell BK124.out 4).trans rfl; have hcz41_5 : w39.cell? ⟨gb124, 5, none⟩ = some (.string a0_5) := (blk_cell BK124.out 5).trans rfl; have hcz41_6 : w39.cell? ⟨gb124, 6, none⟩ = some (.bool a0_6) := (blk_cell BK124.out 6).trans rfl; have hcz41_7 : w39.cell? ⟨gb124, 7, none⟩ = some (.slice A0_7 l0_7.length c0_7) := (blk_cell BK124.out 7).trans rfl; have hcz41_8 : w39.cell? ⟨gb124, 8, none⟩ = some (.slice A0_8 l0_8.length c0_8) := (blk_cell BK124.out 8).trans rfl; have hfz41_0 := blk_frozen BK124.out 0; have hfz41_1 := blk_frozen BK124.out 1; have hfz41_2 := blk_frozen BK124.out 2; have hfz41_3 := blk_frozen BK124.out 3; have hfz41_4 := blk_frozen BK124.out 4; have hfz41_5 := blk_frozen BK124.out 5; have hfz41_6 := blk_frozen BK124.out 6; have hfz41_7 := blk_frozen BK124.out 7; have hfz41_8 := blk_frozen BK124.out 8; have hcz42_0 : w39.cell? ⟨gb125, 0, none⟩ = some (.int .i64 a1_0) := (blk_cell BK125.out 0).trans rfl; have hcz42_1 : w39.cell? ⟨gb125, 1, none⟩ = some (.int .i64 a1_1) := (blk_cell BK125.out 1).trans rfl; have hcz42_2 : w39.cell? ⟨gb125, 2, none⟩ = some (.int .i64 a1_2) := (blk_cell BK125.out 2).trans rfl; have hcz42_3 : w39.cell? ⟨gb125, 3, none⟩ = some (.int .i64 a1_3) := (blk_cell BK125.out 3).trans rfl; have hcz42_4 : w39.cell? ⟨gb125, 4, none⟩ = some (.string a1_4) := (blk_cell BK125.out 4).trans rfl; have hcz42_5 : w39.cell? ⟨gb125, 5, none⟩ = some (.string a1_5) := (blk_cell BK125.out 5).trans rfl; have hcz42_6 : w39.cell? ⟨gb125, 6, none⟩ = some (.bool a1_6) := (blk_cell BK125.out 6).trans rfl; have hcz42_7 : w39.cell? ⟨gb125, 7, none⟩ = some (.slice A1_7 l1_7.length c1_7) := (blk_cell BK125.out 7).trans rfl; have hcz42_8 : w39.cell? ⟨gb125, 8, none⟩ = some (.slice A1_8 l1_8.length c1_8) := (blk_cell BK125.out 8).trans rfl; have hfz42_0 := blk_frozen BK125.out 0; have hfz42_1 := blk_frozen BK125.out 1; have hfz42_2 := blk_frozen BK125.out 2; have hfz42_3 := blk_frozen BK125.out 3; have hfz42_4 := blk_frozen BK125.out 4; have hfz42_5 := blk_frozen BK125.out 5; have hfz42_6 := blk_frozen BK125.out 6; have hfz42_7 := blk_frozen BK125.out 7; have hfz42_8 := blk_frozen BK125.out 8))
     go_ret
     exact ⟨by first | rfl | (simp [errW_none, errW_some] <;> rfl) | (simp [*, errW_none, errW_some] <;> rfl), by repeat (first | (with_reducible first | exact HB.out | apply below_alloc | apply pw_below_drewN | apply below_drew1 | refine below_set ?_ GE124.out | refine below_set ?_ GE125.out) | exact HB.out)⟩
   ·rw [if_neg c5] at H
    have c5b0 : (a0_2 == a1_2) = false := beq_eq_false_iff_ne.mpr c5
    have c5b1 : (a0_2 != a1_2) = true := bne_iff_ne.mpr c5
    obtain rfl := Option.some.inj H
    go_enter Tryz.func21, Tryz.ntmps21
    go_wp2_with (first | ((with_reducible refine gate_dst (N := 2) rfl ?_); refine box_event ?hg (N := 2) ?hd (cs := #[.int .i64 a0_0, .int .i64 a0_1, .int .i64 a0_2, .int .i64 a0_3, .string a0_4, .string a0_5, .bool a0_6, .slice A0_7 l0_7.length c0_7, .slice A0_8 l0_8.length c0_8]) (t := 26) ?hr ?_; (case hd => rfl); (case hg => rfl); (case hr => first | (go_simp; done) | (go_simp; rfl)); intro gb124 hg w43 hbox hb; have n0_ := Aside0.mk (below_step (by repeat (first | (with_reducible first | exact HB.out | apply below_alloc | apply pw_below_drewN | apply below_drew1) | exact HB.out)) hb); have n1_ := Aside0.mk (hbox); have n2_ := Aside0.mk ((by rw [hg]; exact (below_size (by repeat (first | (with_reducible first | exact HB.out | apply below_alloc | apply pw_below_drewN | apply below_drew1) | exact HB.out))) : w.heap.size ≤ gb124)); have n3_ := Aside0.mk ((by rw [hg]; exact (below_size (by repeat (first | (with_reducible first | exact HB.out | apply below_alloc | apply pw_below_drewN | apply below_drew1) | exact HB.out))) : w.heap.size ≤ gb124)); clear HB; have HB := n0_; have BK124 := n1_; have GW124 := n2_; have GE124 := n3_; clear n0_ n1_ n2_ n3_; clear hb hbox hg) | ((with_reducible refine gate_dst (N := 3) rfl ?_); refine box_event ?hg (N := 3) ?hd (cs := #[.int .i64 a1_0, .int .i64 a1_1, .int .i64 a1_2, .int .i64 a1_3, .string a1_4, .string a1_5, .bool a1_6, .slice A1_7 l1_7.length c1_7, .slice A1_8 l1_8.length c1_8]) (t := 26) ?hr ?_; (case hd => rfl); (case hg => rfl); (case hr => first | (go_simp; done) | (go_simp; rfl)); intro gb125 hg w44 hbox hb; have n0_ := Aside0.mk (blk_below (g := gb124) (o := .cells #[.int .i64 a0_0, .int .i64 a0_1, .int .i64 a0_2, .int .i64 a0_3, .string a0_4, .string a0_5, .bool a0_6, .slice A0_7 l0_7.length c0_7, .slice A0_8 l0_8.length c0_8] 26 (0, 0)) (by (with_reducible repeat (first | refine blk_drewN ?_ _ | refine blk_drew ?_ | refine blk_alloc ?_ _)); exact BK124.out) hb); have n1_ := Aside0.mk (below_step (by repeat (first | (with_reducible first | exact HB.out | apply below_alloc | apply pw_below_drewN | apply below_drew1 | refine below_set ?_ GE124.out) | exact HB.out)) hb); have n2_ := Aside0.mk (hbox); have n3_ := Aside0.mk ((by rw [hg]; exact (below_size (by repeat (first | (with_reducible first | exact HB.out | apply below_alloc | apply pw_below_drewN | apply below_drew1 | refine below_set ?_ GE124.out) | exact HB.out))) : w.heap.size ≤ gb125)); have n4_ := Aside0.mk ((by rw [hg]; exact (below_size (by repeat (first | (with_reducible first | exact HB.out | apply below_alloc | apply pw_below_drewN | apply below_drew1 | refine below_set ?_ GE124.out) | exact HB.out))) : w.heap.size ≤ gb125)); have n5_ := Aside0.mk ((by rw [hg]; exact Nat.ne_of_lt (blk_lt (g := gb124) (o := .cells #[.int .i64 a0_0, .int .i64 a0_1, .int .i64 a0_2, .int .i64 a0_3, .string a0_4, .string a0_5, .bool a0_6, .slice A0_7 l0_7.length c0_7, .slice A0_8 l0_8.length c0_8] 26 (0, 0)) (by (with_reducible repeat (first | refine blk_drewN ?_ _ | refine blk_drew ?_ | refine blk_alloc ?_ _)); exact BK124.out)) : gb124 ≠ gb125)); have n6_ := Aside0.mk ((by rw [hg]; exact Nat.ne_of_gt (blk_lt (g := gb124) (o := .cells #[.int .i64 a0_0, .int .i64 a0_1, .int .i64 a0_2, .int .i64 a0_3, .string a0_4, .string a0_5, .bool a0_6, .slice A0_7 l0_7.length c0_7, .slice A0_8 l0_8.length c0_8] 26 (0, 0)) (by (with_reducible repeat (first | refine blk_drewN ?_ _ | refine blk_drew ?_ | refine blk_alloc ?_ _)); exact BK124.out)) : gb125 ≠ gb124)); clear BK124; clear HB; have BK124 := n0_; have HB := n1_; have BK125 := n2_; have GW125 := n3_; have GE125 := n4_; have NB124_125 := n5_; have NB125_124 := n6_; clear n0_ n1_ n2_ n3_ n4_ n5_ n6_; clear hb hbox hg; have hnb45 := NB124_125.out; have hnc45 := NB125_124.out; have hcz46_0 : w44.cell? ⟨gb124, 0, none⟩ = some (.int .i64 a0_0) := (blk_cell BK124.out 0).trans rfl; have hcz46_1 : w44.cell? ⟨gb124, 1, none⟩ = some (.int .i64 a0_1) := (blk_cell BK124.out 1).trans rfl; have hcz46_2 : w44.cell? ⟨gb124, 2, none⟩ = some (.int .i64 a0_2) := (blk_cell BK124.out 2).trans rfl; have hcz46_3 : w44.cell? ⟨gb124, 3, none⟩ = some (.int .i64 a0_3) := (blk_cell BK124.out 3).trans rfl; have hcz46_4 : w44.cell? ⟨gb124, 4, none⟩ = some (.string a0_4) := (blk_cell BK124.out 4).trans rfl; have hcz46_5 : w44.cell? ⟨gb124, 5, none⟩ = some (.string a0_5) := (blk_cell BK124.out 5).trans rfl; have hcz46_6 : w44.cell? ⟨gb124, 6, none⟩ = some (.bool a0_6) := (blk_cell BK124.out 6).trans rfl; have hcz46_7 : w44.cell? ⟨gb124, 7, none⟩ = some (.slice A0_7 l0_7.length c0_7) := (blk_cell BK124.out 7).trans rfl; have hcz46_8 : w44.cell? ⟨gb124, 8, none⟩ = some (.slice A0_8 l0_8.length c0_8) := (blk_cell BK124.out 8).trans rfl; have hfz46_0 := blk_frozen BK124.out 0; have hfz46_1 := blk_frozen BK124.out 1; have hfz46_2 := blk_frozen BK124.out 2; have hfz46_3 := blk_frozen BK124.out 3; have hfz46_4 := blk_frozen BK124.out 4; have hfz46_5 := blk_frozen BK124.out 5; have hfz46_6 := blk_frozen BK124.out 6; have hfz46_7 := blk_frozen BK124.out 7; have hfz46_8 := blk_frozen BK124.out 8; have hcz47_0 : w44.cell? ⟨gb125, 0, none⟩ = some (.int .i64 a1_0) := (blk_cell BK125.out 0).trans rfl; have hcz47_1 : w44.cell? ⟨gb125, 1, none⟩ = some (.int .i64 a1_1) := (blk_cell BK125.out 1).trans rfl; have hcz47_2 : w44.cell? ⟨gb125, 2, none⟩ = some (.int .i64 a1_2) := (blk_cell BK125.out 2).trans rfl; have hcz47_3 : w44.cell? ⟨gb125, 3, none⟩ = some (.int .i64 a1_3) := (blk_cell BK125.out 3).trans rfl; have hcz47_4 : w44.cell? ⟨gb125, 4, none⟩ = some (.string a1_4) := (blk_cell BK125.out 4).trans rfl; have hcz47_5 : w44.cell? ⟨gb125, 5, none⟩ = some (.string a1_5) := (blk_cell BK125.out 5).trans rfl; have hcz47_6 : w44.cell? ⟨gb125, 6, none⟩ = some (.bool a1_6) := (blk_cell BK125.out 6).trans rfl; have hcz47_7 : w44.cell? ⟨gb125, 7, none⟩ = some (.slice A1_7 l1_7.length c1_7) := (blk_cell BK125.out 7).trans rfl; have hcz47_8 : w44.cell? ⟨gb125, 8, none⟩ = some (.slice A1_8 l1_8.length c1_8) := (blk_cell BK125.out 8).trans rfl; have hfz47_0 := blk_frozen BK125.out 0; have hfz47_1 := blk_frozen BK125.out 1; have hfz47_2 := blk_frozen BK125.out 2; have hfz47_3 := blk_frozen BK125.out 3; have hfz47_4 := blk_frozen BK125.out 4; have hfz47_5 := blk_frozen BK125.out 5; have hfz47_6 := blk_frozen BK125.out 6; have hfz47_7 := blk_frozen BK125.out 7; have hfz47_8 := blk_frozen BK125.out 8))
    go_ret
    exact ⟨by first | rfl | (simp [errW_none, errW_some] <;> rfl) | (simp [*, errW_none, errW_some] <;> rfl), by repeat (first | (with_reducible first | exact HB.out | apply below_alloc | apply pw_below_drewN | apply below_drew1 | refine below_set ?_ GE124.out | refine below_set ?_ GE125.out) | exact HB.out)⟩
  ·rw [if_neg c4] at H
   have c4b0 : (a0_1 == a1_1) = false := beq_eq_false_iff_ne.mpr c4
   have c4b1 : (a0_1 != a1_1) = true := bne_iff_ne.mpr c4
   obtain rfl := Option.some.inj H
   go_enter Tryz.func21, Tryz.ntmps21
   go_wp2_with (first | ((with_reducible refine gate_dst (N := 2) rfl ?_); refine box_event ?hg (N := 2) ?hd (cs := #[.int .i64 a0_0, .int .i64 a0_1, .int .i64 a0_2, .int .i64 a0_3, .string a0_4, .string a0_5, .bool a0_6, .slice A0_7 l0_7.length c0_7, .slice A0_8 l0_8.length c0_8]) (t := 26) ?hr ?_; (case hd => rfl); (case hg => rfl); (case hr => first | (go_simp; done) | (go_simp; rfl)); intro gb124 hg w48 hbox hb; have n0_ := Aside0.mk (below_step (by repeat (first | (with_reducible first | exact HB.out | apply below_alloc | apply pw_below_drewN | apply below_drew1) | exact HB.out)) hb); have n1_ := Aside0.mk (hbox); have n2_ := Aside0.mk ((by rw [hg]; exact (below_size (by repeat (first | (with_reducible first | exact HB.out | apply below_alloc | apply pw_below_drewN | apply below_drew1) | exact HB.out))) : w.heap.size ≤ gb124)); have n3_ := Aside0.mk ((by rw [hg]; exact (below_size (by repeat (first | (with_reducible first | exact HB.out | apply below_alloc | apply pw_below_drewN | apply below_drew1) | exact HB.out))) : w.heap.size ≤ gb124)); clear HB; have HB := n0_; have BK124 := n1_; have GW124 := n2_; have GE124 := n3_; clear n0_ n1_ n2_ n3_; clear hb hbox hg) | ((with_reducible refine gate_dst (N := 3) rfl ?_); refine box_event ?hg (N := 3) ?hd (cs := #[.int .i64 a1_0, .int .i64 a1_1, .int .i64 a1_2, .int .i64 a1_3, .string a1_4, .string a1_5, .bool a1_6, .slice A1_7 l1_7.length c1_7, .slice A1_8 l1_8.length c1_8]) (t := 26) ?hr ?_; (case hd => rfl); (case hg => rfl); (case hr => first | (go_simp; done) | (go_simp; rfl)); intro gb125 hg w49 hbox hb; have n0_ := Aside0.mk (blk_below (g := gb124) (o := .cells #[.int .i64 a0_0, .int .i64 a0_1, .int .i64 a0_2, .int .i64 a0_3, .string a0_4, .string a0_5, .bool a0_6, .slice A0_7 l0_7.length c0_7, .slice A0_8 l0_8.length c0_8] 26 (0, 0)) (by (with_reducible repeat (first | refine blk_drewN ?_ _ | refine blk_drew ?_ | refine blk_alloc ?_ _)); exact BK124.out) hb); have n1_ := Aside0.mk (below_step (by repeat (first | (with_reducible first | exact HB.out | apply below_alloc | apply pw_below_drewN | apply below_drew1 | refine below_set ?_ GE124.out) | exact HB.out)) hb); have n2_ := Aside0.mk (hbox); have n3_ := Aside0.mk ((by rw [hg]; exact (below_size (by repeat (first | (with_reducible first | exact HB.out | apply below_alloc | apply pw_below_drewN | apply below_drew1 | refine below_set ?_ GE124.out) | exact HB.out))) : w.heap.size ≤ gb125)); have n4_ := Aside0.mk ((by rw [hg]; exact (below_size (by repeat (first | (with_reducible first | exact HB.out | apply below_alloc | apply pw_below_drewN | apply below_drew1 | refine below_set ?_ GE124.out) | exact HB.out))) : w.heap.size ≤ gb125)); have n5_ := Aside0.mk ((by rw [hg]; exact Nat.ne_of_lt (blk_lt (g := gb124) (o := .cells #[.int .i64 a0_0, .int .i64 a0_1, .int .i64 a0_2, .int .i64 a0_3, .string a0_4, .string a0_5, .bool a0_6, .slice A0_7 l0_7.length c0_7, .slice A0_8 l0_8.length c0_8] 26 (0, 0)) (by (with_reducible repeat (first | refine blk_drewN ?_ _ | refine blk_drew ?_ | refine blk_alloc ?_ _)); exact BK124.out)) : gb124 ≠ gb125)); have n6_ := Aside0.mk ((by rw [hg]; exact Nat.ne_of_gt (blk_lt (g := gb124) (o := .cells #[.int .i64 a0_0, .int .i64 a0_1, .int .i64 a0_2, .int .i64 a0_3, .string a0_4, .string a0_5, .bool a0_6, .slice A0_7 l0_7.length c0_7, .slice A0_8 l0_8.length c0_8] 26 (0, 0)) (by (with_reducible repeat (first | refine blk_drewN ?_ _ | refine blk_drew ?_ | refine blk_alloc ?_ _)); exact BK124.out)) : gb125 ≠ gb124)); clear BK124; clear HB; have BK124 := n0_; have HB := n1_; have BK125 := n2_; have GW125 := n3_; have GE125 := n4_; have NB124_125 := n5_; have NB125_124 := n6_; clear n0_ n1_ n2_ n3_ n4_ n5_ n6_; clear hb hbox hg; have hnb50 := NB124_125.out; have hnc50 := NB125_124.out; have hcz51_0 : w49.cell? ⟨gb124, 0, none⟩ = some (.int .i64 a0_0) := (blk_cell BK124.out 0).trans rfl; have hcz51_1 : w49.cell? ⟨gb124, 1, none⟩ = some (.int .i64 a0_1) := (blk_cell BK124.out 1).trans rfl; have hcz51_2 : w49.cell? ⟨gb124, 2, none⟩ = some (.int .i64 a0_2) := (blk_cell BK124.out 2).trans rfl; have hcz51_3 : w49.cell? ⟨gb124, 3, none⟩ = some (.int .i64 a0_3) := (blk_cell BK124.out 3).trans rfl; have hcz51_4 : w49.cell? ⟨gb124, 4, none⟩ = some (.string a0_4) := (blk_cell BK124.out 4).trans rfl; have hcz51_5 : w49.cell? ⟨gb124, 5, none⟩ = some (.string a0_5) := (blk_cell BK124.out 5).trans rfl; have hcz51_6 : w49.cell? ⟨gb124, 6, none⟩ = some (.bool a0_6) := (blk_cell BK124.out 6).trans rfl; have hcz51_7 : w49.cell? ⟨gb124, 7, none⟩ = some (.slice A0_7 l0_7.length c0_7) := (blk_cell BK124.out 7).trans rfl; have hcz51_8 : w49.cell? ⟨gb124, 8, none⟩ = some (.slice A0_8 l0_8.length c0_8) := (blk_cell BK124.out 8).trans rfl; have hfz51_0 := blk_frozen BK124.out 0; have hfz51_1 := blk_frozen BK124.out 1; have hfz51_2 := blk_frozen BK124.out 2; have hfz51_3 := blk_frozen BK124.out 3; have hfz51_4 := blk_frozen BK124.out 4; have hfz51_5 := blk_frozen BK124.out 5; have hfz51_6 := blk_frozen BK124.out 6; have hfz51_7 := blk_frozen BK124.out 7; have hfz51_8 := blk_frozen BK124.out 8; have hcz52_0 : w49.cell? ⟨gb125, 0, none⟩ = some (.int .i64 a1_0) := (blk_cell BK125.out 0).trans rfl; have hcz52_1 : w49.cell? ⟨gb125, 1, none⟩ = some (.int .i64 a1_1) := (blk_cell BK125.out 1).trans rfl; have hcz52_2 : w49.cell? ⟨gb125, 2, none⟩ = some (.int .i64 a1_2) := (blk_cell BK125.out 2).trans rfl; have hcz52_3 : w49.cell? ⟨gb125, 3, none⟩ = some (.int .i64 a1_3) := (blk_cell BK125.out 3).trans rfl; have hcz52_4 : w49.cell? ⟨gb125, 4, none⟩ = some (.string a1_4) := (blk_cell BK125.out 4).trans rfl; have hcz52_5 : w49.cell? ⟨gb125, 5, none⟩ = some (.string a1_5) := (blk_cell BK125.out 5).trans rfl; have hcz52_6 : w49.cell? ⟨gb125, 6, none⟩ = some (.bool a1_6) := (blk_cell BK125.out 6).trans rfl; have hcz52_7 : w49.cell? ⟨gb125, 7, none⟩ = some (.slice A1_7 l1_7.length c1_7) := (blk_cell BK125.out 7).trans rfl; have hcz52_8 : w49.cell? ⟨gb125, 8, none⟩ = some (.slice A1_8 l1_8.length c1_8) := (blk_cell BK125.out 8).trans rfl; have hfz52_0 := blk_frozen BK125.out 0; have hfz52_1 := blk_frozen BK125.out 1; have hfz52_2 := blk_frozen BK125.out 2; have hfz52_3 := blk_frozen BK125.out 3; have hfz52_4 := blk_frozen BK125.out 4; have hfz52_5 := blk_frozen BK125.out 5; have hfz52_6 := blk_frozen BK125.out 6; have hfz52_7 := blk_frozen BK125.out 7; have hfz52_8 := blk_frozen BK125.out 8))
   go_ret
   exact ⟨by first | rfl | (simp [errW_none, errW_some] <;> rfl) | (simp [*, errW_none, errW_some] <;> rfl), by repeat (first | (with_reducible first | exact HB.out | apply below_alloc | apply pw_below_drewN | apply below_drew1 | refine below_set ?_ GE124.out | refine below_set ?_ GE125.out) | exact HB.out)⟩
 ·rw [if_neg c3] at H
  have c3b0 : (a0_0 == a1_0) = false := beq_eq_false_iff_ne.mpr c3
  have c3b1 : (a0_0 != a1_0) = true := bne_iff_ne.mpr c3
  obtain rfl := Option.some.inj H
  go_enter Tryz.func21, Tryz.ntmps21
  go_wp2_with (first | ((with_reducible refine gate_dst (N := 2) rfl ?_); refine box_event ?hg (N := 2) ?hd (cs := #[.int .i64 a0_0, .int .i64 a0_1, .int .i64 a0_2, .int .i64 a0_3, .string a0_4, .string a0_5, .bool a0_6, .slice A0_7 l0_7.length c0_7, .slice A0_8 l0_8.length c0_8]) (t := 26) ?hr ?_; (case hd => rfl); (case hg => rfl); (case hr => first | (go_simp; done) | (go_simp; rfl)); intro gb124 hg w53 hbox hb; have n0_ := Aside0.mk (below_step (by repeat (first | (with_reducible first | exact HB.out | apply below_alloc | apply pw_below_drewN | apply below_drew1) | exact HB.out)) hb); have n1_ := Aside0.mk (hbox); have n2_ := Aside0.mk ((by rw [hg]; exact (below_size (by repeat (first | (with_reducible first | exact HB.out | apply below_alloc | apply pw_below_drewN | apply below_drew1) | exact HB.out))) : w.heap.size ≤ gb124)); have n3_ := Aside0.mk ((by rw [hg]; exact (below_size (by repeat (first | (with_reducible first | exact HB.out | apply below_alloc | apply pw_below_drewN | apply below_drew1) | exact HB.out))) : w.heap.size ≤ gb124)); clear HB; have HB := n0_; have BK124 := n1_; have GW124 := n2_; have GE124 := n3_; clear n0_ n1_ n2_ n3_; clear hb hbox hg) | ((with_reducible refine gate_dst (N := 3) rfl ?_); refine box_event ?hg (N := 3) ?hd (cs := #[.int .i64 a1_0, .int .i64 a1_1, .int .i64 a1_2, .int .i64 a1_3, .string a1_4, .string a1_5, .bool a1_6, .slice A1_7 l1_7.length c1_7, .slice A1_8 l1_8.length c1_8]) (t := 26) ?hr ?_; (case hd => rfl); (case hg => rfl); (case hr => first | (go_simp; done) | (go_simp; rfl)); intro gb125 hg w54 hbox hb; have n0_ := Aside0.mk (blk_below (g := gb124) (o := .cells #[.int .i64 a0_0, .int .i64 a0_1, .int .i64 a0_2, .int .i64 a0_3, .string a0_4, .string a0_5, .bool a0_6, .slice A0_7 l0_7.length c0_7, .slice A0_8 l0_8.length c0_8] 26 (0, 0)) (by (with_reducible repeat (first | refine blk_drewN ?_ _ | refine blk_drew ?_ | refine blk_alloc ?_ _)); exact BK124.out) hb); have n1_ := Aside0.mk (below_step (by repeat (first | (with_reducible first | exact HB.out | apply below_alloc | apply pw_below_drewN | apply below_drew1 | refine below_set ?_ GE124.out) | exact HB.out)) hb); have n2_ := Aside0.mk (hbox); have n3_ := Aside0.mk ((by rw [hg]; exact (below_size (by repeat (first | (with_reducible first | exact HB.out | apply below_alloc | apply pw_below_drewN | apply below_drew1 | refine below_set ?_ GE124.out) | exact HB.out))) : w.heap.size ≤ gb125)); have n4_ := Aside0.mk ((by rw [hg]; exact (below_size (by repeat (first | (with_reducible first | exact HB.out | apply below_alloc | apply pw_below_drewN | apply below_drew1 | refine below_set ?_ GE124.out) | exact HB.out))) : w.heap.size ≤ gb125)); have n5_ := Aside0.mk ((by rw [hg]; exact Nat.ne_of_lt (blk_lt (g := gb124) (o := .cells #[.int .i64 a0_0, .int .i64 a0_1, .int .i64 a0_2, .int .i64 a0_3, .string a0_4, .string a0_5, .bool a0_6, .slice A0_7 l0_7.length c0_7, .slice A0_8 l0_8.length c0_8] 26 (0, 0)) (by (with_reducible repeat (first | refine blk_drewN ?_ _ | refine blk_drew ?_ | refine blk_alloc ?_ _)); exact BK124.out)) : gb124 ≠ gb125)); have n6_ := Aside0.mk ((by rw [hg]; exact Nat.ne_of_gt (blk_lt (g := gb124) (o := .cells #[.int .i64 a0_0, .int .i64 a0_1, .int .i64 a0_2, .int .i64 a0_3, .string a0_4, .string a0_5, .bool a0_6, .slice A0_7 l0_7.length c0_7, .slice A0_8 l0_8.length c0_8] 26 (0, 0)) (by (with_reducible repeat (first | refine blk_drewN ?_ _ | refine blk_drew ?_ | refine blk_alloc ?_ _)); exact BK124.out)) : gb125 ≠ gb124)); clear BK124; clear HB; have BK124 := n0_; have HB := n1_; have BK125 := n2_; have GW125 := n3_; have GE125 := n4_; have NB124_125 := n5_; have NB125_124 := n6_; clear n0_ n1_ n2_ n3_ n4_ n5_ n6_; clear hb hbox hg; have hnb55 := NB124_125.out; have hnc55 := NB125_124.out; have hcz56_0 : w54.cell? ⟨gb124, 0, none⟩ = some (.int .i64 a0_0) := (blk_cell BK124.out 0).trans rfl; have hcz56_1 : w54.cell? ⟨gb124, 1, none⟩ = some (.int .i64 a0_1) := (blk_cell BK124.out 1).trans rfl; have hcz56_2 : w54.cell? ⟨gb124, 2, none⟩ = some (.int .i64 a0_2) := (blk_cell BK124.out 2).trans rfl; have hcz56_3 : w54.cell? ⟨gb124, 3, none⟩ = some (.int .i64 a0_3) := (blk_cell BK124.out 3).trans rfl; have hcz56_4 : w54.cell? ⟨gb124, 4, none⟩ = some (.string a0_4) := (blk_cell BK124.out 4).trans rfl; have hcz56_5 : w54.cell? ⟨gb124, 5, none⟩ = some (.string a0_5) := (blk_cell BK124.out 5).trans rfl; have hcz56_6 : w54.cell? ⟨gb124, 6, none⟩ = some (.bool a0_6) := (blk_cell BK124.out 6).trans rfl; have hcz56_7 : w54.cell? ⟨gb124, 7, none⟩ = some (.slice A0_7 l0_7.length c0_7) := (blk_cell BK124.out 7).trans rfl; have hcz56_8 : w54.cell? ⟨gb124, 8, none⟩ = some (.slice A0_8 l0_8.length c0_8) := (blk_cell BK124.out 8).trans rfl; have hfz56_0 := blk_frozen BK124.out 0; have hfz56_1 := blk_frozen BK124.out 1; have hfz56_2 := blk_frozen BK124.out 2; have hfz56_3 := blk_frozen BK124.out 3; have hfz56_4 := blk_frozen BK124.out 4; have hfz56_5 := blk_frozen BK124.out 5; have hfz56_6 := blk_frozen BK124.out 6; have hfz56_7 := blk_frozen BK124.out 7; have hfz56_8 := blk_frozen BK124.out 8; have hcz57_0 : w54.cell? ⟨gb125, 0, none⟩ = some (.int .i64 a1_0) := (blk_cell BK125.out 0).trans rfl; have hcz57_1 : w54.cell? ⟨gb125, 1, none⟩ = some (.int .i64 a1_1) := (blk_cell BK125.out 1).trans rfl; have hcz57_2 : w54.cell? ⟨gb125, 2, none⟩ = some (.int .i64 a1_2) := (blk_cell BK125.out 2).trans rfl; have hcz57_3 : w54.cell? ⟨gb125, 3, none⟩ = some (.int .i64 a1_3) := (blk_cell BK125.out 3).trans rfl; have hcz57_4 : w54.cell? ⟨gb125, 4, none⟩ = some (.string a1_4) := (blk_cell BK125.out 4).trans rfl; have hcz57_5 : w54.cell? ⟨gb125, 5, none⟩ = some (.string a1_5) := (blk_cell BK125.out 5).trans rfl; have hcz57_6 : w54.cell? ⟨gb125, 6, none⟩ = some (.bool a1_6) := (blk_cell BK125.out 6).trans rfl; have hcz57_7 : w54.cell? ⟨gb125, 7, none⟩ = some (.slice A1_7 l1_7.length c1_7) := (blk_cell BK125.out 7).trans rfl; have hcz57_8 : w54.cell? ⟨gb125, 8, none⟩ = some (.slice A1_8 l1_8.length c1_8) := (blk_cell BK125.out 8).trans rfl; have hfz57_0 := blk_frozen BK125.out 0; have hfz57_1 := blk_frozen BK125.out 1; have hfz57_2 := blk_frozen BK125.out 2; have hfz57_3 := blk_frozen BK125.out 3; have hfz57_4 := blk_frozen BK125.out 4; have hfz57_5 := blk_frozen BK125.out 5; have hfz57_6 := blk_frozen BK125.out 6; have hfz57_7 := blk_frozen BK125.out 7; have hfz57_8 := blk_frozen BK125.out 8))
  go_ret
  exact ⟨by first | rfl | (simp [errW_none, errW_some] <;> rfl) | (simp [*, errW_none, errW_some] <;> rfl), by repeat (first | (with_reducible first | exact HB.out | apply below_alloc | apply pw_below_drewN | apply below_drew1 | refine below_set ?_ GE124.out | refine below_set ?_ GE125.out) | exact HB.out)⟩

end Go.Proofs.YtaldfbmjmpkmmaaGreat.PL
namespace Go.Proofs.YtaldfbmjmpkmmaaGreat.PL
open Go.RowKit Go.Proofs.YtaldfbmjmpkmmaaGreatW.PrintWords Go.Proofs.YtaldfbmjmpkmmaaGreatW.PrintLast Go.Proofs.YtaldfbmjmpkmmaaGreatW.PrintMore
attribute [local go_sem] Mk.str_leq Mk.str_gtr Mk.str_geq max2_int min2_int max_two min_two max_three min_three max_four min_four   -- for this text's walks alone
set_option linter.unusedVariables false
set_option linter.unusedSimpArgs false

/-! ### corncriblaw12_sameRecords: function 11 -/
def corncriblaw12_sameRecords.l0 : Nat → List (S26) → List (S26) → Int → Int → Option (Bool)
 | 0, _, _, _, _ => none
 | k + 1, x0, x1, x12, x13 => if x13 < x12 then (if 0 ≤ x13 then (if x13 < (x0.length : Int) then (if x13 < (x1.length : Int) then ((corncribbook_SameRecord.f k ((rd_T26 x0 x13).f0) ((rd_T26 x0 x13).f1) ((rd_T26 x0 x13).f2) ((rd_T26 x0 x13).f3) ((rd_T26 x0 x13).f4) ((rd_T26 x0 x13).f5) ((rd_T26 x0 x13).f6) ((rd_T26 x0 x13).f7) ((rd_T26 x0 x13).f8) ((rd_T26 x1 x13).f0) ((rd_T26 x1 x13).f1) ((rd_T26 x1 x13).f2) ((rd_T26 x1 x13).f3) ((rd_T26 x1 x13).f4) ((rd_T26 x1 x13).f5) ((rd_T26 x1 x13).f6) ((rd_T26 x1 x13).f7) ((rd_T26 x1 x13).f8)).bind fun t132 => (if t132 = true then (corncriblaw12_sameRecords.l0 k x0 x1 x12 (wrap64 (x13 + 1))) else (some false))) else (none)) else (none)) else (none)) else (some true)
def corncriblaw12_sameRecords.f (k : Nat) (l0 : List (S26)) (l1 : List (S26)) : Option (Bool) := if (l0.length : Int) = (l1.length : Int) then (corncriblaw12_sameRecords.l0 k l0 l1 (l0.length : Int) 0) else (some false)
theorem corncriblaw12_sameRecords.mono_l : ∀ k, (∀ y0 y1 y2 y3, LeO (corncriblaw12_sameRecords.l0 k y0 y1 y2 y3) (corncriblaw12_sameRecords.l0 (k + 1) y0 y1 y2 y3))
 | 0 => fun _ _ _ _ r h => by simp [corncriblaw12_sameRecords.l0] at h
 | k + 1 => by
  have ih0 := corncriblaw12_sameRecords.mono_l k
  ·intro y0 y1 y2 y3
   unfold corncriblaw12_sameRecords.l0
   repeat' first
   | (with_reducible exact ih0 _ _ _ _)
   | (with_reducible exact corncribbook_SameRecord.mono _ _ _ _ _ _ _ _ _ _ _ _ _ _ _ _ _ _ _)
   | (with_reducible exact LeO.refl _)
   | (with_reducible exact LeO.none _)
   | (with_reducible refine LeO.ite ?_ ?_)
   | (with_reducible refine LeO.bind ?_ (fun _ => ?_))
   | exact ih0 _ _ _ _
   | exact corncribbook_SameRecord.mono _ _ _ _ _ _ _ _ _ _ _ _ _ _ _ _ _ _ _
   | exact LeO.none _
   | refine LeO.ite ?_ ?_
   | refine LeO.bind ?_ (fun _ => ?_)
theorem corncriblaw12_sameRecords.mono : ∀ a0 a1 k, LeO (corncriblaw12_sameRecords.f k a0 a1) (corncriblaw12_sameRecords.f (k + 1) a0 a1) := by
 intro a0 a1 k
 have ih0 := corncriblaw12_sameRecords.mono_l k
 unfold corncriblaw12_sameRecords.f
 repeat' first
   | (with_reducible exact ih0 _ _ _ _)
   | (with_reducible exact corncribbook_SameRecord.mono _ _ _ _ _ _ _ _ _ _ _ _ _ _ _ _ _ _ _)
   | (with_reducible exact LeO.refl _)
   | (with_reducible exact LeO.none _)
   | (with_reducible refine LeO.ite ?_ ?_)
   | (with_reducible refine LeO.bind ?_ (fun _ => ?_))
   | exact ih0 _ _ _ _
   | exact corncribbook_SameRecord.mono _ _ _ _ _ _ _ _ _ _ _ _ _ _ _ _ _ _ _
   | exact LeO.none _
   | refine LeO.ite ?_ ?_
   | refine LeO.bind ?_ (fun _ => ?_)
def corncriblaw12_sameRecords.T6 : Bool × List (List Nat × List Nat) := (true, [([], []), ([], []), ([0, 1], [0, 1]), ([2], [2]), ([], []), ([], []), ([4, 5], [4, 5]), ([6], [6]), ([3, 7], [3, 7]), ([8], [8])])
def corncriblaw12_sameRecords.B6 : List Nat := [0, 0, 3, 7, 0, 0, 48, 112, 255, 511]
theorem corncriblaw12_sameRecords.tab6 : rtab .any (opsOf Tryz.f11 6) = corncriblaw12_sameRecords.T6 := by kernel_rfl
theorem corncriblaw12_sameRecords.bits6 : waitsOk corncriblaw12_sameRecords.T6.2 corncriblaw12_sameRecords.B6 = true := by kernel_rfl
set_option maxHeartbeats 8000000 in
set_option maxRecDepth 100000 in
theorem corncriblaw12_sameRecords.calls (k : Nat) (A0 : Option Addr) (c0 : Nat) (l0 : List (S26)) (A1 : Option Addr) (c1 : Nat) (l1 : List (S26)) (r : Bool) (w : World) (hr0 : Kd.C k26 w A0 l0.length l0) (hc0 : l0.length ≤ c0) (hr1 : Kd.C k26 w A1 l1.length l1) (hc1 : l1.length ≤ c1) (h : corncriblaw12_sameRecords.f k l0 l1 = some r) :
  Calls Tryz.prog 11 #[.slice A0 l0.length c0, .slice A1 l1.length c1] w fun e w' => e = .returned (.bool r) ∧ Below w.heap.size w w' := by
 have hu26 := Tryz.underlying26
 have HR0 := Aside0.mk hr0
 have HC0 := Aside0.mk hc0
 clear hr0 hc0
 have HR1 := Aside0.mk hr1
 have HC1 := Aside0.mk hc1
 clear hr1 hc1
 have HB := Aside0.mk (Below.refl w.heap.size w)
 have H : (if (l0.length : Int) = (l1.length : Int) then (corncriblaw12_sameRecords.l0 k l0 l1 (l0.length : Int) 0) else (some false)) = some r := h
 clear h
 by_cases c3 : (l0.length : Int) = (l1.length : Int)
 ·rw [if_pos c3] at H
  have c3b0 : ((l0.length : Int) == (l1.length : Int)) = true := beq_iff_eq.mpr c3
  have c3b1 : ((l0.length : Int) != (l1.length : Int)) = false := bne_eq_false_iff_eq.mpr c3
  have c3b2 : (l0.length == l1.length) = true := by first | simpa using c3 | (simp at c3 ⊢; omega)
  clear c3
  have H' := Aside0.mk H
  clear H
  go_enter Tryz.func11, Tryz.ntmps11
  go_wp2
  go_loopg [13] k (fun kq v13 w' => ∃ (x13_1 : Int), v13 = .int .i64 x13_1 ∧ Aside0 (corncriblaw12_sameRecords.l0 kq l0 l1 (l0.length : Int) x13_1 = some r) ∧ Aside0 (kq ≤ k) ∧ Aside0 (Below w.heap.size w w'))
  case atStart => exact ⟨(0), (by first | rfl | (simp; done) | (simp [*]; done)), H', ⟨Nat.le_refl _⟩, ⟨by repeat (first | (with_reducible first | exact HB.out | apply below_alloc | apply pw_below_drewN | apply below_drew1) | exact HB.out)⟩⟩
  case round =>
   clear H'
   try clear c1
   try clear p2
   try clear c3
   try clear c3b0
   try clear c3b1
   try clear c3b2
   obtain ⟨x13_1, rfl, HA, HK1, HB⟩ := hrel
   cases gk with
   | zero => exact absurd HA.out (by simp [corncriblaw12_sameRecords.l0])
   | succ k1 =>
    have H := HA.out
    clear HA
    simp only [corncriblaw12_sameRecords.l0] at H
    by_cases c4 : x13_1 < (l0.length : Int)
    ·rw [if_pos c4] at H
     have c4b0 : decide (x13_1 < (l0.length : Int)) = true := decide_eq_true c4
     clear c4
     by_cases c5 : 0 ≤ x13_1
     ·rw [if_pos c5] at H
      have c5b0 : decide (0 ≤ x13_1) = true := decide_eq_true c5
      clear c5
      by_cases c6 : x13_1 < (l0.length : Int)
      ·rw [if_pos c6] at H
       have c6b0 : decide (x13_1 < (l0.length : Int)) = true := decide_eq_true c6
       clear c6
       by_cases c7 : x13_1 < (l1.length : Int)
       ·rw [if_pos c7] at H
        have c7b0 : decide (x13_1 < (l1.length : Int)) = true := decide_eq_true c7
        clear c7
        replace H := Option.bind_eq_some_iff.mp H
        obtain ⟨t132, A80, H⟩ := H
        replace H : (if t132 = true then (corncriblaw12_sameRecords.l0 k1 l0 l1 (l0.length : Int) (wrap64 (x13_1 + 1))) else (some false)) = some r := H
        have A8 := Aside0.mk A80
        clear A80
        by_cases c9 : t132 = true
        ·subst c9
         have H1 : (corncriblaw12_sameRecords.l0 k1 l0 l1 (l0.length : Int) (wrap64 (x13_1 + 1))) = some r := by rw [if_pos rfl] at H; exact H
         clear H
         have H := H1
         clear H1
         have H' := Aside0.mk H
         clear H
         try go_wp2
         have n0_ := Aside0.mk (below_drew1 HB.out)
         clear HB
         have HB := n0_
         clear n0_
         have p130 : 0 ≤ (x13_1 : Int) := of_decide_eq_true (by first | (with_reducible assumption) | assumption)
         have q130 : x13_1 < (l0.length : Int) := of_decide_eq_true (by first | (with_reducible assumption) | assumption)
         obtain ⟨ad130, A130_7, c130_7, A130_8, c130_8, e130, hx130_0, hx130_1, hx130_2, hx130_3, hx130_4, hx130_5, hx130_6, hx130_7, hx130_8, hl130_7, hi130_7, hl130_8, hi130_8⟩ := at_T26 HR0.out x13_1 p130 q130
         have hw130_8 := hx130_8
         have hw130_7 := hx130_7
         have hw130_6 := hx130_6
         have hw130_5 := hx130_5
         have hw130_4 := hx130_4
         have hw130_3 := hx130_3
         have hw130_2 := hx130_2
         have hw130_1 := hx130_1
         have hw130_0 := hx130_0
         cases e130
         replace hx130_0 := (HB.out.cell (World.block_lt_of_cell? w _ hx130_0)).trans hx130_0
         replace hx130_1 := (HB.out.cell (World.block_lt_of_cell? w _ hx130_1)).trans hx130_1
         replace hx130_2 := (HB.out.cell (World.block_lt_of_cell? w _ hx130_2)).trans hx130_2
         replace hx130_3 := (HB.out.cell (World.block_lt_of_cell? w _ hx130_3)).trans hx130_3
         replace hx130_4 := (HB.out.cell (World.block_lt_of_cell? w _ hx130_4)).trans hx130_4
         replace hx130_5 := (HB.out.cell (World.block_lt_of_cell? w _ hx130_5)).trans hx130_5
         replace hx130_6 := (HB.out.cell (World.block_lt_of_cell? w _ hx130_6)).trans hx130_6
         replace hx130_7 := (HB.out.cell (World.block_lt_of_cell? w _ hx130_7)).trans hx130_7
         replace hx130_8 := (HB.out.cell (World.block_lt_of_cell? w _ hx130_8)).trans hx130_8
         have HR130_7 := Aside0.mk hi130_7
         have HC130_7 := Aside0.mk hl130_7
         clear hi130_7 hl130_7
         have HR130_8 := Aside0.mk hi130_8
         have HC130_8 := Aside0.mk hl130_8
         clear hi130_8 hl130_8
         replace p130 := eq_true p130
         replace q130 := eq_true q130
         have p131 : 0 ≤ (x13_1 : Int) := of_decide_eq_true (by first | (with_reducible assumption) | assumption)
         have q131 : x13_1 < (l1.length : Int) := of_decide_eq_true (by first | (with_reducible assumption) | assumption)
         obtain ⟨ad131, A131_7, c131_7, A131_8, c131_8, e131, hx131_0, hx131_1, hx131_2, hx131_3, hx131_4, hx131_5, hx131_6, hx131_7, hx131_8, hl131_7, hi131_7, hl131_8, hi131_8⟩ := at_T26 HR1.out x13_1 p131 q131
         have hw131_8 := hx131_8
         have hw131_7 := hx131_7
         have hw131_6 := hx131_6
         have hw131_5 := hx131_5
         have hw131_4 := hx131_4
         have hw131_3 := hx131_3
         have hw131_2 := hx131_2
         have hw131_1 := hx131_1
         have hw131_0 := hx131_0
         cases e131
         replace hx131_0 := (HB.out.cell (World.block_lt_of_cell? w _ hx131_0)).trans hx131_0
         replace hx131_1 := (HB.out.cell (World.block_lt_of_cell? w _ hx131_1)).trans hx131_1
         replace hx131_2 := (HB.out.cell (World.block_lt_of_cell? w _ hx131_2)).trans hx131_2
         replace hx131_3 := (HB.out.cell (World.block_lt_of_cell? w _ hx131_3)).trans hx131_3
         replace hx131_4 := (HB.out.cell (World.block_lt_of_cell? w _ hx131_4)).trans hx131_4
         replace hx131_5 := (HB.out.cell (World.block_lt_of_cell? w _ hx131_5)).trans hx131_5
         replace hx131_6 := (HB.out.cell (World.block_lt_of_cell? w _ hx131_6)).trans hx131_6
         replace hx131_7 := (HB.out.cell (World.block_lt_of_cell? w _ hx131_7)).trans hx131_7
         replace hx131_8 := (HB.out.cell (World.block_lt_of_cell? w _ hx131_8)).trans hx131_8
         have HR131_7 := Aside0.mk hi131_7
         have HC131_7 := Aside0.mk hl131_7
         clear hi131_7 hl131_7
         have HR131_8 := Aside0.mk hi131_8
         have HC131_8 := Aside0.mk hl131_8
         clear hi131_8 hl131_8
         replace p131 := eq_true p131
         replace q131 := eq_true q131
         refine start_ (n := 10) (S := fun w' => w'.cell? (ad130.add ((x13_1).toNat * 9)) = some (.int .i64 ((rd_T26 l0 x13_1).f0)) ∧ w'.cell? ⟨(ad130.add ((x13_1).toNat * 9)).block, (ad130.add ((x13_1).toNat * 9)).off + 1, none⟩ = some (.int .i64 ((rd_T26 l0 x13_1).f1)) ∧ w'.cell? ⟨(ad130.add ((x13_1).toNat * 9)).block, (ad130.add ((x13_1).toNat * 9)).off + 2, none⟩ = some (.int .i64 ((rd_T26 l0 x13_1).f2)) ∧ w'.cell? ⟨(ad130.add ((x13_1).toNat * 9)).block, (ad130.add ((x13_1).toNat * 9)).off + 3, none⟩ = some (.int .i64 ((rd_T26 l0 x13_1).f3)) ∧ w'.cell? ⟨(ad130.add ((x13_1).toNat * 9)).block, (ad130.add ((x13_1).toNat * 9)).off + 4, none⟩ = some (.string ((rd_T26 l0 x13_1).f4)) ∧ w'.cell? ⟨(ad130.add ((x13_1).toNat * 9)).block, (ad130.add ((x13_1).toNat * 9)).off + 5, none⟩ = some (.string ((rd_T26 l0 x13_1).f5)) ∧ w'.cell? ⟨(ad130.add ((x13_1).toNat * 9)).block, (ad130.add ((x13_1).toNat * 9)).off + 6, none⟩ = some (.bool ((rd_T26 l0 x13_1).f6)) ∧ w'.cell? ⟨(ad130.add ((x13_1).toNat * 9)).block, (ad130.add ((x13_1).toNat * 9)).off + 7, none⟩ = some (.slice A130_7 ((rd_T26 l0 x13_1).f7).length c130_7) ∧ w'.cell? ⟨(ad130.add ((x13_1).toNat * 9)).block, (ad130.add ((x13_1).toNat * 9)).off + 8, none⟩ = some (.slice A130_8 ((rd_T26 l0 x13_1).f8).length c130_8) ∧ w'.cell? (ad131.add ((x13_1).toNat * 9)) = some (.int .i64 ((rd_T26 l1 x13_1).f0)) ∧ w'.cell? ⟨(ad131.add ((x13_1).toNat * 9)).block, (ad131.add ((x13_1).toNat * 9)).off + 1, none⟩ = some (.int .i64 ((rd_T26 l1 x13_1).f1)) ∧ w'.cell? ⟨(ad131.add ((x13_1).toNat * 9)).block, (ad131.add ((x13_1).toNat * 9)).off + 2, none⟩ = some (.int .i64 ((rd_T26 l1 x13_1).f2)) ∧ w'.cell? ⟨(ad131.add ((x13_1).toNat * 9)).block, (ad131.add ((x13_1).toNat * 9)).off + 3, none⟩ = some (.int .i64 ((rd_T26 l1 x13_1).f3)) ∧ w'.cell? ⟨(ad131.add ((x13_1).toNat * 9)).block, (ad131.add ((x13_1).toNat * 9)).off + 4, none⟩ = some (.string ((rd_T26 l1 x13_1).f4)) ∧ w'.cell? ⟨(ad131.add ((x13_1).toNat * 9)).block, (ad131.add ((x13_1).toNat * 9)).off + 5, none⟩ = some (.string ((rd_T26 l1 x13_1).f5)) ∧ w'.cell? ⟨(ad131.add ((x13_1).toNat * 9)).block, (ad131.add ((x13_1).toNat * 9)).off + 6, none⟩ = some (.bool ((rd_T26 l1 x13_1).f6)) ∧ w'.cell? ⟨(ad131.add ((x13_1).toNat * 9)).block, (ad131.add ((x13_1).toNat * 9)).off + 7, none⟩ = some (.slice A131_7 ((rd_T26 l1 x13_1).f7).length c131_7) ∧ w'.cell? ⟨(ad131.add ((x13_1).toNat * 9)).block, (ad131.add ((x13_1).toNat * 9)).off + 8, none⟩ = some (.slice A131_8 ((rd_T26 l1 x13_1).f8).length c131_8)) (ds := []) #[false, false, false, false, false, false, false, false, false, false] (by kernel_rfl) rfl rfl ⟨((HB.out.cell (World.block_lt_of_cell? w _ hw130_0)).trans hw130_0), ((HB.out.cell (World.block_lt_of_cell? w _ hw130_1)).trans hw130_1), ((HB.out.cell (World.block_lt_of_cell? w _ hw130_2)).trans hw130_2), ((HB.out.cell (World.block_lt_of_cell? w _ hw130_3)).trans hw130_3), ((HB.out.cell (World.block_lt_of_cell? w _ hw130_4)).trans hw130_4), ((HB.out.cell (World.block_lt_of_cell? w _ hw130_5)).trans hw130_5), ((HB.out.cell (World.block_lt_of_cell? w _ hw130_6)).trans hw130_6), ((HB.out.cell (World.block_lt_of_cell? w _ hw130_7)).trans hw130_7), ((HB.out.cell (World.block_lt_of_cell? w _ hw130_8)).trans hw130_8), ((HB.out.cell (World.block_lt_of_cell? w _ hw131_0)).trans hw131_0), ((HB.out.cell (World.block_lt_of_cell? w _ hw131_1)).trans hw131_1), ((HB.out.cell (World.block_lt_of_cell? w _ hw131_2)).trans hw131_2), ((HB.out.cell (World.block_lt_of_cell? w _ hw131_3)).trans hw131_3), ((HB.out.cell (World.block_lt_of_cell? w _ hw131_4)).trans hw131_4), ((HB.out.cell (World.block_lt_of_cell? w _ hw131_5)).trans hw131_5), ((HB.out.cell (World.block_lt_of_cell? w _ hw131_6)).trans hw131_6), ((HB.out.cell (World.block_lt_of_cell? w _ hw131_7)).trans hw131_7), ((HB.out.cell (World.block_lt_of_cell? w _ hw131_8)).trans hw131_8)⟩ (fun hHeld => ?_); refine with_tabW corncriblaw12_sameRecords.tab6 corncriblaw12_sameRecords.bits6 (fun HT_ HW_ => ?_)
         generalize wr.drew = w10 at HB HR130_7 HR130_8 HR131_7 HR131_8 hx130_0 hx130_1 hx130_2 hx130_3 hx130_4 hx130_5 hx130_6 hx130_7 hx130_8 hx131_0 hx131_1 hx131_2 hx131_3 hx131_4 hx131_5 hx131_6 hx131_7 hx131_8 hHeld ⊢
         refine pure_ (i := 0) (N := some 16) (v := ?_) (a' := ?_) #[true, false, false, false, false, false, false, false, false, false] rfl rfl (any_of HT_.out (by kernel_rfl)) (fun _ _ _ h => h) (Or.inl ⟨by rfl, ?_⟩) ?_ ?_
         rotate_left
         ·intro w'
          go_simp
          with_reducible rfl
         rotate_left
         ·simp only [Act.put, List.setIfInBounds_toArray, List.set_cons_zero, List.set_cons_succ, i64_w, i32_w]
          rfl
         refine pure_ (i := 1) (N := some 17) (v := ?_) (a' := ?_) #[true, true, false, false, false, false, false, false, false, false] rfl rfl (any_of HT_.out (by kernel_rfl)) (fun _ _ _ h => h) (Or.inl ⟨by rfl, ?_⟩) ?_ ?_
         rotate_left
         ·intro w'
          go_simp
          with_reducible rfl
         rotate_left
         ·simp only [Act.put, List.setIfInBounds_toArray, List.set_cons_zero, List.set_cons_succ, i64_w, i32_w]
          rfl
         refine pure_ (i := 2) (N := some 18) (v := ?_) (a' := ?_) #[true, true, true, false, false, false, false, false, false, false] rfl rfl (any_of HT_.out (by kernel_rfl)) (fun _ _ _ h => h) (Or.inl ⟨by rfl, ?_⟩) ?_ ?_
         rotate_left
         ·intro w'
          go_simp
          with_reducible rfl
         rotate_left
         ·simp only [Act.put, List.setIfInBounds_toArray, List.set_cons_zero, List.set_cons_succ, i64_w, i32_w]
          rfl
         refine pure_ (i := 4) (N := some 20) (v := ?_) (a' := ?_) #[true, true, true, false, true, false, false, false, false, false] rfl rfl (any_of HT_.out (by kernel_rfl)) (fun _ _ _ h => h) (Or.inl ⟨by rfl, ?_⟩) ?_ ?_
         rotate_left
         ·intro w'
          go_simp
          with_reducible rfl
         rotate_left
         ·simp only [Act.put, List.setIfInBounds_toArray, List.set_cons_zero, List.set_cons_succ, i64_w, i32_w]
          rfl
         refine pure_ (i := 5) (N := some 21) (v := ?_) (a' := ?_) #[true, true, true, false, true, true, false, false, false, false] rfl rfl (any_of HT_.out (by kernel_rfl)) (fun _ _ _ h => h) (Or.inl ⟨by rfl, ?_⟩) ?_ ?_
         rotate_left
         ·intro w'
          go_simp
          with_reducible rfl
         rotate_left
         ·simp only [Act.put, List.setIfInBounds_toArray, List.set_cons_zero, List.set_cons_succ, i64_w, i32_w]
          rfl
         refine pure_ (i := 6) (N := some 22) (v := ?_) (a' := ?_) #[true, true, true, false, true, true, true, false, false, false] rfl rfl (any_of HT_.out (by kernel_rfl)) (fun _ _ _ h => h) (Or.inl ⟨by rfl, ?_⟩) ?_ ?_
         rotate_left
         ·intro w'
          go_simp
          with_reducible rfl
         rotate_left
         ·simp only [Act.put, List.setIfInBounds_toArray, List.set_cons_zero, List.set_cons_succ, i64_w, i32_w]
          rfl
         refine take_ (i := 3) (N := some 19) (v := ?_) (a' := ?_) #[true, true, true, true, true, true, true, false, false, false] rfl rfl (take_ofW HT_.out HW_.out (by kernel_rfl)) (fun _ _ _ h => h) (Or.inl ⟨by rfl, ?_⟩) hHeld ?_ ?_
         rotate_left
         ·rintro w' ⟨s0, s1, s2, s3, s4, s5, s6, s7, s8, s9, s10, s11, s12, s13, s14, s15, s16, s17⟩
          go_simp
          with_reducible rfl
         rotate_left
         ·simp only [Act.put, List.setIfInBounds_toArray, List.set_cons_zero, List.set_cons_succ, i64_w, i32_w]
          rfl
         refine take_ (i := 7) (N := some 23) (v := ?_) (a' := ?_) #[true, true, true, true, true, true, true, true, false, false] rfl rfl (take_ofW HT_.out HW_.out (by kernel_rfl)) (fun _ _ _ h => h) (Or.inl ⟨by rfl, ?_⟩) hHeld ?_ ?_
         rotate_left
         ·rintro w' ⟨s0, s1, s2, s3, s4, s5, s6, s7, s8, s9, s10, s11, s12, s13, s14, s15, s16, s17⟩
          go_simp
          with_reducible rfl
         rotate_left
         ·simp only [Act.put, List.setIfInBounds_toArray, List.set_cons_zero, List.set_cons_succ, i64_w, i32_w]
          rfl
         refine one_ (i := 8) (N := some 24) #[true, true, true, true, true, true, true, true, true, false] rfl rfl (one_of HT_.out (by kernel_rfl)) (by decide) (fun K hK => ?_)
         refine goes_ Tryz.func21 (by kernel_rfl) rfl #[.agg #[.int .i64 ((rd_T26 l0 x13_1).f0), .int .i64 ((rd_T26 l0 x13_1).f1), .int .i64 ((rd_T26 l0 x13_1).f2), .int .i64 ((rd_T26 l0 x13_1).f3), .string ((rd_T26 l0 x13_1).f4), .string ((rd_T26 l0 x13_1).f5), .bool ((rd_T26 l0 x13_1).f6), .slice A130_7 ((rd_T26 l0 x13_1).f7).length c130_7, .slice A130_8 ((rd_T26 l0 x13_1).f8).length c130_8], .agg #[.int .i64 ((rd_T26 l1 x13_1).f0), .int .i64 ((rd_T26 l1 x13_1).f1), .int .i64 ((rd_T26 l1 x13_1).f2), .int .i64 ((rd_T26 l1 x13_1).f3), .string ((rd_T26 l1 x13_1).f4), .string ((rd_T26 l1 x13_1).f5), .bool ((rd_T26 l1 x13_1).f6), .slice A131_7 ((rd_T26 l1 x13_1).f7).length c131_7, .slice A131_8 ((rd_T26 l1 x13_1).f8).length c131_8]] (by rfl) rfl rfl (by (try simp only [List.map_toArray, List.map_cons, List.map_nil]); first | done | rfl | (simp only [List.length_drop, List.length_take]; rfl)) ?_
         with_reducible refine (corncribbook_SameRecord.calls k1 ((rd_T26 l0 x13_1).f0) ((rd_T26 l0 x13_1).f1) ((rd_T26 l0 x13_1).f2) ((rd_T26 l0 x13_1).f3) ((rd_T26 l0 x13_1).f4) ((rd_T26 l0 x13_1).f5) ((rd_T26 l0 x13_1).f6) _ _ ((rd_T26 l0 x13_1).f7) _ _ ((rd_T26 l0 x13_1).f8) ((rd_T26 l1 x13_1).f0) ((rd_T26 l1 x13_1).f1) ((rd_T26 l1 x13_1).f2) ((rd_T26 l1 x13_1).f3) ((rd_T26 l1 x13_1).f4) ((rd_T26 l1 x13_1).f5) ((rd_T26 l1 x13_1).f6) _ _ ((rd_T26 l1 x13_1).f7) _ _ ((rd_T26 l1 x13_1).f8) true _ ?side1 ?side2 ?side3 ?side4 ?side5 ?side6 ?side7 ?side8 A8.out).mono ?_
         (case side1 => repeat (first | exact (Kd.C_below HR130_7.out HB.out) | (with_reducible refine Kd.C_alloc ?_ _) | (with_reducible refine Kd.C_drewN ?_ _) | (with_reducible refine Kd.C_drew ?_)))
         (case side2 => exact HC130_7.out)
         (case side3 => repeat (first | exact (Kd.C_below HR130_8.out HB.out) | (with_reducible refine Kd.C_alloc ?_ _) | (with_reducible refine Kd.C_drewN ?_ _) | (with_reducible refine Kd.C_drew ?_)))
         (case side4 => exact HC130_8.out)
         (case side5 => repeat (first | exact (Kd.C_below HR131_7.out HB.out) | (with_reducible refine Kd.C_alloc ?_ _) | (with_reducible refine Kd.C_drewN ?_ _) | (with_reducible refine Kd.C_drew ?_)))
         (case side6 => exact HC131_7.out)
         (case side7 => repeat (first | exact (Kd.C_below HR131_8.out HB.out) | (with_reducible refine Kd.C_alloc ?_ _) | (with_reducible refine Kd.C_drewN ?_ _) | (with_reducible refine Kd.C_drew ?_)))
         (case side8 => exact HC131_8.out)
         rintro e w11 ⟨rfl, hb⟩
         refine ⟨_, rfl, ?_⟩
         have n0_ := Aside0.mk (below_step (by repeat (first | (with_reducible first | exact HB.out | apply below_alloc | apply pw_below_drewN | apply below_drew1) | exact HB.out)) hb)
         clear HB
         have HB := n0_
         clear n0_
         (try clear hb)
         (try clear hb2)
         (try clear hk)
         (try clear hi)
         refine hK.out _ _ ⟨((HB.out.cell (World.block_lt_of_cell? w _ hw130_0)).trans hw130_0), ((HB.out.cell (World.block_lt_of_cell? w _ hw130_1)).trans hw130_1), ((HB.out.cell (World.block_lt_of_cell? w _ hw130_2)).trans hw130_2), ((HB.out.cell (World.block_lt_of_cell? w _ hw130_3)).trans hw130_3), ((HB.out.cell (World.block_lt_of_cell? w _ hw130_4)).trans hw130_4), ((HB.out.cell (World.block_lt_of_cell? w _ hw130_5)).trans hw130_5), ((HB.out.cell (World.block_lt_of_cell? w _ hw130_6)).trans hw130_6), ((HB.out.cell (World.block_lt_of_cell? w _ hw130_7)).trans hw130_7), ((HB.out.cell (World.block_lt_of_cell? w _ hw130_8)).trans hw130_8), ((HB.out.cell (World.block_lt_of_cell? w _ hw131_0)).trans hw131_0), ((HB.out.cell (World.block_lt_of_cell? w _ hw131_1)).trans hw131_1), ((HB.out.cell (World.block_lt_of_cell? w _ hw131_2)).trans hw131_2), ((HB.out.cell (World.block_lt_of_cell? w _ hw131_3)).trans hw131_3), ((HB.out.cell (World.block_lt_of_cell? w _ hw131_4)).trans hw131_4), ((HB.out.cell (World.block_lt_of_cell? w _ hw131_5)).trans hw131_5), ((HB.out.cell (World.block_lt_of_cell? w _ hw131_6)).trans hw131_6), ((HB.out.cell (World.block_lt_of_cell? w _ hw131_7)).trans hw131_7), ((HB.out.cell (World.block_lt_of_cell? w _ hw131_8)).trans hw131_8)⟩ (fun hHeld => ?_)
         clear hK K
         refine norm_ (a' := ?_) ?_ ?_
         rotate_left
         ·show Act.put _ (some 24) _ = _
          simp only [Act.put, List.setIfInBounds_toArray, List.set_cons_zero, List.set_cons_succ, i64_w, i32_w]
          rfl
         refine pure_ (i := 9) (N := some 25) (v := ?_) (a' := ?_) #[true, true, true, true, true, true, true, true, true, true] rfl rfl (any_of HT_.out (by kernel_rfl)) (fun _ _ _ h => h) (Or.inl ⟨by rfl, ?_⟩) ?_ ?_
         rotate_left
         ·intro w'
          go_simp
          with_reducible rfl
         rotate_left
         ·simp only [Act.put, List.setIfInBounds_toArray, List.set_cons_zero, List.set_cons_succ, i64_w, i32_w]
          rfl
         refine done_ (done_of HT_.out (by kernel_rfl)) ?_
         try go_wp2
         go_roundg k1
         case measure => have := HK1.out; omega
         case rel => exact ⟨(wrap64 (x13_1 + 1)), (by first | rfl | (simp; done) | (simp [*]; done)), H', ⟨by have := HK1.out; omega⟩, ⟨by repeat (first | (with_reducible first | exact HB.out | apply below_alloc | apply pw_below_drewN | apply below_drew1) | exact HB.out)⟩⟩
        ·replace c9 := Bool.eq_false_iff.mpr c9
         subst c9
         have H1 : (some false) = some r := by rw [if_neg (show ¬ (false = true) by decide)] at H; exact H
         clear H
         have H := H1
         clear H1
         obtain rfl := Option.some.inj H
         try go_wp2
         have n0_ := Aside0.mk (below_drew1 HB.out)
         clear HB
         have HB := n0_
         clear n0_
         have p130 : 0 ≤ (x13_1 : Int) := of_decide_eq_true (by first | (with_reducible assumption) | assumption)
         have q130 : x13_1 < (l0.length : Int) := of_decide_eq_true (by first | (with_reducible assumption) | assumption)
         obtain ⟨ad130, A130_7, c130_7, A130_8, c130_8, e130, hx130_0, hx130_1, hx130_2, hx130_3, hx130_4, hx130_5, hx130_6, hx130_7, hx130_8, hl130_7, hi130_7, hl130_8, hi130_8⟩ := at_T26 HR0.out x13_1 p130 q130
         have hw130_8 := hx130_8
         have hw130_7 := hx130_7
         have hw130_6 := hx130_6
         have hw130_5 := hx130_5
         have hw130_4 := hx130_4
         have hw130_3 := hx130_3
         have hw130_2 := hx130_2
         have hw130_1 := hx130_1
         have hw130_0 := hx130_0
         cases e130
         replace hx130_0 := (HB.out.cell (World.block_lt_of_cell? w _ hx130_0)).trans hx130_0
         replace hx130_1 := (HB.out.cell (World.block_lt_of_cell? w _ hx130_1)).trans hx130_1
         replace hx130_2 := (HB.out.cell (World.block_lt_of_cell? w _ hx130_2)).trans hx130_2
         replace hx130_3 := (HB.out.cell (World.block_lt_of_cell? w _ hx130_3)).trans hx130_3
         replace hx130_4 := (HB.out.cell (World.block_lt_of_cell? w _ hx130_4)).trans hx130_4
         replace hx130_5 := (HB.out.cell (World.block_lt_of_cell? w _ hx130_5)).trans hx130_5
         replace hx130_6 := (HB.out.cell (World.block_lt_of_cell? w _ hx130_6)).trans hx130_6
         replace hx130_7 := (HB.out.cell (World.block_lt_of_cell? w _ hx130_7)).trans hx130_7
         replace hx130_8 := (HB.out.cell (World.block_lt_of_cell? w _ hx130_8)).trans hx130_8
         have HR130_7 := Aside0.mk hi130_7
         have HC130_7 := Aside0.mk hl130_7
         clear hi130_7 hl130_7
         have HR130_8 := Aside0.mk hi130_8
         have HC130_8 := Aside0.mk hl130_8
         clear hi130_8 hl130_8
         replace p130 := eq_true p130
         replace q130 := eq_true q130
         have p131 : 0 ≤ (x13_1 : Int) := of_decide_eq_true (by first | (with_reducible assumption) | assumption)
         have q131 : x13_1 < (l1.length : Int) := of_decide_eq_true (by first | (with_reducible assumption) | assumption)
         obtain ⟨ad131, A131_7, c131_7, A131_8, c131_8, e131, hx131_0, hx131_1, hx131_2, hx131_3, hx131_4, hx131_5, hx131_6, hx131_7, hx131_8, hl131_7, hi131_7, hl131_8, hi131_8⟩ := at_T26 HR1.out x13_1 p131 q131
         have hw131_8 := hx131_8
         have hw131_7 := hx131_7
         have hw131_6 := hx131_6
         have hw131_5 := hx131_5
         have hw131_4 := hx131_4
         have hw131_3 := hx131_3
         have hw131_2 := hx131_2
         have hw131_1 := hx131_1
         have hw131_0 := hx131_0
         cases e131
         replace hx131_0 := (HB.out.cell (World.block_lt_of_cell? w _ hx131_0)).trans hx131_0
         replace hx131_1 := (HB.out.cell (World.block_lt_of_cell? w _ hx131_1)).trans hx131_1
         replace hx131_2 := (HB.out.cell (World.block_lt_of_cell? w _ hx131_2)).trans hx131_2
         replace hx131_3 := (HB.out.cell (World.block_lt_of_cell? w _ hx131_3)).trans hx131_3
         replace hx131_4 := (HB.out.cell (World.block_lt_of_cell? w _ hx131_4)).trans hx131_4
         replace hx131_5 := (HB.out.cell (World.block_lt_of_cell? w _ hx131_5)).trans hx131_5
         replace hx131_6 := (HB.out.cell (World.block_lt_of_cell? w _ hx131_6)).trans hx131_6
         replace hx131_7 := (HB.out.cell (World.block_lt_of_cell? w _ hx131_7)).trans hx131_7
         replace hx131_8 := (HB.out.cell (World.block_lt_of_cell? w _ hx131_8)).trans hx131_8
         have HR131_7 := Aside0.mk hi131_7
         have HC131_7 := Aside0.mk hl131_7
         clear hi131_7 hl131_7
         have HR131_8 := Aside0.mk hi131_8
         have HC131_8 := Aside0.mk hl131_8
         clear hi131_8 hl131_8
         replace p131 := eq_true p131
         replace q131 := eq_true q131
         refine start_ (n := 10) (S := fun w' => w'.cell? (ad130.add ((x13_1).toNat * 9)) = some (.int .i64 ((rd_T26 l0 x13_1).f0)) ∧ w'.cell? ⟨(ad130.add ((x13_1).toNat * 9)).block, (ad130.add ((x13_1).toNat * 9)).off + 1, none⟩ = some (.int .i64 ((rd_T26 l0 x13_1).f1)) ∧ w'.cell? ⟨(ad130.add ((x13_1).toNat * 9)).block, (ad130.add ((x13_1).toNat * 9)).off + 2, none⟩ = some (.int .i64 ((rd_T26 l0 x13_1).f2)) ∧ w'.cell? ⟨(ad130.add ((x13_1).toNat * 9)).block, (ad130.add ((x13_1).toNat * 9)).off + 3, none⟩ = some (.int .i64 ((rd_T26 l0 x13_1).f3)) ∧ w'.cell? ⟨(ad130.add ((x13_1).toNat * 9)).block, (ad130.add ((x13_1).toNat * 9)).off + 4, none⟩ = some (.string ((rd_T26 l0 x13_1).f4)) ∧ w'.cell? ⟨(ad130.add ((x13_1).toNat * 9)).block, (ad130.add ((x13_1).toNat * 9)).off + 5, none⟩ = some (.string ((rd_T26 l0 x13_1).f5)) ∧ w'.cell? ⟨(ad130.add ((x13_1).toNat * 9)).block, (ad130.add ((x13_1).toNat * 9)).off + 6, none⟩ = some (.bool ((rd_T26 l0 x13_1).f6)) ∧ w'.cell? ⟨(ad130.add ((x13_1).toNat * 9)).block, (ad130.add ((x13_1).toNat * 9)).off + 7, none⟩ = some (.slice A130_7 ((rd_T26 l0 x13_1).f7).length c130_7) ∧ w'.cell? ⟨(ad130.add ((x13_1).toNat * 9)).block, (ad130.add ((x13_1).toNat * 9)).off + 8, none⟩ = some (.slice A130_8 ((rd_T26 l0 x13_1).f8).length c130_8) ∧ w'.cell? (ad131.add ((x13_1).toNat * 9)) = some (.int .i64 ((rd_T26 l1 x13_1).f0)) ∧ w'.cell? ⟨(ad131.add ((x13_1).toNat * 9)).block, (ad131.add ((x13_1).toNat * 9)).off + 1, none⟩ = some (.int .i64 ((rd_T26 l1 x13_1).f1)) ∧ w'.cell? ⟨(ad131.add ((x13_1).toNat * 9)).block, (ad131.add ((x13_1).toNat * 9)).off + 2, none⟩ = some (.int .i64 ((rd_T26 l1 x13_1).f2)) ∧ w'.cell? ⟨(ad131.add ((x13_1).toNat * 9)).block, (ad131.add ((x13_1).toNat * 9)).off + 3, none⟩ = some (.int .i64 ((rd_T26 l1 x13_1).f3)) ∧ w'.cell? ⟨(ad131.add ((x13_1).toNat * 9)).block, (ad131.add ((x13_1).toNat * 9)).off + 4, none⟩ = some (.string ((rd_T26 l1 x13_1).f4)) ∧ w'.cell? ⟨(ad131.add ((x13_1).toNat * 9)).block, (ad131.add ((x13_1).toNat * 9)).off + 5, none⟩ = some (.string ((rd_T26 l1 x13_1).f5)) ∧ w'.cell? ⟨(ad131.add ((x13_1).toNat * 9)).block, (ad131.add ((x13_1).toNat * 9)).off + 6, none⟩ = some (.bool ((rd_T26 l1 x13_1).f6)) ∧ w'.cell? ⟨(ad131.add ((x13_1).toNat * 9)).block, (ad131.add ((x13_1).toNat * 9)).off + 7, none⟩ = some (.slice A131_7 ((rd_T26 l1 x13_1).f7).length c131_7) ∧ w'.cell? ⟨(ad131.add ((x13_1).toNat * 9)).block, (ad131.add ((x13_1).toNat * 9)).off + 8, none⟩ = some (.slice A131_8 ((rd_T26 l1 x13_1).f8).length c131_8)) (ds := []) #[false, false, false, false, false, false, false, false, false, false] (by kernel_rfl) rfl rfl ⟨((HB.out.cell (World.block_lt_of_cell? w _ hw130_0)).trans hw130_0), ((HB.out.cell (World.block_lt_of_cell? w _ hw130_1)).trans hw130_1), ((HB.out.cell (World.block_lt_of_cell? w _ hw130_2)).trans hw130_2), ((HB.out.cell (World.block_lt_of_cell? w _ hw130_3)).trans hw130_3), ((HB.out.cell (World.block_lt_of_cell? w _ hw130_4)).trans hw130_4), ((HB.out.cell (World.block_lt_of_cell? w _ hw130_5)).trans hw130_5), ((HB.out.cell (World.block_lt_of_cell? w _ hw130_6)).trans hw130_6), ((HB.out.cell (World.block_lt_of_cell? w _ hw130_7)).trans hw130_7), ((HB.out.cell (World.block_lt_of_cell? w _ hw130_8)).trans hw130_8), ((HB.out.cell (World.block_lt_of_cell? w _ hw131_0)).trans hw131_0), ((HB.out.cell (World.block_lt_of_cell? w _ hw131_1)).trans hw131_1), ((HB.out.cell (World.block_lt_of_cell? w _ hw131_2)).trans hw131_2), ((HB.out.cell (World.block_lt_of_cell? w _ hw131_3)).trans hw131_3), ((HB.out.cell (World.block_lt_of_cell? w _ hw131_4)).trans hw131_4), ((HB.out.cell (World.block_lt_of_cell? w _ hw131_5)).trans hw131_5), ((HB.out.cell (World.block_lt_of_cell? w _ hw131_6)).trans hw131_6), ((HB.out.cell (World.block_lt_of_cell? w _ hw131_7)).trans hw131_7), ((HB.out.cell (World.block_lt_of_cell? w _ hw131_8)).trans hw131_8)⟩ (fun hHeld => ?_); refine with_tabW corncriblaw12_sameRecords.tab6 corncriblaw12_sameRecords.bits6 (fun HT_ HW_ => ?_)
         generalize wr.drew = w12 at HB HR130_7 HR130_8 HR131_7 HR131_8 hx130_0 hx130_1 hx130_2 hx130_3 hx130_4 hx130_5 hx130_6 hx130_7 hx130_8 hx131_0 hx131_1 hx131_2 hx131_3 hx131_4 hx131_5 hx131_6 hx131_7 hx131_8 hHeld ⊢
         refine pure_ (i := 0) (N := some 16) (v := ?_) (a' := ?_) #[true, false, false, false, false, false, false, false, false, false] rfl rfl (any_of HT_.out (by kernel_rfl)) (fun _ _ _ h => h) (Or.inl ⟨by rfl, ?_⟩) ?_ ?_
         rotate_left
         ·intro w'
          go_simp
          with_reducible rfl
         rotate_left
         ·simp only [Act.put, List.setIfInBounds_toArray, List.set_cons_zero, List.set_cons_succ, i64_w, i32_w]
          rfl
         refine pure_ (i := 1) (N := some 17) (v := ?_) (a' := ?_) #[true, true, false, false, false, false, false, false, false, false] rfl rfl (any_of HT_.out (by kernel_rfl)) (fun _ _ _ h => h) (Or.inl ⟨by rfl, ?_⟩) ?_ ?_
         rotate_left
         ·intro w'
          go_simp
          with_reducible rfl
         rotate_left
         ·simp only [Act.put, List.setIfInBounds_toArray, List.set_cons_zero, List.set_cons_succ, i64_w, i32_w]
          rfl
         refine pure_ (i := 2) (N := some 18) (v := ?_) (a' := ?_) #[true, true, true, false, false, false, false, false, false, false] rfl rfl (any_of HT_.out (by kernel_rfl)) (fun _ _ _ h => h) (Or.inl ⟨by rfl, ?_⟩) ?_ ?_
         rotate_left
         ·intro w'
          go_simp
          with_reducible rfl
         rotate_left
         ·simp only [Act.put, List.setIfInBounds_toArray, List.set_cons_zero, List.set_cons_succ, i64_w, i32_w]
          rfl
         refine pure_ (i := 4) (N := some 20) (v := ?_) (a' := ?_) #[true, true, true, false, true, false, false, false, false, false] rfl rfl (any_of HT_.out (by kernel_rfl)) (fun _ _ _ h => h) (Or.inl ⟨by rfl, ?_⟩) ?_ ?_
         rotate_left
         ·intro w'
          go_simp
          with_reducible rfl
         rotate_left
         ·simp only [Act.put, List.setIfInBounds_toArray, List.set_cons_zero, List.set_cons_succ, i64_w, i32_w]
          rfl
         refine pure_ (i := 5) (N := some 21) (v := ?_) (a' := ?_) #[true, true, true, false, true, true, false, false, false, false] rfl rfl (any_of HT_.out (by kernel_rfl)) (fun _ _ _ h => h) (Or.inl ⟨by rfl, ?_⟩) ?_ ?_
         rotate_left
         ·intro w'
          go_simp
          with_reducible rfl
         rotate_left
         ·simp only [Act.put, List.setIfInBounds_toArray, List.set_cons_zero, List.set_cons_succ, i64_w, i32_w]
          rfl
         refine pure_ (i := 6) (N := some 22) (v := ?_) (a' := ?_) #[true, true, true, false, true, true, true, false, false, false] rfl rfl (any_of HT_.out (by kernel_rfl)) (fun _ _ _ h => h) (Or.inl ⟨by rfl, ?_⟩) ?_ ?_
         rotate_left
         ·intro w'
          go_simp
          with_reducible rfl
         rotate_left
         ·simp only [Act.put, List.setIfInBounds_toArray, List.set_cons_zero, List.set_cons_succ, i64_w, i32_w]
          rfl
         refine take_ (i := 3) (N := some 19) (v := ?_) (a' := ?_) #[true, true, true, true, true, true, true, false, false, false] rfl rfl (take_ofW HT_.out HW_.out (by kernel_rfl)) (fun _ _ _ h => h) (Or.inl ⟨by rfl, ?_⟩) hHeld ?_ ?_
         rotate_left
         ·rintro w' ⟨s0, s1, s2, s3, s4, s5, s6, s7, s8, s9, s10, s11, s12, s13, s14, s15, s16, s17⟩
          go_simp
          with_reducible rfl
         rotate_left
         ·simp only [Act.put, List.setIfInBounds_toArray, List.set_cons_zero, List.set_cons_succ, i64_w, i32_w]
          rfl
         refine take_ (i := 7) (N := some 23) (v := ?_) (a' := ?_) #[true, true, true, true, true, true, true, true, false, false] rfl rfl (take_ofW HT_.out HW_.out (by kernel_rfl)) (fun _ _ _ h => h) (Or.inl ⟨by rfl, ?_⟩) hHeld ?_ ?_
         rotate_left
         ·rintro w' ⟨s0, s1, s2, s3, s4, s5, s6, s7, s8, s9, s10, s11, s12, s13, s14, s15, s16, s17⟩
          go_simp
          with_reducible rfl
         rotate_left
         ·simp only [Act.put, List.setIfInBounds_toArray, List.set_cons_zero, List.set_cons_succ, i64_w, i32_w]
          rfl
         refine one_ (i := 8) (N := some 24) #[true, true, true, true, true, true, true, true, true, false] rfl rfl (one_of HT_.out (by kernel_rfl)) (by decide) (fun K hK => ?_)
         refine goes_ Tryz.func21 (by kernel_rfl) rfl #[.agg #[.int .i64 ((rd_T26 l0 x13_1).f0), .int .i64 ((rd_T26 l0 x13_1).f1), .int .i64 ((rd_T26 l0 x13_1).f2), .int .i64 ((rd_T26 l0 x13_1).f3), .string ((rd_T26 l0 x13_1).f4), .string ((rd_T26 l0 x13_1).f5), .bool ((rd_T26 l0 x13_1).f6), .slice A130_7 ((rd_T26 l0 x13_1).f7).length c130_7, .slice A130_8 ((rd_T26 l0 x13_1).f8).length c130_8], .agg #[.int .i64 ((rd_T26 l1 x13_1).f0), .int .i64 ((rd_T26 l1 x13_1).f1), .int .i64 ((rd_T26 l1 x13_1).f2), .int .i64 ((rd_T26 l1 x13_1).f3), .string ((rd_T26 l1 x13_1).f4), .string ((rd_T26 l1 x13_1).f5), .bool ((rd_T26 l1 x13_1).f6), .slice A131_7 ((rd_T26 l1 x13_1).f7).length c131_7, .slice A131_8 ((rd_T26 l1 x13_1).f8).length c131_8]] (by rfl) rfl rfl (by (try simp only [List.map_toArray, List.map_cons, List.map_nil]); first | done | rfl | (simp only [List.length_drop, List.length_take]; rfl)) ?_
         with_reducible refine (corncribbook_SameRecord.calls k1 ((rd_T26 l0 x13_1).f0) ((rd_T26 l0 x13_1).f1) ((rd_T26 l0 x13_1).f2) ((rd_T26 l0 x13_1).f3) ((rd_T26 l0 x13_1).f4) ((rd_T26 l0 x13_1).f5) ((rd_T26 l0 x13_1).f6) _ _ ((rd_T26 l0 x13_1).f7) _ _ ((rd_T26 l0 x13_1).f8) ((rd_T26 l1 x13_1).f0) ((rd_T26 l1 x13_1).f1) ((rd_T26 l1 x13_1).f2) ((rd_T26 l1 x13_1).f3) ((rd_T26 l1 x13_1).f4) ((rd_T26 l1 x13_1).f5) ((rd_T26 l1 x13_1).f6) _ _ ((rd_T26 l1 x13_1).f7) _ _ ((rd_T26 l1 x13_1).f8) false _ ?side1 ?side2 ?side3 ?side4 ?side5 ?side6 ?side7 ?side8 A8.out).mono ?_
         (case side1 => repeat (first | exact (Kd.C_below HR130_7.out HB.out) | (with_reducible refine Kd.C_alloc ?_ _) | (with_reducible refine Kd.C_drewN ?_ _) | (with_reducible refine Kd.C_drew ?_)))
         (case side2 => exact HC130_7.out)
         (case side3 => repeat (first | exact (Kd.C_below HR130_8.out HB.out) | (with_reducible refine Kd.C_alloc ?_ _) | (with_reducible refine Kd.C_drewN ?_ _) | (with_reducible refine Kd.C_drew ?_)))
         (case side4 => exact HC130_8.out)
         (case side5 => repeat (first | exact (Kd.C_below HR131_7.out HB.out) | (with_reducible refine Kd.C_alloc ?_ _) | (with_reducible refine Kd.C_drewN ?_ _) | (with_reducible refine Kd.C_drew ?_)))
         (case side6 => exact HC131_7.out)
         (case side7 => repeat (first | exact (Kd.C_below HR131_8.out HB.out) | (with_reducible refine Kd.C_alloc ?_ _) | (with_reducible refine Kd.C_drewN ?_ _) | (with_reducible refine Kd.C_drew ?_)))
         (case side8 => exact HC131_8.out)
         rintro e w13 ⟨rfl, hb⟩
         refine ⟨_, rfl, ?_⟩
         have n0_ := Aside0.mk (below_step (by repeat (first | (with_reducible first | exact HB.out | apply below_alloc | apply pw_below_drewN | apply below_drew1) | exact HB.out)) hb)
         clear HB
         have HB := n0_
         clear n0_
         (try clear hb)
         (try clear hb2)
         (try clear hk)
         (try clear hi)
         refine hK.out _ _ ⟨((HB.out.cell (World.block_lt_of_cell? w _ hw130_0)).trans hw130_0), ((HB.out.cell (World.block_lt_of_cell? w _ hw130_1)).trans hw130_1), ((HB.out.cell (World.block_lt_of_cell? w _ hw130_2)).trans hw130_2), ((HB.out.cell (World.block_lt_of_cell? w _ hw130_3)).trans hw130_3), ((HB.out.cell (World.block_lt_of_cell? w _ hw130_4)).trans hw130_4), ((HB.out.cell (World.block_lt_of_cell? w _ hw130_5)).trans hw130_5), ((HB.out.cell (World.block_lt_of_cell? w _ hw130_6)).trans hw130_6), ((HB.out.cell (World.block_lt_of_cell? w _ hw130_7)).trans hw130_7), ((HB.out.cell (World.block_lt_of_cell? w _ hw130_8)).trans hw130_8), ((HB.out.cell (World.block_lt_of_cell? w _ hw131_0)).trans hw131_0), ((HB.out.cell (World.block_lt_of_cell? w _ hw131_1)).trans hw131_1), ((HB.out.cell (World.block_lt_of_cell? w _ hw131_2)).trans hw131_2), ((HB.out.cell (World.block_lt_of_cell? w _ hw131_3)).trans hw131_3), ((HB.out.cell (World.block_lt_of_cell? w _ hw131_4)).trans hw131_4), ((HB.out.cell (World.block_lt_of_cell? w _ hw131_5)).trans hw131_5), ((HB.out.cell (World.block_lt_of_cell? w _ hw131_6)).trans hw131_6), ((HB.out.cell (World.block_lt_of_cell? w _ hw131_7)).trans hw131_7), ((HB.out.cell (World.block_lt_of_cell? w _ hw131_8)).trans hw131_8)⟩ (fun hHeld => ?_)
         clear hK K
         refine norm_ (a' := ?_) ?_ ?_
         rotate_left
         ·show Act.put _ (some 24) _ = _
          simp only [Act.put, List.setIfInBounds_toArray, List.set_cons_zero, List.set_cons_succ, i64_w, i32_w]
          rfl
         refine pure_ (i := 9) (N := some 25) (v := ?_) (a' := ?_) #[true, true, true, true, true, true, true, true, true, true] rfl rfl (any_of HT_.out (by kernel_rfl)) (fun _ _ _ h => h) (Or.inl ⟨by rfl, ?_⟩) ?_ ?_
         rotate_left
         ·intro w'
          go_simp
          with_reducible rfl
         rotate_left
         ·simp only [Act.put, List.setIfInBounds_toArray, List.set_cons_zero, List.set_cons_succ, i64_w, i32_w]
          rfl
         refine done_ (done_of HT_.out (by kernel_rfl)) ?_
         try go_wp2
         go_ret
         exact ⟨by first | rfl | (simp [errW_none, errW_some] <;> rfl) | (simp [*, errW_none, errW_some] <;> rfl), by repeat (first | (with_reducible first | exact HB.out | apply below_alloc | apply pw_below_drewN | apply below_drew1) | exact HB.out)⟩
       ·rw [if_neg c7] at H
        exact absurd H (by simp)
      ·rw [if_neg c6] at H
       exact absurd H (by simp)
     ·rw [if_neg c5] at H
      exact absurd H (by simp)
    ·rw [if_neg c4] at H
     have c4b0 : decide (x13_1 < (l0.length : Int)) = false := decide_eq_false c4
     clear c4
     obtain rfl := Option.some.inj H
     go_wp2
     go_ret
     exact ⟨by first | rfl | (simp [errW_none, errW_some] <;> rfl) | (simp [*, errW_none, errW_some] <;> rfl), by repeat (first | (with_reducible first | exact HB.out | apply below_alloc | apply pw_below_drewN | apply below_drew1) | exact HB.out)⟩
 ·rw [if_neg c3] at H
  have c3b0 : ((l0.length : Int) == (l1.length : Int)) = false := beq_eq_false_iff_ne.mpr c3
  have c3b1 : ((l0.length : Int) != (l1.length : Int)) = true := bne_iff_ne.mpr c3
  have c3b2 : (l0.length == l1.length) = false := by first | simpa using c3 | (simp at c3 ⊢; omega)
  obtain rfl := Option.some.inj H
  go_enter Tryz.func11, Tryz.ntmps11
  go_wp2
  go_ret
  exact ⟨by first | rfl | (simp [errW_none, errW_some] <;> rfl) | (simp [*, errW_none, errW_some] <;> rfl), by repeat (first | (with_reducible first | exact HB.out | apply below_alloc | apply pw_below_drewN | apply below_drew1) | exact HB.out)⟩

end Go.Proofs.YtaldfbmjmpkmmaaGreat.PL
namespace Go.Proofs.YtaldfbmjmpkmmaaGreat.PL
open Go.RowKit Go.Proofs.YtaldfbmjmpkmmaaGreatW.PrintWords Go.Proofs.YtaldfbmjmpkmmaaGreatW.PrintLast Go.Proofs.YtaldfbmjmpkmmaaGreatW.PrintMore
attribute [local go_sem] Mk.str_leq Mk.str_gtr Mk.str_geq max2_int min2_int max_two min_two max_three min_three max_four min_four   -- for this text's walks alone
set_option linter.unusedVariables false
set_option linter.unusedSimpArgs false

/-! ### corncribbook_SameInts: function 13 -/
def corncribbook_SameInts.l0 : Nat → List Int → List Int → Int → Option (Bool)
 | 0, _, _, _ => none
 | k + 1, x0, x1, x5 => if x5 < (x0.length : Int) then (if 0 ≤ x5 then (if x5 < (x1.length : Int) then (if (rd x0 x5) = (rd x1 x5) then (corncribbook_SameInts.l0 k x0 x1 (wrap64 (x5 + 1))) else (some false)) else (none)) else (none)) else (some true)
def corncribbook_SameInts.f (k : Nat) (l0 : List Int) (l1 : List Int) : Option (Bool) := if (l0.length : Int) = (l1.length : Int) then (corncribbook_SameInts.l0 k l0 l1 0) else (some false)
theorem corncribbook_SameInts.mono_l : ∀ k, (∀ y0 y1 y2, LeO (corncribbook_SameInts.l0 k y0 y1 y2) (corncribbook_SameInts.l0 (k + 1) y0 y1 y2))
 | 0 => fun _ _ _ r h => by simp [corncribbook_SameInts.l0] at h
 | k + 1 => by
  have ih0 := corncribbook_SameInts.mono_l k
  ·intro y0 y1 y2
   unfold corncribbook_SameInts.l0
   repeat' first
   | (with_reducible exact ih0 _ _ _)
   | (with_reducible exact LeO.refl _)
   | (with_reducible exact LeO.none _)
   | (with_reducible refine LeO.ite ?_ ?_)
   | (with_reducible refine LeO.bind ?_ (fun _ => ?_))
   | exact ih0 _ _ _
   | exact LeO.none _
   | refine LeO.ite ?_ ?_
   | refine LeO.bind ?_ (fun _ => ?_)
theorem corncribbook_SameInts.mono : ∀ a0 a1 k, LeO (corncribbook_SameInts.f k a0 a1) (corncribbook_SameInts.f (k + 1) a0 a1) := by
 intro a0 a1 k
 have ih0 := corncribbook_SameInts.mono_l k
 unfold corncribbook_SameInts.f
 repeat' first
   | (with_reducible exact ih0 _ _ _)
   | (with_reducible exact LeO.refl _)
   | (with_reducible exact LeO.none _)
   | (with_reducible refine LeO.ite ?_ ?_)
   | (with_reducible refine LeO.bind ?_ (fun _ => ?_))
   | exact ih0 _ _ _
   | exact LeO.none _
   | refine LeO.ite ?_ ?_
   | refine LeO.bind ?_ (fun _ => ?_)
set_option maxHeartbeats 8000000 in
set_option maxRecDepth 100000 in
theorem corncribbook_SameInts.calls (k : Nat) (A0 : Option Addr) (c0 : Nat) (l0 : List Int) (A1 : Option Addr) (c1 : Nat) (l1 : List Int) (r : Bool) (w : World) (hr0 : Kd.C (Kd.int .i64) w A0 l0.length l0) (hc0 : l0.length ≤ c0) (hr1 : Kd.C (Kd.int .i64) w A1 l1.length l1) (hc1 : l1.length ≤ c1) (h : corncribbook_SameInts.f k l0 l1 = some r) :
  Calls Tryz.prog 13 #[.slice A0 l0.length c0, .slice A1 l1.length c1] w fun e w' => e = .returned (.bool r) ∧ Drawn0 w w' := by
 have HR0 := Aside0.mk hr0
 have HC0 := Aside0.mk hc0
 clear hr0 hc0
 have HR1 := Aside0.mk hr1
 have HC1 := Aside0.mk hc1
 clear hr1 hc1
 have H : (if (l0.length : Int) = (l1.length : Int) then (corncribbook_SameInts.l0 k l0 l1 0) else (some false)) = some r := h
 clear h
 by_cases c3 : (l0.length : Int) = (l1.length : Int)
 ·rw [if_pos c3] at H
  have c3b0 : ((l0.length : Int) == (l1.length : Int)) = true := beq_iff_eq.mpr c3
  have c3b1 : ((l0.length : Int) != (l1.length : Int)) = false := bne_eq_false_iff_eq.mpr c3
  have c3b2 : (l0.length == l1.length) = true := by first | simpa using c3 | (simp at c3 ⊢; omega)
  clear c3
  have H' := Aside0.mk H
  clear H
  go_enter Tryz.func13, Tryz.ntmps13
  go_wp2
  repeat (go_quiet (fail); try go_wp2)
  go_loopg [5] k (fun kq v5 w' => ∃ (x5_1 : Int), v5 = .int .i64 x5_1 ∧ Aside0 (corncribbook_SameInts.l0 kq l0 l1 x5_1 = some r) ∧ Aside0 (kq ≤ k) ∧ Drawn0 w w')
  case atStart => exact ⟨(0), (by first | rfl | (simp; done) | (simp [*]; done)), H', ⟨Nat.le_refl _⟩, by repeat (first | exact Drawn0.refl _ | apply Drawn0.step)⟩
  case round =>
   clear H'
   try clear c1
   try clear p2
   try clear c3
   try clear c3b0
   try clear c3b1
   try clear c3b2
   obtain ⟨x5_1, rfl, HA, HK1, ⟨m1, rfl⟩⟩ := hrel
   cases gk with
   | zero => exact absurd HA.out (by simp [corncribbook_SameInts.l0])
   | succ k1 =>
    have H := HA.out
    clear HA
    simp only [corncribbook_SameInts.l0] at H
    by_cases c4 : x5_1 < (l0.length : Int)
    ·rw [if_pos c4] at H
     have c4b0 : decide (x5_1 < (l0.length : Int)) = true := decide_eq_true c4
     clear c4
     by_cases c5 : 0 ≤ x5_1
     ·rw [if_pos c5] at H
      have c5b0 : decide (0 ≤ x5_1) = true := decide_eq_true c5
      clear c5
      by_cases c6 : x5_1 < (l1.length : Int)
      ·rw [if_pos c6] at H
       have c6b0 : decide (x5_1 < (l1.length : Int)) = true := decide_eq_true c6
       clear c6
       by_cases c7 : (rd l0 x5_1) = (rd l1 x5_1)
       ·rw [if_pos c7] at H
        have c7b0 : ((rd l0 x5_1) == (rd l1 x5_1)) = true := beq_iff_eq.mpr c7
        have c7b1 : ((rd l0 x5_1) != (rd l1 x5_1)) = false := bne_eq_false_iff_eq.mpr c7
        clear c7
        have H' := Aside0.mk H
        clear H
        have p128 : 0 ≤ (x5_1 : Int) := of_decide_eq_true (by first | (with_reducible assumption) | assumption)
        have q128 : x5_1 < (l0.length : Int) := of_decide_eq_true (by first | (with_reducible assumption) | assumption)
        obtain ⟨ad128, e128, hx128_0⟩ := Kd.at_int HR0.out x5_1 p128 q128
        cases e128
        replace p128 := eq_true p128
        replace q128 := eq_true q128
        have p129 : 0 ≤ (x5_1 : Int) := of_decide_eq_true (by first | (with_reducible assumption) | assumption)
        have q129 : x5_1 < (l1.length : Int) := of_decide_eq_true (by first | (with_reducible assumption) | assumption)
        obtain ⟨ad129, e129, hx129_0⟩ := Kd.at_int HR1.out x5_1 p129 q129
        cases e129
        replace p129 := eq_true p129
        replace q129 := eq_true q129
        go_wp2
        repeat (go_quiet (fail); try go_wp2)
        go_roundg k1
        case measure => have := HK1.out; omega
        case rel => exact ⟨(wrap64 (x5_1 + 1)), (by first | rfl | (simp; done) | (simp [*]; done)), H', ⟨by have := HK1.out; omega⟩, by repeat (first | exact Drawn0.refl _ | apply Drawn0.step)⟩
       ·rw [if_neg c7] at H
        have c7b0 : ((rd l0 x5_1) == (rd l1 x5_1)) = false := beq_eq_false_iff_ne.mpr c7
        have c7b1 : ((rd l0 x5_1) != (rd l1 x5_1)) = true := bne_iff_ne.mpr c7
        obtain rfl := Option.some.inj H
        have p128 : 0 ≤ (x5_1 : Int) := of_decide_eq_true (by first | (with_reducible assumption) | assumption)
        have q128 : x5_1 < (l0.length : Int) := of_decide_eq_true (by first | (with_reducible assumption) | assumption)
        obtain ⟨ad128, e128, hx128_0⟩ := Kd.at_int HR0.out x5_1 p128 q128
        cases e128
        replace p128 := eq_true p128
        replace q128 := eq_true q128
        have p129 : 0 ≤ (x5_1 : Int) := of_decide_eq_true (by first | (with_reducible assumption) | assumption)
        have q129 : x5_1 < (l1.length : Int) := of_decide_eq_true (by first | (with_reducible assumption) | assumption)
        obtain ⟨ad129, e129, hx129_0⟩ := Kd.at_int HR1.out x5_1 p129 q129
        cases e129
        replace p129 := eq_true p129
        replace q129 := eq_true q129
        go_wp2
        repeat (go_quiet (fail); try go_wp2)
        go_ret
        exact ⟨by first | rfl | (simp; done) | (simp [*]; done), by repeat (first | exact Drawn0.refl _ | apply Drawn0.step)⟩
      ·rw [if_neg c6] at H
       exact absurd H (by simp)
     ·rw [if_neg c5] at H
      exact absurd H (by simp)
    ·rw [if_neg c4] at H
     have c4b0 : decide (x5_1 < (l0.length : Int)) = false := decide_eq_false c4
     clear c4
     obtain rfl := Option.some.inj H
     go_wp2
     repeat (go_quiet (fail); try go_wp2)
     go_ret
     exact ⟨by first | rfl | (simp; done) | (simp [*]; done), by repeat (first | exact Drawn0.refl _ | apply Drawn0.step)⟩
 ·rw [if_neg c3] at H
  have c3b0 : ((l0.length : Int) == (l1.length : Int)) = false := beq_eq_false_iff_ne.mpr c3
  have c3b1 : ((l0.length : Int) != (l1.length : Int)) = true := bne_iff_ne.mpr c3
  have c3b2 : (l0.length == l1.length) = false := by first | simpa using c3 | (simp at c3 ⊢; omega)
  obtain rfl := Option.some.inj H
  go_enter Tryz.func13, Tryz.ntmps13
  go_wp2
  repeat (go_quiet (fail); try go_wp2)
  go_ret
  exact ⟨by first | rfl | (simp; done) | (simp [*]; done), by repeat (first | exact Drawn0.refl _ | apply Drawn0.step)⟩

end Go.Proofs.YtaldfbmjmpkmmaaGreat.PL
namespace Go.Proofs.YtaldfbmjmpkmmaaGreat.PL
open Go.RowKit Go.Proofs.YtaldfbmjmpkmmaaGreatW.PrintWords Go.Proofs.YtaldfbmjmpkmmaaGreatW.PrintLast Go.Proofs.YtaldfbmjmpkmmaaGreatW.PrintMore
set_option linter.unusedVariables false
/-- With rounds enough it is v. -/
def Ev {α : Type} (F : Nat → Option α) (v : α) : Prop := ∃ K, ∀ k, K ≤ k → F k = some v
theorem pred_of {K k : Nat} (h : K + 1 ≤ k) : ∃ m, k = m + 1 ∧ K ≤ m := ⟨k - 1, by omega, by omega⟩

theorem w64n (i n : Nat) (h : i < n) (hn : n ≤ 9223372036854775807) : wrap64 ((i : Int) + 1) = ((i + 1 : Nat) : Int) := by rw [w64 _ (by omega) (by omega)]; omega

theorem sameInts_from (a b : List Int) (hl : a.length = b.length) (hm : a.length ≤ 9223372036854775807) (d : Nat) : ∀ i, i + d = a.length → Ev (fun k => corncribbook_SameInts.l0 k a b (i : Int)) (decide (a.drop i = b.drop i)) := by
  induction d with
  | zero =>
    intro i hd
    refine ⟨1, fun k hk => ?_⟩
    obtain ⟨m, rfl, hm⟩ := pred_of (K := 0) hk
    show corncribbook_SameInts.l0 (m + 1) a b (i : Int) = _
    simp only [corncribbook_SameInts.l0]
    rw [if_neg (by omega), List.drop_of_length_le (by omega), List.drop_of_length_le (by omega)]
    rfl
  | succ d ih =>
    intro i hd
    obtain ⟨K, hK⟩ := ih (i + 1) (by omega)
    refine ⟨K + 1, fun k hk => ?_⟩
    obtain ⟨m, rfl, hm'⟩ := pred_of hk
    have ha : i < a.length := by omega
    have hb : i < b.length := by omega
    show corncribbook_SameInts.l0 (m + 1) a b (i : Int) = _
    simp only [corncribbook_SameInts.l0]
    have ra : rd a (i : Int) = a[i] := by unfold rd; simp [List.getElem?_eq_getElem ha]
    have rb : rd b (i : Int) = b[i] := by unfold rd; simp [List.getElem?_eq_getElem hb]
    rw [if_pos (by omega), if_pos (by omega), if_pos (by omega), ra, rb, List.drop_eq_getElem_cons ha, List.drop_eq_getElem_cons hb, w64n i _ ha hm]
    by_cases e : a[i] = b[i]
    · rw [if_pos e]
      refine (hK m hm').trans ?_
      simp only [List.cons.injEq, e, true_and]
    · rw [if_neg e]
      simp only [List.cons.injEq, e, false_and, decide_false]
theorem sameInts_f (a b : List Int) (hm : a.length ≤ 9223372036854775807) : Ev (fun k => corncribbook_SameInts.f k a b) (decide (a = b)) := by
  by_cases h : a.length = b.length
  · obtain ⟨K, hK⟩ := sameInts_from a b h hm a.length 0 (by omega)
    refine ⟨K, fun k hk => ?_⟩
    show corncribbook_SameInts.f k a b = _
    unfold corncribbook_SameInts.f
    rw [if_pos (by omega)]
    exact hK k hk
  · refine ⟨0, fun k _ => ?_⟩
    show corncribbook_SameInts.f k a b = _
    unfold corncribbook_SameInts.f
    rw [if_neg (by omega)]
    have : a ≠ b := fun e => h (by rw [e])
    simp [this]
/-- A record is the same as itself. -/
theorem sameTexts_from (a : List ByteArray) (hm : a.length ≤ 9223372036854775807) (d : Nat) : ∀ i, i + d = a.length → Ev (fun k => corncribbook_SameTexts.l0 k a a (i : Int)) true := by
  induction d with
  | zero =>
    intro i hd
    refine ⟨1, fun k hk => ?_⟩
    obtain ⟨m, rfl, hm⟩ := pred_of (K := 0) hk
    show corncribbook_SameTexts.l0 (m + 1) a a (i : Int) = _
    simp only [corncribbook_SameTexts.l0]
    rw [if_neg (by omega)]
  | succ d ih =>
    intro i hd
    obtain ⟨K, hK⟩ := ih (i + 1) (by omega)
    refine ⟨K + 1, fun k hk => ?_⟩
    obtain ⟨m, rfl, hm'⟩ := pred_of hk
    have ha : i < a.length := by omega
    show corncribbook_SameTexts.l0 (m + 1) a a (i : Int) = _
    simp only [corncribbook_SameTexts.l0]
    rw [if_pos (by omega), if_pos (by omega), if_pos (by omega), if_pos trivial, w64n i _ ha hm]
    exact hK m hm'
theorem sameTexts_f (a : List ByteArray) (hm : a.length ≤ 9223372036854775807) : Ev (fun k => corncribbook_SameTexts.f k a a) true := by
  obtain ⟨K, hK⟩ := sameTexts_from a hm a.length 0 (by omega)
  refine ⟨K, fun k hk => ?_⟩
  show corncribbook_SameTexts.f k a a = _
  unfold corncribbook_SameTexts.f
  rw [if_pos rfl]
  exact hK k hk
theorem sameWrites_from (a : List S57) (hm : a.length ≤ 9223372036854775807) (d : Nat) : ∀ i, i + d = a.length → Ev (fun k => corncribbook_SameWrites.l0 k a a (i : Int)) true := by
  induction d with
  | zero =>
    intro i hd
    refine ⟨1, fun k hk => ?_⟩
    obtain ⟨m, rfl, hm⟩ := pred_of (K := 0) hk
    show corncribbook_SameWrites.l0 (m + 1) a a (i : Int) = _
    simp only [corncribbook_SameWrites.l0]
    rw [if_neg (by omega)]
  | succ d ih =>
    intro i hd
    obtain ⟨K, hK⟩ := ih (i + 1) (by omega)
    refine ⟨K + 1, fun k hk => ?_⟩
    obtain ⟨m, rfl, hm'⟩ := pred_of hk
    have ha : i < a.length := by omega
    show corncribbook_SameWrites.l0 (m + 1) a a (i : Int) = _
    simp only [corncribbook_SameWrites.l0]
    rw [if_pos (by omega), if_pos (by omega), if_pos (by omega), if_neg (by simp), w64n i _ ha hm]
    exact hK m hm'
theorem sameWrites_f (a : List S57) (hm : a.length ≤ 9223372036854775807) : Ev (fun k => corncribbook_SameWrites.f k a a) true := by
  obtain ⟨K, hK⟩ := sameWrites_from a hm a.length 0 (by omega)
  refine ⟨K, fun k hk => ?_⟩
  show corncribbook_SameWrites.f k a a = _
  unfold corncribbook_SameWrites.f
  rw [if_pos rfl]
  exact hK k hk
theorem sameRecord_f (r : Rec) (h : sizesOk r) : Ev (fun k => corncribbook_SameRecord.f k r.f0 r.f1 r.f2 r.f3 r.f4 r.f5 r.f6 r.f7 r.f8 r.f0 r.f1 r.f2 r.f3 r.f4 r.f5 r.f6 r.f7 r.f8) true := by
  obtain ⟨K1, h1⟩ := sameTexts_f r.f7 (by have := h.1; omega)
  obtain ⟨K2, h2⟩ := sameWrites_f r.f8 (by have := h.2; omega)
  refine ⟨K1 + K2, fun k hk => ?_⟩
  show corncribbook_SameRecord.f k r.f0 r.f1 r.f2 r.f3 r.f4 r.f5 r.f6 r.f7 r.f8 r.f0 r.f1 r.f2 r.f3 r.f4 r.f5 r.f6 r.f7 r.f8 = _
  unfold corncribbook_SameRecord.f
  have e1 := h1 k (by omega)
  have e2 := h2 k (by omega)
  simp only at e1 e2
  rw [if_pos rfl, if_pos rfl, if_pos rfl, if_pos rfl, if_pos rfl, if_pos rfl, if_pos (by simp), e1, Option.bind_some, if_pos rfl, e2]
  rfl
theorem rdR_nat (l : List Rec) (i : Nat) (h : i < l.length) : rd_T26 l (i : Int) = l[i] := by
  unfold rd_T26
  rw [Int.toNat_natCast, List.getD_eq_getElem?_getD, List.getElem?_eq_getElem h]
  rfl
theorem sameRecords_from (l : List Rec) (hm : l.length ≤ 9223372036854775807) (hs : ∀ r, r ∈ l → sizesOk r) (d : Nat) : ∀ i, i + d = l.length → Ev (fun k => corncriblaw12_sameRecords.l0 k l l (l.length : Int) (i : Int)) true := by
  induction d with
  | zero =>
    intro i hd
    refine ⟨1, fun k hk => ?_⟩
    obtain ⟨m, rfl, hm⟩ := pred_of (K := 0) hk
    show corncriblaw12_sameRecords.l0 (m + 1) l l (l.length : Int) (i : Int) = _
    simp only [corncriblaw12_sameRecords.l0]
    rw [if_neg (by omega)]
  | succ d ih =>
    intro i hd
    have ha : i < l.length := by omega
    obtain ⟨K, hK⟩ := ih (i + 1) (by omega)
    obtain ⟨K2, hK2⟩ := sameRecord_f l[i] (hs _ (List.getElem_mem ha))
    refine ⟨K + K2 + 1, fun k hk => ?_⟩
    obtain ⟨m, rfl, hm'⟩ := pred_of hk
    show corncriblaw12_sameRecords.l0 (m + 1) l l (l.length : Int) (i : Int) = _
    simp only [corncriblaw12_sameRecords.l0]
    have e := hK2 m (by omega)
    simp only at e
    rw [if_pos (by omega), if_pos (by omega), if_pos (by omega), if_pos (by omega), rdR_nat l i ha, e, Option.bind_some, if_pos rfl, w64n i _ ha hm]
    exact hK m (by omega)
theorem sameRecords_f (l : List Rec) (hm : l.length ≤ 9223372036854775807) (hs : ∀ r, r ∈ l → sizesOk r) : Ev (fun k => corncriblaw12_sameRecords.f k l l) true := by
  obtain ⟨K, hK⟩ := sameRecords_from l hm hs l.length 0 (by omega)
  refine ⟨K, fun k hk => ?_⟩
  show corncriblaw12_sameRecords.f k l l = _
  unfold corncriblaw12_sameRecords.f
  rw [if_pos rfl]
  exact hK k hk
theorem same_walk (w : World) (A B : Option Addr) (c d : Nat) (l : List Rec) (ha : Kd.C k26 w A l.length l) (hc : l.length ≤ c) (hb : Kd.C k26 w B l.length l) (hd : l.length ≤ d) (hs : ∀ r, r ∈ l → sizesOk r) :
    Calls Tryz.prog 11 #[.slice A l.length c, .slice B l.length d] w fun e w' => e = .returned (.bool true) ∧ Below w.heap.size w w' := by
  obtain ⟨K, hK⟩ := sameRecords_f l (Kd.C_max ha) hs
  exact corncriblaw12_sameRecords.calls K A c l B d l true w ha hc hb hd (hK K (Nat.le_refl _))
theorem sameInts_walk (w : World) (A B : Option Addr) (c d : Nat) (l : List Int) (ha : Kd.C (Kd.int .i64) w A l.length l) (hc : l.length ≤ c) (hb : Kd.C (Kd.int .i64) w B l.length l) (hd : l.length ≤ d) :
    Calls Tryz.prog 13 #[.slice A l.length c, .slice B l.length d] w fun e w' => e = .returned (.bool true) ∧ Below w.heap.size w w' := by
  obtain ⟨K, hK⟩ := sameInts_f l l (Kd.C_max ha)
  have := hK K (Nat.le_refl _)
  simp only [decide_true] at this
  refine (corncribbook_SameInts.calls K A c l B d l true w ha hc hb hd this).mono ?_
  rintro e w' ⟨h1, h2⟩
  refine ⟨h1, ?_⟩
  obtain ⟨n, rfl⟩ := h2
  exact pw_below_drewN (Below.refl _ _) n
end Go.Proofs.YtaldfbmjmpkmmaaGreat.PL
