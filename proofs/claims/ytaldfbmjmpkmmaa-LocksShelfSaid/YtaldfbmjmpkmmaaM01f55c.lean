/- Texts of this proof, one behind the other (merged by a program of this session). -/
import Derived.Test.YtaldfbmjmpkmmaaHShW
import Derived.Shelf.SlGeneric
import Derived.Sort.KeysCollected
import Derived.Sort.Walk0
import Derived.Shelf.SlIter.Nil
import Derived.Shelf.SlIterI.Nil
import Derived.Shelf.SortM.Plain
import Derived.Shelf.SortM.SortNone
import Derived.Ground.GgzProg
import Derived.Ground.SlgmProg
import Derived.Test.YtaldfbmjmpkmmaaProg
import Derived.Test.YtaldfbmjmpkmmaaMc5f0ce
import Derived.Test.YtaldfbmjmpkmmaaM76d209
import Derived.Test.YtaldfbmjmpkmmaaMdce0c3
namespace Go.Proofs.Ytaldfbmjmpkmmaa.PL
open Go.RowKit Go.Proofs.YtaldfbmjmpkmmaaW.PrintWords Go.Proofs.YtaldfbmjmpkmmaaW.PrintLast Go.Proofs.YtaldfbmjmpkmmaaW.PrintMore Go.Shelf Go.Maps Go.WideMaps Go.Proofs.Ytaldfbmjmpkmmaa.Mk
set_option linter.unusedVariables false
set_option linter.unusedSimpArgs false
set_option linter.unusedSectionVars false
def ex1 : Rec := ⟨1, 5, 0, 0, ⟨#[]⟩, ⟨#[]⟩, false, [], [⟨⟨#[107]⟩, ⟨#[120]⟩, false⟩]⟩
def ex2 : Rec := ⟨2, 5, 9, 0, ⟨#[]⟩, ⟨#[]⟩, false, [], []⟩
theorem ex_ok1 : applyV sh0 ex1 = (0, ⟨[], [ex1], [], 0⟩) := by kernel_rfl
theorem ex_ok2 : applyV ⟨[], [ex1], [], 0⟩ ex2 = (0, ⟨[([107], [⟨9, ⟨#[120]⟩, false⟩])], [], [(5, 9)], 0⟩) := by kernel_rfl
theorem ex_read1 : readV ⟨[], [ex1], [], 0⟩ (kb ⟨#[107]⟩) 9 = (3, zVer) := by kernel_rfl
theorem ex_read2 : readV ⟨[([107], [⟨9, ⟨#[120]⟩, false⟩])], [], [(5, 9)], 0⟩ (kb ⟨#[107]⟩) 9 = (1, ⟨9, ⟨#[120]⟩, false⟩) := by kernel_rfl
theorem ex_read3 : readV ⟨[([107], [⟨9, ⟨#[120]⟩, false⟩])], [], [(5, 9)], 0⟩ (kb ⟨#[107]⟩) 8 = (0, zVer) := by kernel_rfl
theorem ex_state : stateV ⟨[([107], [⟨9, ⟨#[120]⟩, false⟩])], [], [(5, 9)], 0⟩ 5 = (2, 9) := by kernel_rfl
theorem C_one {α : Type} {d : Kd α} {g : Nat} {e : TypeId} {w : World} {cs : List Value} {x : α} (hb : w.heap[g]? = some (.cells cs.toArray e (0, 0))) (hK : d.K w x cs) : Kd.C d w (some ⟨g, 0, none⟩) 1 [x] := by
  refine ⟨rfl, by decide, fun _ => ⟨⟨g, 0, none⟩, rfl, fun j p hj => ?_⟩⟩
  cases j with
  | succ j => simp at hj
  | zero =>
    simp at hj
    subst hj
    refine ⟨cs, d.K_len hK, hK, fun i u hu => ?_⟩
    have e : ∀ j : Nat, (⟨g, 0, none⟩ : Addr).add j = ⟨g, j, none⟩ := fun j => by unfold Addr.add; split <;> simp_all
    rw [e, Nat.zero_mul, Nat.zero_add, blk_cell hb i]
    simpa using hu
set_option maxRecDepth 100000 in
set_option maxHeartbeats 4000000 in
theorem works_walk (w : World) : Calls Try.prog 11 #[] w fun e w' => e = .returned (.bool true) ∧ Below w.heap.size w w' := by
  have HNW := Aside0.mk (new_walk w)
  go_enter Try.func11, Try.ntmps11
  go_wp2_with fail
  refine HNW.out.mono ?_
  rintro e w1 ⟨b, rfl, hs1, hb1⟩
  obtain ⟨w2, hw2⟩ : ∃ w2, w2 = w1.alloc (.cells #[.string ⟨#[107]⟩, .string ⟨#[120]⟩, .bool false] 56) := ⟨_, rfl⟩
  have hb2 : Below w1.heap.size w1 w2 := by rw [hw2]; exact below_alloc (Below.refl _ _) _
  have hx2 : w2.heap[w1.heap.size]? = some (.cells #[.string ⟨#[107]⟩, .string ⟨#[120]⟩, .bool false] 56 (0, 0)) := by rw [hw2]; exact blk_new _ _
  have hK : k35.K w2 ex1 [.int .i64 1, .int .i64 5, .int .i64 0, .int .i64 0, .string ⟨#[]⟩, .string ⟨#[]⟩, .bool false, .slice none 0 0, .slice (some ⟨w1.heap.size, 0, none⟩) 1 1] :=
    k35_mk w2 ex1 (A7 := none) (c7 := 0) (Nat.le_refl _) (Kd.C_nil _ _) (A8 := some ⟨w1.heap.size, 0, none⟩) (c8 := 1) (Nat.le_refl _) (C_one (cs := [.string ⟨#[107]⟩, .string ⟨#[120]⟩, .bool false]) hx2 (k56_mk w2 ⟨⟨#[107]⟩, ⟨#[120]⟩, false⟩))
  have hap := apply_walk (hs1.below hb2) (by simp [sh0]) (fun g hg => Nat.le_trans (hb1.trans (hb2.mono hb1.size)).size hg) (by decide) ex1 _ hK (by simp [sizesOk, ex1])
  rw [ex_ok1] at hap
  have HAP := Aside0.mk hap
  have HW2 := Aside0.mk hw2
  have HB2 : Aside0 (Below w.heap.size w w2) := ⟨hb1.trans (hb2.mono hb1.size)⟩
  clear hs1 hb1 hb2 hx2 hK hap hw2 HNW
  go_wp2_with fail
  rw [← HW2.out]
  refine HAP.out.mono ?_
  rintro e w3 ⟨rfl, hs3, hc3⟩
  have HB3 : Aside0 (Below w.heap.size w w3) := ⟨hc3.below HB2.out HB2.out.size (fun g hg => hg)⟩
  have hrd := read_walk hs3 ⟨#[107]⟩ (by decide) 9
  rw [ex_read1] at hrd
  have HRD := Aside0.mk hrd
  have HS3 := Aside0.mk hs3
  clear hs3 hc3 hrd HAP
  go_wp2_with fail
  refine HRD.out.mono ?_
  rintro e w4 ⟨rfl, hb4⟩
  have HB4 : Aside0 (Below w.heap.size w w4) := ⟨HB3.out.trans (hb4.mono HB3.out.size)⟩
  have HS4 := Aside0.mk (HS3.out.below hb4)
  clear hb4 HRD HS3
  obtain ⟨w5, hw5⟩ : ∃ w5, w5 = w4.alloc (.cells #[.int .i64 0, .string ⟨#[]⟩, .bool false] 29) := ⟨_, rfl⟩
  have hb5 : Below w4.heap.size w4 w5 := by rw [hw5]; exact below_alloc (Below.refl _ _) _
  have HB5 : Aside0 (Below w.heap.size w w5) := ⟨HB4.out.trans (hb5.mono HB4.out.size)⟩
  have hap := apply_walk (HS4.out.below hb5) (by simp) (fun g hg => Nat.le_trans HB5.out.size hg) (by decide) ex2 _ (k35_mk w5 ex2 (A7 := none) (c7 := 0) (Nat.le_refl _) (Kd.C_nil _ _) (A8 := none) (c8 := 0) (Nat.le_refl _) (Kd.C_nil _ _)) (by simp [sizesOk, ex2])
  rw [ex_ok2] at hap
  have HAP := Aside0.mk hap
  have HW5 := Aside0.mk hw5
  clear hb5 hap hw5 HS4
  have hz : zVer = (⟨0, ⟨#[]⟩, false⟩ : Ver) := rfl
  go_wp2_with fail
  rw [← HW5.out]
  refine HAP.out.mono ?_
  rintro e w6 ⟨rfl, hs6, hc6⟩
  have HB6 : Aside0 (Below w.heap.size w w6) := ⟨hc6.below HB5.out HB5.out.size (fun g hg => hg)⟩
  have hrd := read_walk hs6 ⟨#[107]⟩ (by decide) 9
  rw [ex_read2] at hrd
  have HRD := Aside0.mk hrd
  have HS6 := Aside0.mk hs6
  clear hs6 hc6 hrd HAP
  go_wp2_with fail
  refine HRD.out.mono ?_
  rintro e w7 ⟨rfl, hb7⟩
  have HB7 : Aside0 (Below w.heap.size w w7) := ⟨HB6.out.trans (hb7.mono HB6.out.size)⟩
  have HS7 := Aside0.mk (HS6.out.below hb7)
  clear hb7 HRD HS6
  obtain ⟨w8, hw8⟩ : ∃ w8, w8 = w7.alloc (.cells #[.int .i64 9, .string ⟨#[120]⟩, .bool false] 29) := ⟨_, rfl⟩
  have hb8 : Below w7.heap.size w7 w8 := by rw [hw8]; exact below_alloc (Below.refl _ _) _
  have hx8 : w8.heap[w7.heap.size]? = some (.cells #[.int .i64 9, .string ⟨#[120]⟩, .bool false] 29 (0, 0)) := by rw [hw8]; exact blk_new _ _
  have HB8 : Aside0 (Below w.heap.size w w8) := ⟨HB7.out.trans (hb8.mono HB7.out.size)⟩
  have hrd := read_walk (HS7.out.below hb8) ⟨#[107]⟩ (by decide) 8
  rw [ex_read3] at hrd
  have HRD := Aside0.mk hrd
  have HS8 := Aside0.mk (HS7.out.below hb8)
  have HX8 := Aside0.mk hx8
  have HW8 := Aside0.mk hw8
  clear hb8 hx8 hw8 hrd HS7
  go_wp2_with fail
  rw [← HW8.out]
  refine HRD.out.mono ?_
  rintro e w9 ⟨rfl, hb9⟩
  have HB9 : Aside0 (Below w.heap.size w w9) := ⟨HB8.out.trans (hb9.mono HB8.out.size)⟩
  have HX9 := Aside0.mk (blk_below HX8.out hb9)
  have HS9 := Aside0.mk (HS8.out.below hb9)
  clear hb9 HRD HS8
  obtain ⟨w10, hw10⟩ : ∃ w10, w10 = w9.alloc (.cells #[.int .i64 0, .string ⟨#[]⟩, .bool false] 29) := ⟨_, rfl⟩
  have hb10 : Below w9.heap.size w9 w10 := by rw [hw10]; exact below_alloc (Below.refl _ _) _
  have HB10 : Aside0 (Below w.heap.size w w10) := ⟨HB9.out.trans (hb10.mono HB9.out.size)⟩
  have HX10 := Aside0.mk (blk_below HX9.out hb10)
  have hst := state_walk (HS9.out.below hb10) 5 (by decide)
  rw [ex_state] at hst
  have HST := Aside0.mk hst
  have HW10 := Aside0.mk hw10
  clear hb10 hw10 hst HS9
  go_wp2_with fail
  rw [← HW10.out]
  refine HST.out.mono ?_
  rintro e w11 ⟨rfl, hb11⟩
  have HB11 : Aside0 (Below w.heap.size w w11) := ⟨HB10.out.trans (hb11.mono HB10.out.size)⟩
  have x1 := (blk_cell (blk_below HX10.out hb11) 1).trans rfl
  clear hb11 HST
  go_wp2_with fail
  go_ret
  exact ⟨rfl, HB11.out⟩
theorem made_take (l : List Rec) (k : Nat) (hk : k < l.length) : (l.take (k + 1)).foldl (fun s r => (applyV s r).2) sh0 = (applyV ((l.take k).foldl (fun s r => (applyV s r).2) sh0) (l[k])).2 := by
  rw [List.take_succ_eq_append_getElem hk, List.foldl_append]
  rfl
set_option maxRecDepth 100000 in
set_option maxHeartbeats 4000000 in
theorem made_walk (w : World) (A : Option Addr) (c : Nat) (l : List Rec) (hr : Kd.C k35 w A l.length l) (hs : ∀ r ∈ l, sizesOk r) :
    Calls Try.prog 10 #[.slice A l.length c] w fun e w' => ∃ b, e = .returned (.pointer (some ⟨b, 0, none⟩)) ∧ ShAt w' (fun g => w.heap.size ≤ g) b 960 (madeV l) ∧ Below w.heap.size w w' := by
  have HNW := Aside0.mk (new_walk w)
  have HR := Aside0.mk hr
  have HS := Aside0.mk hs
  have hmax := Kd.C_max hr
  have HMV : Aside0 (madeV l = (l.take 60).foldl (fun s r => (applyV s r).2) sh0) := ⟨rfl⟩
  clear hr hs
  go_enter Try.func10, Try.ntmps10
  go_wp2_with fail
  refine HNW.out.mono ?_
  rintro e w1 ⟨b, rfl, hs1, hb1⟩
  have HS1 : Aside0 (ShAt w1 (fun g => w.heap.size ≤ g) b (16 * 0) ((l.take 0).foldl (fun s r => (applyV s r).2) sh0)) := ⟨hs1⟩
  have HB1 := Aside0.mk hb1
  clear hs1 hb1 HNW
  go_wp2_with fail
  go_loopw [4] (fun i wr => ∃ k : Nat, k ≤ l.length ∧ k ≤ 60 ∧ i = .int .i64 (k : Int) ∧ Aside0 (ShAt wr (fun g => w.heap.size ≤ g) b (16 * k) ((l.take k).foldl (fun s r => (applyV s r).2) sh0)) ∧ Aside0 (Below w.heap.size w wr)) (fun i _ => l.length - (intOf i).toNat)
  case atStart => exact ⟨0, Nat.zero_le _, Nat.zero_le _, rfl, HS1, HB1⟩
  case round =>
    clear HS1 HB1
    obtain ⟨k, hk, hk6, rfl, HSH, HB⟩ := hrel
    by_cases hlt : k < l.length ∧ k < 60
    · obtain ⟨hlt, hlt6⟩ := hlt
      obtain ⟨ad, cs, rfl, hlen, hK, hc0⟩ := Kd.C_get (Kd.C_below HR.out HB.out) (⟨0, 0, 0, 0, ⟨#[]⟩, ⟨#[]⟩, false, [], []⟩ : Rec) (k : Int) (by omega) (by omega)
      rw [Int.toNat_natCast] at hK hc0
      have hget : l.getD k (⟨0, 0, 0, 0, ⟨#[]⟩, ⟨#[]⟩, false, [], []⟩ : Rec) = l[k] := by simp [List.getElem?_eq_getElem hlt]
      rw [hget] at hK
      have hmem : l[k] ∈ l := List.getElem_mem _
      have hmt := made_take l k hlt
      have hend := fold_ends (l.take k) (s := sh0) (by simp [sh0])
      generalize l[k] = r at *
      have hap := apply_walk HSH.out hend (fun g hg => Nat.le_trans HB.out.size hg) (Nat.lt_of_le_of_lt (show 16 * k + 1024 ≤ 960 + 1024 by omega) (by decide)) r cs hK (HS.out r hmem)
      obtain ⟨A7, c7, A8, c8, rfl, l7, g7, l8, g8⟩ := k35_open hK
      have hc : ∀ j u, [Value.int .i64 r.f0, .int .i64 r.f1, .int .i64 r.f2, .int .i64 r.f3, .string r.f4, .string r.f5, .bool r.f6, .slice A7 r.f7.length c7, .slice A8 r.f8.length c8][j]? = some u → wr.cell? (ad.add (k * 9 + j)) = some u := hc0
      have z0 : wr.cell? (ad.add (k * 9)) = some (.int .i64 r.f0) := hc 0 _ rfl
      have z1 : wr.cell? ⟨(ad.add (k * 9)).block, (ad.add (k * 9)).off + 1, none⟩ = some (.int .i64 r.f1) := by rw [← add_field _ _ 1 (by omega)]; exact hc 1 _ rfl
      have z2 : wr.cell? ⟨(ad.add (k * 9)).block, (ad.add (k * 9)).off + 2, none⟩ = some (.int .i64 r.f2) := by rw [← add_field _ _ 2 (by omega)]; exact hc 2 _ rfl
      have z3 : wr.cell? ⟨(ad.add (k * 9)).block, (ad.add (k * 9)).off + 3, none⟩ = some (.int .i64 r.f3) := by rw [← add_field _ _ 3 (by omega)]; exact hc 3 _ rfl
      have z4 : wr.cell? ⟨(ad.add (k * 9)).block, (ad.add (k * 9)).off + 4, none⟩ = some (.string r.f4) := by rw [← add_field _ _ 4 (by omega)]; exact hc 4 _ rfl
      have z5 : wr.cell? ⟨(ad.add (k * 9)).block, (ad.add (k * 9)).off + 5, none⟩ = some (.string r.f5) := by rw [← add_field _ _ 5 (by omega)]; exact hc 5 _ rfl
      have z6 : wr.cell? ⟨(ad.add (k * 9)).block, (ad.add (k * 9)).off + 6, none⟩ = some (.bool r.f6) := by rw [← add_field _ _ 6 (by omega)]; exact hc 6 _ rfl
      have z7 : wr.cell? ⟨(ad.add (k * 9)).block, (ad.add (k * 9)).off + 7, none⟩ = some (.slice A7 r.f7.length c7) := by rw [← add_field _ _ 7 (by omega)]; exact hc 7 _ rfl
      have z8 : wr.cell? ⟨(ad.add (k * 9)).block, (ad.add (k * 9)).off + 8, none⟩ = some (.slice A8 r.f8.length c8) := by rw [← add_field _ _ 8 (by omega)]; exact hc 8 _ rfl
      have HMT := Aside0.mk hmt
      generalize (l.take k).foldl (fun s r => (applyV s r).2) sh0 = s at *
      have HAP := Aside0.mk hap
      clear hap hc hc0 hK l7 g7 l8 g8 hend hmem hget hlen hmt
      go_wp2_with fail
      refine HAP.out.mono ?_
      rintro e w3 ⟨rfl, hs3, hc3⟩
      have HB3 : Aside0 (Below w.heap.size w w3) := ⟨hc3.below HB.out HB.out.size (fun g hg => hg)⟩
      have HS3 : Aside0 (ShAt w3 (fun g => w.heap.size ≤ g) b (16 * (k + 1)) ((l.take (k + 1)).foldl (fun s r => (applyV s r).2) sh0)) := ⟨by rw [HMT.out]; exact hs3⟩
      clear hs3 hc3 HAP HMT z0 z1 z2 z3 z4 z5 z6 z7 z8
      generalize (applyV s r).1 = rv at *
      go_wp2_with fail
      go_roundw
      case rel => exact ⟨k + 1, by omega, by omega, by go_num, HS3, HB3⟩
      case measure => simp [intOf]; omega
    · have HEND : Aside0 (ShAt wr (fun g => w.heap.size ≤ g) b 960 (madeV l)) := ⟨by
        rw [HMV.out]
        have e : l.take 60 = l.take k := by
          by_cases h6 : k = 60
          · rw [h6]
          · rw [List.take_of_length_le (show l.length ≤ 60 by omega), List.take_of_length_le (show l.length ≤ k by omega)]
        rw [e]
        exact HSH.out.mono (by omega)⟩
      by_cases h6 : k < l.length
      · have h60 : ¬ k < 60 := fun h => hlt ⟨h6, h⟩
        clear hlt
        go_wp2
        go_ret
        exact ⟨b, rfl, HEND.out, HB.out⟩
      · clear hlt
        go_wp2
        go_ret
        exact ⟨b, rfl, HEND.out, HB.out⟩
end Go.Proofs.Ytaldfbmjmpkmmaa.PL
namespace Go.Proofs.Ytaldfbmjmpkmmaa.PL
open Go.RowKit Go.Proofs.YtaldfbmjmpkmmaaW.PrintWords Go.Proofs.YtaldfbmjmpkmmaaW.PrintLast Go.Proofs.YtaldfbmjmpkmmaaW.PrintMore Go.Shelf Go.Maps Go.WideMaps Go.Proofs.Ytaldfbmjmpkmmaa.Mk
set_option linter.unusedVariables false
set_option linter.unusedSimpArgs false
set_option linter.unusedSectionVars false
theorem sizesOk_rec {r : Rec} (h : okRec r) : sizesOk r := by
  unfold okRec at h
  unfold sizesOk
  omega
theorem eqA29 (d : Nat) (w : World) (x0 y0 : Int) (x1 y1 : ByteArray) (x2 y2 : Bool) :
  (Op.equalIn (d + 2) 29 (.agg #[.int .i64 x0, .string x1, .bool x2]) (.agg #[.int .i64 y0, .string y1, .bool y2])).run Try.prog w = .ok (x0 == y0 && (x1.toList == y1.toList && (x2 == y2))) w := by
 refine eqA_of Try.underlying29 (by kernel_rfl) ?_
 refine eqf_cons (by rfl) (by go_simp; rfl) (by go_simp; rfl) (by go_simp) ?_
 refine eqf_cons (by rfl) (by go_simp; rfl) (by go_simp; rfl) (by go_simp) ?_
 exact eqf_last (by rfl) (by go_simp; rfl) (by go_simp; rfl) (by go_simp)
section
variable {ok ok' : Nat → Prop} {w w' : World} {b N : Nat} {s : Sh} {bk bp : Nat} {ve : Value} {fk fp : Lit → Option Value}
/-- A shelf's blocks are there: of them alone must be asked what is ok. -/
theorem Parts.narrow (h : Parts w ok b N s bk bp ve fk fp) (hok : ∀ g, ok g → g < w.heap.size → ok' g) : Parts w ok' b N s bk bp ve fk fp :=
  ⟨h.box, h.keys, h.preps, Kd.R_mono (Kd.R_bound h.ends) (fun k hk => hok k hk.1 hk.2.2.1), fun q v hq => by
    obtain ⟨k, h1, h2, h3⟩ := h.kf q v hq
    exact ⟨k, h1, h2, Kd.R_mono (Kd.R_bound h3) (fun k hk => hok k hk.1 hk.2.2.1)⟩, h.kt, fun q v hq => by
    obtain ⟨r, h1, h2, cs, h3, h4⟩ := h.pf q v hq
    exact ⟨r, h1, h2, cs, h3, k35.M_mono (fun k hk => hok k hk.1 hk.2.2.1) (k35.M_bound h4)⟩, h.pt, hok b h.okb (blk_lt h.box), hok bk h.okk h.keys.lt, hok bp h.okp h.preps.lt, h.ne, h.good⟩
theorem ShAt.narrow (h : ShAt w ok b N s) (hok : ∀ g, ok g → g < w.heap.size → ok' g) : ShAt w ok' b N s := by
  obtain ⟨bk, bp, ve, fk, fp, hp⟩ := h
  exact ⟨bk, bp, ve, fk, fp, hp.narrow hok⟩
/-- .. and stay where others change. -/
theorem Parts.apart (h : Parts w ok b N s bk bp ve fk fp) (hc : Chg ok' w w') (hd : ∀ g, ok g → ¬ ok' g) : Parts w' ok b N s bk bp ve fk fp :=
  have hb : ∀ g, ok g → g < w.heap.size → w'.heap[g]? = w.heap[g]? := fun g hg hl => hc.block g hl (hd g hg)
  have hm : ∀ {k n : Nat} {x : Nat} {f : Lit → Option Value}, ok x → MapL Try.prog k w x n f → MapL Try.prog k w' x n f := fun hx h => by
    have hl := h.lt
    obtain ⟨D, ⟨es, clock, h1, h2, h3, h4⟩, hh⟩ := h
    exact ⟨D, ⟨es, clock, (hb _ hx hl).trans h1, h2, h3, h4⟩, hh⟩
  ⟨(hb b h.okb (blk_lt h.box)).trans h.box, hm h.okk h.keys, hm h.okp h.preps, R_keep h.ends (fun g hg q _ cells hc => hb g hg (blk_lt hc)), fun q v hq => by
    obtain ⟨k, h1, h2, h3⟩ := h.kf q v hq
    exact ⟨k, h1, h2, R_keep h3 (fun g hg q _ cells hc => hb g hg (blk_lt hc))⟩, h.kt, fun q v hq => by
    obtain ⟨r, h1, h2, cs, h3, h4⟩ := h.pf q v hq
    exact ⟨r, h1, h2, cs, h3, M_keep h4 (fun g hg q _ cells hc => hb g hg (blk_lt hc))⟩, h.pt, h.okb, h.okk, h.okp, h.ne, h.good⟩
theorem ShAt.apart (h : ShAt w ok b N s) (hc : Chg ok' w w') (hd : ∀ g, ok g → ¬ ok' g) : ShAt w' ok b N s := by
  obtain ⟨bk, bp, ve, fk, fp, hp⟩ := h
  exact ⟨bk, bp, ve, fk, fp, hp.apart hc hd⟩
end
end Go.Proofs.Ytaldfbmjmpkmmaa.PL
namespace Go.Proofs
open Go.Shelf
def Try.keysP_ren : Go.Shelf.Ren := ⟨fun | 7 => 66 | 10 => 107 | n => n, fun | 23 => 75 | 26 => 3 | 3 => 35 | 28 => 119 | 0 => 0 | 27 => 118 | 33 => 110 | 4 => 4 | n => n, fun | n => n⟩
theorem Try.keysP : Go.Proofs.SlLaysZI.n7 Try.prog Try.keysP_ren := {
  mixed := by kernel_rfl
  f7 := ⟨Try.f66.name, by decide, Try.func66.trans (congrArg some (by kernel_rfl))⟩
  f10 := ⟨Try.f107.name, by decide, Try.func107.trans (congrArg some (by kernel_rfl))⟩
  t0 := Try.underlying0
  a0 := Try.isAgg0
  z0 := Try.sizeOf0
  v0 := Try.zeroValue0
  t4 := Try.underlying4
  a4 := Try.isAgg4
  z4 := Try.sizeOf4
  v4 := Try.zeroValue4
  t23 := Try.underlying75
  a23 := Try.isAgg75
  z23 := Try.sizeOf75
  v23 := Try.zeroValue75
  t26 := Try.underlying3
  a26 := Try.isAgg3
  z26 := Try.sizeOf3
  v26 := Try.zeroValue3
  t27 := Try.underlying118
  a27 := Try.isAgg118
  z27 := Try.sizeOf118
  v27 := Try.zeroValue118
  t28 := Try.underlying119
  a28 := Try.isAgg119
  z28 := Try.sizeOf119
  v28 := Try.zeroValue119
  t33 := Try.underlying110
  a33 := Try.isAgg110
  z33 := Try.sizeOf110
  v33 := Try.zeroValue110 }
def Try.sortedI_ren : Go.Shelf.Ren := ⟨fun | 6 => 65 | 8 => 105 | 9 => 106 | 11 => 135 | 13 => 137 | 12 => 136 | 23 => 151 | 24 => 152 | 14 => 142 | 15 => 143 | 16 => 144 | 17 => 145 | 18 => 146 | 19 => 147 | 20 => 148 | 21 => 149 | 22 => 150 | 25 => 162 | 26 => 163 | 27 => 164 | 28 => 165 | 29 => 166 | 30 => 167 | 31 => 172 | n => n, fun | 26 => 3 | 28 => 119 | 24 => 59 | 0 => 0 | 3 => 3 | 37 => 179 | 48 => 192 | 50 => 194 | 4 => 4 | 40 => 185 | 39 => 184 | 45 => 168 | 5 => 5 | 9 => 9 | 51 => 201 | 55 => 205 | 57 => 209 | 58 => 72 | 33 => 110 | n => n, fun | n => n⟩
theorem Try.sortedI : Go.Proofs.SlLaysZI.n6 Try.prog Try.sortedI_ren := {
  mixed := by kernel_rfl
  f6 := ⟨Try.f65.name, by decide, Try.func65.trans (congrArg some (by kernel_rfl))⟩
  f8 := ⟨Try.f105.name, by decide, Try.func105.trans (congrArg some (by kernel_rfl))⟩
  f11 := ⟨Try.f135.name, by decide, Try.func135.trans (congrArg some (by kernel_rfl))⟩
  t0 := Try.underlying0
  a0 := Try.isAgg0
  z0 := Try.sizeOf0
  v0 := Try.zeroValue0
  t24 := Try.underlying59
  a24 := Try.isAgg59
  z24 := Try.sizeOf59
  v24 := Try.zeroValue59
  t26 := Try.underlying3
  a26 := Try.isAgg3
  z26 := Try.sizeOf3
  v26 := Try.zeroValue3
  t28 := Try.underlying119
  a28 := Try.isAgg119
  z28 := Try.sizeOf119
  v28 := Try.zeroValue119
  i26 := by kernel_rfl }
def Try.sortI_ren : Go.Shelf.Ren := ⟨fun | 5 => 106 | 8 => 137 | 7 => 136 | 19 => 151 | 20 => 152 | 10 => 142 | 11 => 143 | 12 => 144 | 13 => 145 | 14 => 146 | 15 => 147 | 16 => 148 | 17 => 149 | 18 => 150 | 30 => 162 | 31 => 163 | 32 => 164 | 33 => 165 | 34 => 166 | 35 => 167 | 40 => 172 | n => n, fun | 23 => 59 | 25 => 3 | 3 => 3 | 32 => 179 | 22 => 59 | 0 => 0 | 44 => 192 | 46 => 194 | 4 => 4 | 36 => 185 | 35 => 184 | 41 => 168 | 5 => 5 | 9 => 9 | 53 => 201 | 57 => 205 | 63 => 209 | 64 => 72 | n => n, fun | n => n⟩
theorem Try.sortI : Go.Proofs.SlLaysM.n5 Try.prog Try.sortI_ren := {
  mixed := by kernel_rfl
  f5 := ⟨Try.f106.name, by decide, Try.func106.trans (congrArg some (by kernel_rfl))⟩
  f7 := ⟨Try.f136.name, by decide, Try.func136.trans (congrArg some (by kernel_rfl))⟩
  f8 := Try.func137.trans (congrArg some (by kernel_rfl))
  f10 := ⟨Try.f142.name, by decide, Try.func142.trans (congrArg some (by kernel_rfl))⟩
  f11 := ⟨Try.f143.name, by decide, Try.func143.trans (congrArg some (by kernel_rfl))⟩
  f12 := ⟨Try.f144.name, by decide, Try.func144.trans (congrArg some (by kernel_rfl))⟩
  f13 := ⟨Try.f145.name, by decide, Try.func145.trans (congrArg some (by kernel_rfl))⟩
  f14 := ⟨Try.f146.name, by decide, Try.func146.trans (congrArg some (by kernel_rfl))⟩
  f15 := ⟨Try.f147.name, by decide, Try.func147.trans (congrArg some (by kernel_rfl))⟩
  f16 := ⟨Try.f148.name, by decide, Try.func148.trans (congrArg some (by kernel_rfl))⟩
  f17 := ⟨Try.f149.name, by decide, Try.func149.trans (congrArg some (by kernel_rfl))⟩
  f18 := ⟨Try.f150.name, by decide, Try.func150.trans (congrArg some (by kernel_rfl))⟩
  f19 := Try.func151.trans (congrArg some (by kernel_rfl))
  f20 := Try.func152.trans (congrArg some (by kernel_rfl))
  f30 := ⟨Try.f162.name, by decide, Try.func162.trans (congrArg some (by kernel_rfl))⟩
  f31 := Try.func163.trans (congrArg some (by kernel_rfl))
  f32 := Try.func164.trans (congrArg some (by kernel_rfl))
  f33 := ⟨Try.f165.name, by decide, Try.func165.trans (congrArg some (by kernel_rfl))⟩
  f34 := ⟨Try.f166.name, by decide, Try.func166.trans (congrArg some (by kernel_rfl))⟩
  f35 := ⟨Try.f167.name, by decide, Try.func167.trans (congrArg some (by kernel_rfl))⟩
  f40 := ⟨Try.f172.name, by decide, Try.func172.trans (congrArg some (by kernel_rfl))⟩
  t0 := Try.underlying0
  a0 := Try.isAgg0
  z0 := Try.sizeOf0
  v0 := Try.zeroValue0
  t3 := Try.underlying3
  a3 := Try.isAgg3
  z3 := Try.sizeOf3
  v3 := Try.zeroValue3
  t4 := Try.underlying4
  a4 := Try.isAgg4
  z4 := Try.sizeOf4
  v4 := Try.zeroValue4
  t5 := Try.underlying5
  a5 := Try.isAgg5
  z5 := Try.sizeOf5
  v5 := Try.zeroValue5
  t9 := Try.underlying9
  a9 := Try.isAgg9
  z9 := Try.sizeOf9
  v9 := Try.zeroValue9
  t22 := Try.underlying59
  a22 := Try.isAgg59
  z22 := Try.sizeOf59
  v22 := Try.zeroValue59
  t23 := Try.underlying59
  a23 := Try.isAgg59
  z23 := Try.sizeOf59
  v23 := Try.zeroValue59
  t25 := Try.underlying3
  a25 := Try.isAgg3
  z25 := Try.sizeOf3
  v25 := Try.zeroValue3
  t32 := Try.underlying179
  a32 := Try.isAgg179
  z32 := Try.sizeOf179
  v32 := Try.zeroValue179
  t35 := Try.underlying184
  a35 := Try.isAgg184
  z35 := Try.sizeOf184
  v35 := Try.zeroValue184
  t36 := Try.underlying185
  a36 := Try.isAgg185
  z36 := Try.sizeOf185
  v36 := Try.zeroValue185
  t41 := Try.underlying168
  a41 := Try.isAgg168
  z41 := Try.sizeOf168
  v41 := Try.zeroValue168
  t44 := Try.underlying192
  a44 := Try.isAgg192
  z44 := Try.sizeOf192
  v44 := Try.zeroValue192
  t46 := Try.underlying194
  a46 := Try.isAgg194
  z46 := Try.sizeOf194
  v46 := Try.zeroValue194
  t53 := Try.underlying201
  a53 := Try.isAgg201
  z53 := Try.sizeOf201
  v53 := Try.zeroValue201
  t57 := Try.underlying205
  a57 := Try.isAgg205
  z57 := Try.sizeOf205
  v57 := Try.zeroValue205
  t63 := Try.underlying209
  a63 := Try.isAgg209
  z63 := Try.sizeOf209
  v63 := Try.zeroValue209
  t64 := Try.underlying72
  a64 := Try.isAgg72
  z64 := Try.sizeOf72
  v64 := Try.zeroValue72 }
end Go.Proofs
namespace Go.Proofs
open Go.RowKit Go.Maps Go.Sort Go.Shelf
theorem Try.sortsI (m : Nat) : AnyZI.SortsIn Try.prog Try.sortedI_ren Fence.wide m :=
  ⟨fun blk off cap ss W hH hblk hsz => callsIn_wide.2 (AnyM.slices_Sort_int Try.sortI blk off cap ss W hH hblk hsz),
   fun p cap W => callsIn_wide.2 (AnyM.slices_Sort_int_none Try.sortI p cap W)⟩
theorem Try.maps_KeysP (mb : Option Nat) (W : World) : CallsIn Fence.wide 5 Try.prog 66 #[.map mb] W fun e w' => e = .returned (.func (.func 107) #[] #[.pointer (some ⟨W.heap.size, 0, none⟩)]) ∧ w' = W.alloc (.cells #[.map mb] 75) :=
  AnyZI.keys_in Try.keysP Fence.wide 5 trivial rfl mb W
set_option maxHeartbeats 1000000 in
theorem Try.slices_Sorted_keysP {H : Type} (b nn : Nat) (D0 : DataW H) (R : Value → Option (DataW H × List MemPlace)) (w : World) (hown : w.ownsMap Try.prog 3 R b nn D0) (hmax : Maps.size D0 ≤ maxLen) (hbytes : Maps.size D0 * 8 ≤ 140737488355328) :
    CallsIn Fence.wide 5 Try.prog 65 #[.func (.func 107) #[] #[.pointer (some ⟨w.heap.size, 0, none⟩)]] (w.alloc (.cells #[.map (some b)] 75)) fun e w' => ∃ (v : Value) (ss : List Int), e = .returned v ∧ ss.Perm (intKeys D0) ∧
      w'.ownsRow (w.alloc (.cells #[.map (some b)] 75)).heap.size 3 1 v ss.length ((ss.mergeSort (fun x y => decide (x ≤ y))).map encZ) ∧ (v = .slice none 0 0 ↔ ss = []) ∧ Below (w.alloc (.cells #[.map (some b)] 75)).heap.size (w.alloc (.cells #[.map (some b)] 75)) w' := by
  have hbl := hown.lt
  have hseq : SeqGives Fence.wide 2 Try.prog 107 #[.pointer (some ⟨w.heap.size, 0, none⟩)] encZ (fun ss => ss.Perm (intKeys D0)) (Maps.size D0) (w.alloc (.cells #[.map (some b)] 75)) :=
    AnyZI.keys_gives (ρ := Try.keysP_ren) { Try.keysP with } Fence.wide _ trivial rfl (by omega) w.heap.size b nn D0 _ (by simp) (by simp) (by
      obtain ⟨es, clock, hb, Ft, hs, hD⟩ := hown
      exact ⟨es, clock, (Below.heap_alloc _ _ b hbl).trans hb, Ft, hs, hD⟩)
  exact AnyZI.sorted_in Try.sortedI Fence.wide 5 trivial trivial trivial trivial rfl (by omega) (Try.sortsI _) (enters_of Try.func106 (by kernel_rfl) rfl) 107 #[.pointer (some ⟨w.heap.size, 0, none⟩)] trivial (enters_of Try.func107 (by kernel_rfl) rfl) _ _ hmax hbytes _ hseq
end Go.Proofs
namespace Go.Proofs.Ytaldfbmjmpkmmaa.PL
open Go.RowKit Go.Proofs.YtaldfbmjmpkmmaaW.PrintWords Go.Proofs.YtaldfbmjmpkmmaaW.PrintLast Go.Proofs.YtaldfbmjmpkmmaaW.PrintMore Go.Sort Go.Shelf Go.Maps Go.WideMaps Go.Proofs.Ytaldfbmjmpkmmaa.Mk
set_option linter.unusedVariables false
set_option linter.unusedSimpArgs false
set_option linter.unusedSectionVars false
theorem R_intsO {w : World} {base : Nat} {v : Value} {rs : List Int} (h : w.ownsRow base 3 1 v rs.length (rs.map encZ)) : Kd.R (Kd.int .i64) 3 w base (fun _ => True) v rs := by
  refine ⟨fun _ _ => trivial, rs.map encZ, h, ?_, fun j p hj => ?_⟩
  · show (rs.map encZ).length = rs.length * 1
    simp
  · obtain ⟨hl, hp⟩ := List.getElem?_eq_some_iff.1 hj
    show ((rs.map encZ).drop (j * 1)).take 1 = [Value.int .i64 p]
    have hl' : j < (rs.map encZ).length := by simpa using hl
    rw [Nat.mul_one, List.drop_eq_getElem_cons hl']
    simp [hp, encZ]
theorem ownsRow_lower {w : World} {a b e size n : Nat} {v : Value} {xs : List Value} (h : w.ownsRow a e size v n xs) (hab : b ≤ a) : w.ownsRow b e size v n xs := own_weaken h hab
/-- Two lists that rise and hold the same are one. -/
theorem rise_eq : ∀ {a b : List Int}, a.Pairwise (· < ·) → b.Pairwise (· < ·) → (∀ i, i ∈ a ↔ i ∈ b) → a = b
  | [], [], _, _, _ => rfl
  | [], y :: b, _, _, h => absurd ((h y).2 (by simp)) (by simp)
  | x :: a, [], _, _, h => absurd ((h x).1 (by simp)) (by simp)
  | x :: a, y :: b, ha, hb, h => by
    obtain ⟨ha1, ha2⟩ := List.pairwise_cons.1 ha
    obtain ⟨hb1, hb2⟩ := List.pairwise_cons.1 hb
    have hxy : x = y := by
      rcases List.mem_cons.1 ((h x).1 List.mem_cons_self) with e | hx
      · exact e
      · rcases List.mem_cons.1 ((h y).2 List.mem_cons_self) with e | hy
        · exact e.symm
        · have := hb1 x hx
          have := ha1 y hy
          omega
    subst hxy
    rw [rise_eq ha2 hb2 (fun i => by
      constructor
      · intro hi
        rcases List.mem_cons.1 ((h i).1 (List.mem_cons_of_mem _ hi)) with e | hi2
        · have := ha1 i hi
          omega
        · exact hi2
      · intro hi
        rcases List.mem_cons.1 ((h i).2 (List.mem_cons_of_mem _ hi)) with e | hi2
        · have := hb1 i hi
          omega
        · exact hi2)]
set_option maxHeartbeats 1000000 in
theorem sortedP_calls (w : World) (b N : Nat) (f : Lit → Option Value) (h : MapL Try.prog 3 w b N f) (hN : N ≤ 1000000) :
    Calls Try.prog 65 #[.func (.func 107) #[] #[.pointer (some ⟨w.heap.size, 0, none⟩)]] (w.alloc (.cells #[.map (some b)] 75)) fun e w' => ∃ (v : Value) (ks : List Int), e = .returned v ∧ ks.Pairwise (· < ·) ∧ (∀ i, i ∈ ks ↔ (f (ik i)).isSome = true) ∧
      Kd.R (Kd.int .i64) 3 w' w.heap.size (fun _ => True) v ks ∧ Below w.heap.size w w' := by
  obtain ⟨D, hown, hhas, hat⟩ := h
  have hsz := hown.size_le
  have hmax : Maps.size D ≤ maxLen := Nat.le_trans hsz (Nat.le_trans hN (by unfold maxLen; decide))
  refine ((callsIn_wide (n := 5)).1 (Try.slices_Sorted_keysP b N D Rv w hown hmax (by omega))).mono ?_
  rintro e w' ⟨v, ss, rfl, hS, hrow, _, hb⟩
  obtain ⟨es, hD, hpw, _⟩ := hown.entries keyedI
  obtain ⟨es', hD', hko⟩ := hown.keysOf
  obtain rfl : es = es' := by rw [hD] at hD'; simpa using hD'
  subst hD
  have hk : ∀ p ∈ es, ∃ x, p.1 = .int .i64 x := fun p hp => by obtain ⟨v, hv⟩ := hko p hp; obtain ⟨x, _, hx, _⟩ := Maps.keyOf_i64 Try.underlying3 hv; exact ⟨x, hx⟩
  have hmem : ∀ x, x ∈ intKeys (.map es) ↔ Maps.has (.map es) (.int .i64 x) = true := by
    intro x
    rw [has_eq, List.any_eq_true]
    show x ∈ es.map (fun p => Go.intOf p.1) ↔ _
    rw [List.mem_map]
    constructor
    · rintro ⟨p, hp', rfl⟩
      obtain ⟨a, ha⟩ := hk p hp'
      exact ⟨p, hp', by rw [ha]; simp [Lit.sameKey, Go.intOf]⟩
    · rintro ⟨p, hp', hs⟩
      obtain ⟨a, ha⟩ := hk p hp'
      rw [ha] at hs
      exact ⟨p, hp', by rw [ha]; simpa [Lit.sameKey, Go.intOf] using hs⟩
  have hnd : (intKeys (.map es)).Nodup := by
    show (es.map fun p => Go.intOf p.1).Nodup
    refine List.pairwise_map.2 (hpw.imp_of_mem fun {p q} hp' hq' hne e => hne ?_)
    obtain ⟨a, ha⟩ := hk p hp'
    obtain ⟨b, hb⟩ := hk q hq'
    rw [ha, hb] at e ⊢
    exact congrArg _ e
  have tr : ∀ a b c : Int, decide (a ≤ b) = true → decide (b ≤ c) = true → decide (a ≤ c) = true := fun a b c h1 h2 => by simp only [decide_eq_true_eq] at *; exact Int.le_trans h1 h2
  have tl : ∀ a b : Int, (decide (a ≤ b) || decide (b ≤ a)) = true := fun a b => by simp only [Bool.or_eq_true, decide_eq_true_eq]; exact Int.le_total a b
  have hpm : (ss.mergeSort (fun x y => decide (x ≤ y))).Perm (intKeys (.map es)) := (List.mergeSort_perm ss _).trans hS
  have hlen : ss.length = (ss.mergeSort (fun x y => decide (x ≤ y))).length := (List.mergeSort_perm ss _).length_eq.symm
  have hup : (ss.mergeSort (fun x y => decide (x ≤ y))).Pairwise (fun a b => a < b) := by
    have h1 := List.pairwise_mergeSort tr tl ss
    have h2 : (ss.mergeSort (fun x y => decide (x ≤ y))).Nodup := (hpm.nodup_iff).2 hnd
    exact (h1.and h2).imp (fun {a b} hab => by
      have := hab.1
      simp only [decide_eq_true_eq] at this
      have hne := hab.2
      omega)
  refine ⟨v, ss.mergeSort (fun x y => decide (x ≤ y)), rfl, hup, fun i => by rw [hpm.mem_iff, hmem, hhas]; rfl, ?_, ((Below.refl _ w).alloc (Nat.le_refl _) _).trans (hb.mono (by simp))⟩
  rw [hlen] at hrow
  exact R_intsO (ownsRow_lower hrow (by simp))
def openV (s : Sh) : List Int := s.P.map (·.f1)
set_option maxRecDepth 100000 in
theorem open_walk {w : World} {ok : Nat → Prop} {b N : Nat} {s : Sh} (h : ShAt w ok b N s) (hN : N ≤ 1000000) :
    Calls Try.prog 30 #[.pointer (some ⟨b, 0, none⟩)] w fun e w' => ∃ v, e = .returned v ∧ Kd.R (Kd.int .i64) 3 w' w.heap.size (fun _ => True) v (openV s) ∧ Below w.heap.size w w' := by
  obtain ⟨bk, bp, ve, fk, fp, hp⟩ := h
  obtain ⟨c0, c1, c2, c3⟩ := hp.cells
  have HK := Aside0.mk ((callsIn_wide (n := 5)).1 (Try.maps_KeysP (some bp) w))
  have HS := Aside0.mk (sortedP_calls w bp N fp hp.preps hN)
  have HEQ : Aside0 (∀ ks : List Int, ks.Pairwise (· < ·) → (∀ i, i ∈ ks ↔ (fp (ik i)).isSome = true) → ks = openV s) := ⟨fun ks h1 h2 => rise_eq h1 (List.pairwise_map.2 hp.good.rise) (fun i => by
    rw [h2, hp.preps_iff, List.mem_map]
    unfold openV
    rw [List.mem_map]
    constructor
    · rintro ⟨r, hr, e⟩
      exact ⟨r, hr, by unfold ik at e; injection e⟩
    · rintro ⟨r, hr, e⟩
      exact ⟨r, hr, by rw [e]⟩)⟩
  clear hp
  go_enter Try.func30, Try.ntmps30
  go_wp2_with fail
  refine HK.out.mono ?_
  rintro e w1 ⟨rfl, rfl⟩
  go_wp2_with fail
  refine HS.out.mono ?_
  rintro e w2 ⟨v, ks, rfl, h1, h2, hR, hb⟩
  obtain rfl := HEQ.out ks h1 h2
  have HR := Aside0.mk hR
  have HB := Aside0.mk hb
  clear hR hb h1 h2 c0 c1 c2 c3
  go_wp2_with fail
  go_ret
  exact ⟨_, rfl, HR.out, HB.out⟩
def prepOf (s : Sh) (t : Int) : Option Rec := s.P.find? (fun r => decide (r.f1 = t))
def zRec : Rec := ⟨0, 0, 0, 0, ⟨#[]⟩, ⟨#[]⟩, false, [], []⟩
theorem prep_find {w : World} {ok : Nat → Prop} {b N : Nat} {s : Sh} {bk bp : Nat} {ve : Value} {fk fp : Lit → Option Value} (h : Parts w ok b N s bk bp ve fk fp) (t : Int) : ∃ A7 c7 A8 c8,
    (fp (ik t)).getD (.agg #[.int .i64 0, .int .i64 0, .int .i64 0, .int .i64 0, .string ⟨#[]⟩, .string ⟨#[]⟩, .bool false, .slice none 0 0, .slice none 0 0]) = .agg #[.int .i64 ((prepOf s t).getD zRec).f0, .int .i64 ((prepOf s t).getD zRec).f1, .int .i64 ((prepOf s t).getD zRec).f2, .int .i64 ((prepOf s t).getD zRec).f3, .string ((prepOf s t).getD zRec).f4, .string ((prepOf s t).getD zRec).f5, .bool ((prepOf s t).getD zRec).f6, .slice A7 ((prepOf s t).getD zRec).f7.length c7, .slice A8 ((prepOf s t).getD zRec).f8.length c8] ∧
    k35.K w ((prepOf s t).getD zRec) [.int .i64 ((prepOf s t).getD zRec).f0, .int .i64 ((prepOf s t).getD zRec).f1, .int .i64 ((prepOf s t).getD zRec).f2, .int .i64 ((prepOf s t).getD zRec).f3, .string ((prepOf s t).getD zRec).f4, .string ((prepOf s t).getD zRec).f5, .bool ((prepOf s t).getD zRec).f6, .slice A7 ((prepOf s t).getD zRec).f7.length c7, .slice A8 ((prepOf s t).getD zRec).f8.length c8] ∧
    (fp (ik t)).isSome = (prepOf s t).isSome ∧ ((prepOf s t).getD zRec).f7.length ≤ 16 ∧ ((prepOf s t).getD zRec).f8.length ≤ 16 := by
  have hsome := h.prep_some t
  cases hf : prepOf s t with
  | none =>
    have h1 : s.P.any (fun r => decide (r.f1 = t)) = false := List.any_eq_false.2 (fun r hr => by simpa using List.find?_eq_none.1 hf r hr)
    rw [h1] at hsome
    cases hg : fp (ik t) with
    | some v => rw [hg] at hsome; cases hsome
    | none => exact ⟨none, 0, none, 0, rfl, k35_mk w zRec (Nat.le_refl _) (Kd.C_nil _ _) (Nat.le_refl _) (Kd.C_nil _ _), rfl, by simp [zRec], by simp [zRec]⟩
  | some r =>
    have hr : r ∈ s.P := List.mem_of_find?_eq_some hf
    have hrt : r.f1 = t := of_decide_eq_true (by simpa using List.find?_some hf)
    obtain ⟨v7, v8, e, h7, h8⟩ := h.prep_rec r hr
    obtain ⟨A7, c7, rfl, l7, g7⟩ := Kd.R_reads h7
    obtain ⟨A8, c8, rfl, l8, g8⟩ := Kd.R_reads h8
    have hl := (prep_lists (h.good.recs r hr).1 (h.good.recs r hr).2).1
    rw [hrt] at e
    refine ⟨A7, c7, A8, c8, by rw [e, ← hrt]; rfl, k35_mk w r l7 g7 l8 g8, by rw [e]; rfl, hl.few7, hl.few8⟩
set_option maxRecDepth 100000 in
set_option maxHeartbeats 4000000 in
theorem prep_walk {w : World} {ok : Nat → Prop} {b N : Nat} {s : Sh} (h : ShAt w ok b N s) (t : Int) (ht : -9223372036854775808 ≤ t ∧ t ≤ 9223372036854775807) :
    Calls Try.prog 24 #[.pointer (some ⟨b, 0, none⟩), .int .i64 t] w fun e w' => ∃ cs, e = .returned (.tuple #[.agg cs.toArray, .bool (prepOf s t).isSome]) ∧ k35.M w' w.heap.size (fun _ => True) ((prepOf s t).getD zRec) cs ∧ Below w.heap.size w w' := by
  obtain ⟨bk, bp, ve, fk, fp, hp⟩ := h
  obtain ⟨A7, c7, A8, c8, hv, hK, hs, l7, l8⟩ := prep_find hp t
  generalize (prepOf s t).isSome = q at *
  generalize (prepOf s t).getD zRec = r at *
  obtain ⟨w1, hw1⟩ : ∃ w1, w1 = w.alloc (.cells #[.int .i64 0, .int .i64 0, .int .i64 0, .int .i64 0, .string ⟨#[]⟩, .string ⟨#[]⟩, .bool false, .slice none 0 0, .slice none 0 0] 35) := ⟨_, rfl⟩
  have hb1 : Below w.heap.size w w1 := by rw [hw1]; exact below_alloc (Below.refl _ _) _
  have hP1 := hp.below hb1
  obtain ⟨c0, c1, c2, c3⟩ := hP1.cells
  rw [hw1] at c1
  obtain ⟨w2, hw2⟩ : ∃ w2, w2 = w.alloc (.cells #[.int .i64 r.f0, .int .i64 r.f1, .int .i64 r.f2, .int .i64 r.f3, .string r.f4, .string r.f5, .bool r.f6, .slice A7 r.f7.length c7, .slice A8 r.f8.length c8] 35) := ⟨_, rfl⟩
  have hb2 : Below w.heap.size w w2 := by rw [hw2]; exact below_alloc (Below.refl _ _) _
  have hx2 : w2.heap[w.heap.size]? = some (.cells #[.int .i64 r.f0, .int .i64 r.f1, .int .i64 r.f2, .int .i64 r.f3, .string r.f4, .string r.f5, .bool r.f6, .slice A7 r.f7.length c7, .slice A8 r.f8.length c8] 35 (0, 0)) := by rw [hw2]; exact blk_new _ _
  have HCP := Aside0.mk (copied_walk w2 r _ (k35.K_below hb2 hK) (by omega) (by omega))
  have HV := Aside0.mk hv
  have HQ := Aside0.mk hs
  have HP1 := Aside0.mk hP1
  have HW1 := Aside0.mk hw1
  have HW2 := Aside0.mk hw2
  have HB2 := Aside0.mk hb2
  have HX2 := Aside0.mk hx2
  have HT := Aside0.mk ht
  have hu := Try.underlying35
  clear hv hs hP1 hw1 hw2 hb1 hb2 hx2 hK hp l7 l8 c0 c2 c3 ht
  go_enter Try.func24, Try.ntmps24
  go_wp2_with (at_lookup; rw [← HW1.out]; refine MapL.look HP1.out.preps keyedI rfl _ _ 75 35 rfl Try.underlying75 (zeroR _) rfl rfl (key_ik HT.out) ?_; rw [HV.out, HQ.out, HW1.out])
  rw [← HW2.out]
  refine HCP.out.mono ?_
  rintro e w3 ⟨cs, rfl, hM, hb3⟩
  obtain ⟨v7, v8, rfl, h7, h8⟩ := k35_openM hM
  obtain ⟨B7, d7, rfl⟩ := Kd.R_slice h7
  obtain ⟨B8, d8, rfl⟩ := Kd.R_slice h8
  have HB3 : Aside0 (Below w.heap.size w w3) := ⟨HB2.out.trans (hb3.mono HB2.out.size)⟩
  have X3 := Aside0.mk (blk_below HX2.out hb3)
  have H7 := Aside0.mk (Kd.R_lower h7 HB2.out.size)
  have H8 := Aside0.mk (Kd.R_lower h8 HB2.out.size)
  clear hM hb3 HCP h7 h8 c1
  obtain ⟨r0, r1, r2, r3, r4, r5, r6, r7, r8⟩ := r
  simp only at *
  have f0 := blk_frozen X3.out 0
  have f1 := blk_frozen X3.out 1
  have f2 := blk_frozen X3.out 2
  have f3 := blk_frozen X3.out 3
  have f4 := blk_frozen X3.out 4
  have f5 := blk_frozen X3.out 5
  have f6 := blk_frozen X3.out 6
  have f7 := blk_frozen X3.out 7
  have f8 := blk_frozen X3.out 8
  have x0 := blk_cell X3.out 0
  have x1 := blk_cell X3.out 1
  have x2 := blk_cell X3.out 2
  have x3 := blk_cell X3.out 3
  have x4 := blk_cell X3.out 4
  have x5 := blk_cell X3.out 5
  have x6 := blk_cell X3.out 6
  have x7 := blk_cell X3.out 7
  have x8 := blk_cell X3.out 8
  go_wp2_with fail
  have z0 := blk_put (cs' := #[.int .i64 r0, .int .i64 r1, .int .i64 r2, .int .i64 r3, .string r4, .string r5, .bool r6, .slice A7 r7.length c7, .slice A8 r8.length c8]) X3.out 0 (.int .i64 r0) rfl
  have z1 := blk_put (cs' := #[.int .i64 r0, .int .i64 r1, .int .i64 r2, .int .i64 r3, .string r4, .string r5, .bool r6, .slice A7 r7.length c7, .slice A8 r8.length c8]) z0 1 (.int .i64 r1) rfl
  have z2 := blk_put (cs' := #[.int .i64 r0, .int .i64 r1, .int .i64 r2, .int .i64 r3, .string r4, .string r5, .bool r6, .slice A7 r7.length c7, .slice A8 r8.length c8]) z1 2 (.int .i64 r2) rfl
  have z3 := blk_put (cs' := #[.int .i64 r0, .int .i64 r1, .int .i64 r2, .int .i64 r3, .string r4, .string r5, .bool r6, .slice A7 r7.length c7, .slice A8 r8.length c8]) z2 3 (.int .i64 r3) rfl
  have z4 := blk_put (cs' := #[.int .i64 r0, .int .i64 r1, .int .i64 r2, .int .i64 r3, .string r4, .string r5, .bool r6, .slice A7 r7.length c7, .slice A8 r8.length c8]) z3 4 (.string r4) rfl
  have z5 := blk_put (cs' := #[.int .i64 r0, .int .i64 r1, .int .i64 r2, .int .i64 r3, .string r4, .string r5, .bool r6, .slice A7 r7.length c7, .slice A8 r8.length c8]) z4 5 (.string r5) rfl
  have z6 := blk_put (cs' := #[.int .i64 r0, .int .i64 r1, .int .i64 r2, .int .i64 r3, .string r4, .string r5, .bool r6, .slice A7 r7.length c7, .slice A8 r8.length c8]) z5 6 (.bool r6) rfl
  have z7 := blk_put (cs' := #[.int .i64 r0, .int .i64 r1, .int .i64 r2, .int .i64 r3, .string r4, .string r5, .bool r6, .slice B7 r7.length d7, .slice A8 r8.length c8]) z6 7 (.slice B7 r7.length d7) rfl
  have z8 := blk_put (cs' := #[.int .i64 r0, .int .i64 r1, .int .i64 r2, .int .i64 r3, .string r4, .string r5, .bool r6, .slice B7 r7.length d7, .slice B8 r8.length d8]) z7 8 (.slice B8 r8.length d8) rfl
  have BZ : Aside0 ((((((((((w3.setCell ⟨w.heap.size, 0, none⟩ (.int .i64 r0)).setCell ⟨w.heap.size, 1, none⟩ (.int .i64 r1)).setCell ⟨w.heap.size, 2, none⟩ (.int .i64 r2)).setCell ⟨w.heap.size, 3, none⟩ (.int .i64 r3)).setCell ⟨w.heap.size, 4, none⟩ (.string r4)).setCell ⟨w.heap.size, 5, none⟩ (.string r5)).setCell ⟨w.heap.size, 6, none⟩ (.bool r6)).setCell ⟨w.heap.size, 7, none⟩ (.slice B7 r7.length d7)).setCell ⟨w.heap.size, 8, none⟩ (.slice B8 r8.length d8)).heap[w.heap.size]? = some (.cells #[.int .i64 r0, .int .i64 r1, .int .i64 r2, .int .i64 r3, .string r4, .string r5, .bool r6, .slice B7 r7.length d7, .slice B8 r8.length d8] 35 (0, 0))) := ⟨z8⟩
  have B6 : Aside0 (Below w.heap.size w (((((((((w3.setCell ⟨w.heap.size, 0, none⟩ (.int .i64 r0)).setCell ⟨w.heap.size, 1, none⟩ (.int .i64 r1)).setCell ⟨w.heap.size, 2, none⟩ (.int .i64 r2)).setCell ⟨w.heap.size, 3, none⟩ (.int .i64 r3)).setCell ⟨w.heap.size, 4, none⟩ (.string r4)).setCell ⟨w.heap.size, 5, none⟩ (.string r5)).setCell ⟨w.heap.size, 6, none⟩ (.bool r6)).setCell ⟨w.heap.size, 7, none⟩ (.slice B7 r7.length d7)).setCell ⟨w.heap.size, 8, none⟩ (.slice B8 r8.length d8))) := ⟨(Below.setCell (Below.setCell (Below.setCell (Below.setCell (Below.setCell (Below.setCell (Below.setCell (Below.setCell (Below.setCell HB3.out (Nat.le_refl _) _) (Nat.le_refl _) _) (Nat.le_refl _) _) (Nat.le_refl _) _) (Nat.le_refl _) _) (Nat.le_refl _) _) (Nat.le_refl _) _) (Nat.le_refl _) _) (Nat.le_refl _) _)⟩
  have HM : Aside0 (∀ k, k ≠ w.heap.size → (((((((((w3.setCell ⟨w.heap.size, 0, none⟩ (.int .i64 r0)).setCell ⟨w.heap.size, 1, none⟩ (.int .i64 r1)).setCell ⟨w.heap.size, 2, none⟩ (.int .i64 r2)).setCell ⟨w.heap.size, 3, none⟩ (.int .i64 r3)).setCell ⟨w.heap.size, 4, none⟩ (.string r4)).setCell ⟨w.heap.size, 5, none⟩ (.string r5)).setCell ⟨w.heap.size, 6, none⟩ (.bool r6)).setCell ⟨w.heap.size, 7, none⟩ (.slice B7 r7.length d7)).setCell ⟨w.heap.size, 8, none⟩ (.slice B8 r8.length d8)).heap[k]? = w3.heap[k]?) := ⟨fun k hk => (Eq.trans (Below.heap_setCell _ _ _ k hk) (Eq.trans (Below.heap_setCell _ _ _ k hk) (Eq.trans (Below.heap_setCell _ _ _ k hk) (Eq.trans (Below.heap_setCell _ _ _ k hk) (Eq.trans (Below.heap_setCell _ _ _ k hk) (Eq.trans (Below.heap_setCell _ _ _ k hk) (Eq.trans (Below.heap_setCell _ _ _ k hk) (Eq.trans (Below.heap_setCell _ _ _ k hk) (Below.heap_setCell _ _ _ k hk)))))))))⟩
  clear z0 z1 z2 z3 z4 z5 z6 z7 z8
  generalize (((((((((w3.setCell ⟨w.heap.size, 0, none⟩ (.int .i64 r0)).setCell ⟨w.heap.size, 1, none⟩ (.int .i64 r1)).setCell ⟨w.heap.size, 2, none⟩ (.int .i64 r2)).setCell ⟨w.heap.size, 3, none⟩ (.int .i64 r3)).setCell ⟨w.heap.size, 4, none⟩ (.string r4)).setCell ⟨w.heap.size, 5, none⟩ (.string r5)).setCell ⟨w.heap.size, 6, none⟩ (.bool r6)).setCell ⟨w.heap.size, 7, none⟩ (.slice B7 r7.length d7)).setCell ⟨w.heap.size, 8, none⟩ (.slice B8 r8.length d8)) = w6 at *
  have Z7 := Aside0.mk (R_box (by decide) H7.out X3.out HM.out)
  have Z8 := Aside0.mk (R_box (by decide) H8.out X3.out HM.out)
  (try simp only [Exit.inBlock, Exit.then])
  refine bodyPost_ret (results_list (rs := [.cell 4 35, .tmp 5]) rfl (by simp) (Vals.cell w.heap.size 35 _ (0, 0) _ rfl BZ.out Try.underlying35 rfl (by kernel_rfl) (Vals.tmp Vals.nil))) rfl ?_
  exact ⟨[.int .i64 r0, .int .i64 r1, .int .i64 r2, .int .i64 r3, .string r4, .string r5, .bool r6, .slice B7 r7.length d7, .slice B8 r8.length d8], rfl, k35_mkM _ _ _ (⟨r0, r1, r2, r3, r4, r5, r6, r7, r8⟩ : Rec) Z7.out Z8.out, B6.out⟩
end Go.Proofs.Ytaldfbmjmpkmmaa.PL
namespace Go.Proofs.Ytaldfbmjmpkmmaa.PL
open Go.RowKit Go.Proofs.YtaldfbmjmpkmmaaW.PrintWords Go.Proofs.YtaldfbmjmpkmmaaW.PrintLast Go.Proofs.YtaldfbmjmpkmmaaW.PrintMore
attribute [local go_sem] Mk.str_leq Mk.str_gtr Mk.str_geq max2_int min2_int max_two min_two max_three min_three max_four min_four   -- for this text's walks alone
set_option linter.unusedVariables false
set_option linter.unusedSimpArgs false



theorem info35 : (Try.prog.info? 35).map (fun i => (i.zero, i.size, i.bytes)) = some (some (.agg #[(.int .i64 0), (.int .i64 0), (.int .i64 0), (.int .i64 0), (.string ⟨#[]⟩), (.string ⟨#[]⟩), (.bool false), (.slice none 0 0), (.slice none 0 0)]), 9, 120) := by kernel_rfl
theorem k56_mkF (W : World) (ok : Nat → Prop) (x : S56) : Kd.FK k56 W ok x [.string x.f0, .string x.f1, .bool x.f2] := fun W2 _ => k56_mk W2 x
theorem k29_mkF (W : World) (ok : Nat → Prop) (x : S29) : Kd.FK k29 W ok x [.int .i64 x.f0, .string x.f1, .bool x.f2] := fun W2 _ => k29_mk W2 x
theorem k35_openF {W : World} {ok : Nat → Prop} {x : S35} {cs : List Value} (h : Kd.FK k35 W ok x cs) : ∃ A7 c7 A8 c8, cs = [.int .i64 x.f0, .int .i64 x.f1, .int .i64 x.f2, .int .i64 x.f3, .string x.f4, .string x.f5, .bool x.f6, .slice A7 x.f7.length c7, .slice A8 x.f8.length c8] ∧ x.f7.length ≤ c7 ∧ Kd.F Kd.string W ok A7 x.f7.length x.f7 ∧ x.f8.length ≤ c8 ∧ Kd.F k56 W ok A8 x.f8.length x.f8 := by
 obtain ⟨A7, c7, A8, c8, rfl, l7, _, l8, _⟩ := k35_open (Kd.FK_now h)
 exact ⟨A7, c7, A8, c8, rfl, l7, (fun W' hW => by obtain ⟨A7_, c7_, A8_, c8_, he, l7_, g7_, l8_, g8_⟩ := k35_open (h W' hW); injection (Option.some.inj (show some (Value.slice A7 x.f7.length c7) = some (Value.slice A7_ x.f7.length c7_) from congrArg (fun l => l[7]?) he)) with ha_ _ _; rw [ha_]; exact g7_), l8, (fun W' hW => by obtain ⟨A7_, c7_, A8_, c8_, he, l7_, g7_, l8_, g8_⟩ := k35_open (h W' hW); injection (Option.some.inj (show some (Value.slice A8 x.f8.length c8) = some (Value.slice A8_ x.f8.length c8_) from congrArg (fun l => l[8]?) he)) with ha_ _ _; rw [ha_]; exact g8_)⟩
theorem k35_mkF (W : World) (ok : Nat → Prop) (x : S35) {A7 : Option Addr} {c7 : Nat} (l7 : x.f7.length ≤ c7) (g7 : Kd.F Kd.string W ok A7 x.f7.length x.f7) {A8 : Option Addr} {c8 : Nat} (l8 : x.f8.length ≤ c8) (g8 : Kd.F k56 W ok A8 x.f8.length x.f8) : Kd.FK k35 W ok x [.int .i64 x.f0, .int .i64 x.f1, .int .i64 x.f2, .int .i64 x.f3, .string x.f4, .string x.f5, .bool x.f6, .slice A7 x.f7.length c7, .slice A8 x.f8.length c8] := fun W2 hW => k35_mk W2 x l7 (g7 W2 hW) l8 (g8 W2 hW)
end Go.Proofs.Ytaldfbmjmpkmmaa.PL
namespace Go.Proofs.Ytaldfbmjmpkmmaa.PL
open Go.RowKit Go.Proofs.YtaldfbmjmpkmmaaW.PrintWords Go.Proofs.YtaldfbmjmpkmmaaW.PrintLast Go.Proofs.YtaldfbmjmpkmmaaW.PrintMore
attribute [local go_sem] Mk.str_leq Mk.str_gtr Mk.str_geq max2_int min2_int max_two min_two max_three min_three max_four min_four   -- for this text's walks alone
set_option linter.unusedVariables false
set_option linter.unusedSimpArgs false

/-! ### locks_Clash: function 55 -/
def locks_Clash.f (k : Nat) (a0_0 : Int) (a0_1 : Int) (a0_2 : Int) (a0_3 : Int) (a0_4 : ByteArray) (a0_5 : ByteArray) (a0_6 : Bool) (l0_7 : List ByteArray) (l0_8 : List (S56)) (a1_0 : Int) (a1_1 : Int) (a1_2 : Int) (a1_3 : Int) (a1_4 : ByteArray) (a1_5 : ByteArray) (a1_6 : Bool) (l1_7 : List ByteArray) (l1_8 : List (S56)) : Option (Bool × Int) := (locks_wrong.f k (([(⟨a0_0, a0_1, a0_2, a0_3, a0_4, a0_5, a0_6, l0_7, l0_8⟩ : S35), (⟨a1_0, a1_1, a1_2, a1_3, a1_4, a1_5, a1_6, l1_7, l1_8⟩ : S35)] : List (S35)))).bind fun t128 => (if t128 = 0 then ((locks_clash.f a0_0 a0_1 a0_2 a0_3 a0_4 a0_5 a0_6 l0_7 l0_8 a1_0 a1_1 a1_2 a1_3 a1_4 a1_5 a1_6 l1_7 l1_8).bind fun t129 => (some (t129, 0))) else (some (false, t128)))
theorem locks_Clash.mono : ∀ a0 a1 a2 a3 a4 a5 a6 a7 a8 a9 a10 a11 a12 a13 a14 a15 a16 a17 k, LeO (locks_Clash.f k a0 a1 a2 a3 a4 a5 a6 a7 a8 a9 a10 a11 a12 a13 a14 a15 a16 a17) (locks_Clash.f (k + 1) a0 a1 a2 a3 a4 a5 a6 a7 a8 a9 a10 a11 a12 a13 a14 a15 a16 a17) := by
 intro a0 a1 a2 a3 a4 a5 a6 a7 a8 a9 a10 a11 a12 a13 a14 a15 a16 a17 k
 unfold locks_Clash.f
 repeat' first
   | (with_reducible exact locks_wrong.mono _ _)
   | (with_reducible exact LeO.refl _)
   | (with_reducible exact LeO.none _)
   | (with_reducible refine LeO.ite ?_ ?_)
   | (with_reducible refine LeO.bind ?_ (fun _ => ?_))
   | exact locks_wrong.mono _ _
   | exact LeO.none _
   | refine LeO.ite ?_ ?_
   | refine LeO.bind ?_ (fun _ => ?_)
set_option maxHeartbeats 8000000 in
set_option maxRecDepth 100000 in
theorem locks_Clash.calls (k : Nat) (a0_0 : Int) (a0_1 : Int) (a0_2 : Int) (a0_3 : Int) (a0_4 : ByteArray) (a0_5 : ByteArray) (a0_6 : Bool) (P0_7_ : Nat → Prop) (A0_7 : Option Addr) (c0_7 : Nat) (l0_7 : List ByteArray) (P0_8_ : Nat → Prop) (A0_8 : Option Addr) (c0_8 : Nat) (l0_8 : List (S56)) (a1_0 : Int) (a1_1 : Int) (a1_2 : Int) (a1_3 : Int) (a1_4 : ByteArray) (a1_5 : ByteArray) (a1_6 : Bool) (P1_7_ : Nat → Prop) (A1_7 : Option Addr) (c1_7 : Nat) (l1_7 : List ByteArray) (P1_8_ : Nat → Prop) (A1_8 : Option Addr) (c1_8 : Nat) (l1_8 : List (S56)) (r1 : Bool) (r2 : Int) (w : World) (hs0_7 : Kd.V Kd.string 9 w w.heap.size (fun k_ => P0_7_ k_) (.slice A0_7 l0_7.length c0_7) l0_7) (hs0_8 : Kd.V k56 56 w w.heap.size (fun k_ => P0_8_ k_) (.slice A0_8 l0_8.length c0_8) l0_8) (hs1_7 : Kd.V Kd.string 9 w w.heap.size (fun k_ => P1_7_ k_) (.slice A1_7 l1_7.length c1_7) l1_7) (hs1_8 : Kd.V k56 56 w w.heap.size (fun k_ => P1_8_ k_) (.slice A1_8 l1_8.length c1_8) l1_8) (h : locks_Clash.f k a0_0 a0_1 a0_2 a0_3 a0_4 a0_5 a0_6 l0_7 l0_8 a1_0 a1_1 a1_2 a1_3 a1_4 a1_5 a1_6 l1_7 l1_8 = some (r1, r2)) :
  Calls Try.prog 55 #[.agg #[.int .i64 a0_0, .int .i64 a0_1, .int .i64 a0_2, .int .i64 a0_3, .string a0_4, .string a0_5, .bool a0_6, .slice A0_7 l0_7.length c0_7, .slice A0_8 l0_8.length c0_8], .agg #[.int .i64 a1_0, .int .i64 a1_1, .int .i64 a1_2, .int .i64 a1_3, .string a1_4, .string a1_5, .bool a1_6, .slice A1_7 l1_7.length c1_7, .slice A1_8 l1_8.length c1_8]] w fun e w' => e = .returned (.tuple #[.bool r1, .int .i64 r2]) ∧ Below w.heap.size w w' := by
 have hu35 := Try.underlying35
 have HO0_7 := Aside0.mk (show Kd.V Kd.string 9 w w.heap.size (fun k_ => ((P0_7_ k_ ∨ P0_8_ k_ ∨ P1_7_ k_ ∨ P1_8_ k_) ∨ w.heap.size ≤ k_)) (.slice A0_7 l0_7.length c0_7) l0_7 from Kd.V_mono hs0_7 (fun k_ hk => .inl (.inl hk)))
 have HO0_8 := Aside0.mk (show Kd.V k56 56 w w.heap.size (fun k_ => ((P0_7_ k_ ∨ P0_8_ k_ ∨ P1_7_ k_ ∨ P1_8_ k_) ∨ w.heap.size ≤ k_)) (.slice A0_8 l0_8.length c0_8) l0_8 from Kd.V_mono hs0_8 (fun k_ hk => .inl (.inr (.inl hk))))
 have HO1_7 := Aside0.mk (show Kd.V Kd.string 9 w w.heap.size (fun k_ => ((P0_7_ k_ ∨ P0_8_ k_ ∨ P1_7_ k_ ∨ P1_8_ k_) ∨ w.heap.size ≤ k_)) (.slice A1_7 l1_7.length c1_7) l1_7 from Kd.V_mono hs1_7 (fun k_ hk => .inl (.inr (.inr (.inl hk)))))
 have HO1_8 := Aside0.mk (show Kd.V k56 56 w w.heap.size (fun k_ => ((P0_7_ k_ ∨ P0_8_ k_ ∨ P1_7_ k_ ∨ P1_8_ k_) ∨ w.heap.size ≤ k_)) (.slice A1_8 l1_8.length c1_8) l1_8 from Kd.V_mono hs1_8 (fun k_ hk => .inl (.inr (.inr (.inr hk)))))
 have HB := Aside0.mk (Below.refl w.heap.size w)
 have H : ((locks_wrong.f k (([(⟨a0_0, a0_1, a0_2, a0_3, a0_4, a0_5, a0_6, l0_7, l0_8⟩ : S35), (⟨a1_0, a1_1, a1_2, a1_3, a1_4, a1_5, a1_6, l1_7, l1_8⟩ : S35)] : List (S35)))).bind fun t128 => (if t128 = 0 then ((locks_clash.f a0_0 a0_1 a0_2 a0_3 a0_4 a0_5 a0_6 l0_7 l0_8 a1_0 a1_1 a1_2 a1_3 a1_4 a1_5 a1_6 l1_7 l1_8).bind fun t129 => (some (t129, 0))) else (some (false, t128)))) = some (r1, r2) := h
 clear h
 obtain ⟨y125, hy125⟩ : ∃ y_ : List (S35), y_ = (([(⟨a0_0, a0_1, a0_2, a0_3, a0_4, a0_5, a0_6, l0_7, l0_8⟩ : S35), (⟨a1_0, a1_1, a1_2, a1_3, a1_4, a1_5, a1_6, l1_7, l1_8⟩ : S35)] : List (S35))) := ⟨_, rfl⟩
 replace H : ((locks_wrong.f k y125).bind fun t128 => (if t128 = 0 then ((locks_clash.f a0_0 a0_1 a0_2 a0_3 a0_4 a0_5 a0_6 l0_7 l0_8 a1_0 a1_1 a1_2 a1_3 a1_4 a1_5 a1_6 l1_7 l1_8).bind fun t129 => (some (t129, 0))) else (some (false, t128)))) = some (r1, r2) := by first | (rw [hy125]; with_reducible exact H) | (have H2_ := (Option.bind_some _ _).symm.trans H; rw [hy125]; with_reducible exact H2_) | (have H2_ := (Option.bind_some _ _).symm.trans H; with_reducible exact H2_) | with_reducible exact H | (rw [hy125]; exact H) | exact H
 have Ny125 := Aside0.mk hy125
 clear hy125
 replace H := Option.bind_eq_some_iff.mp H
 obtain ⟨t128, A30, H⟩ := H
 replace H : (if t128 = 0 then ((locks_clash.f a0_0 a0_1 a0_2 a0_3 a0_4 a0_5 a0_6 l0_7 l0_8 a1_0 a1_1 a1_2 a1_3 a1_4 a1_5 a1_6 l1_7 l1_8).bind fun t129 => (some (t129, 0))) else (some (false, t128))) = some (r1, r2) := H
 have A3 := Aside0.mk A30
 clear A30
 by_cases c4 : t128 = 0
 ·rw [if_pos c4] at H
  have c4b0 : (t128 == 0) = true := beq_iff_eq.mpr c4
  have c4b1 : (t128 != 0) = false := bne_eq_false_iff_eq.mpr c4
  clear c4
  replace H := Option.bind_eq_some_iff.mp H
  obtain ⟨t129, A50, H⟩ := H
  replace H : (some (t129, 0)) = some (r1, r2) := H
  have A5 := Aside0.mk A50
  clear A50
  simp only [Option.some.injEq, Prod.mk.injEq] at H
  obtain ⟨rfl, rfl⟩ := H
  go_enter Try.func55, Try.ntmps55
  go_wp2_with (first | ((with_reducible refine gate_dst (N := 2) rfl ?_); refine box_event ?hg (N := 2) ?hd (cs := #[.int .i64 a0_0, .int .i64 a0_1, .int .i64 a0_2, .int .i64 a0_3, .string a0_4, .string a0_5, .bool a0_6, .slice A0_7 l0_7.length c0_7, .slice A0_8 l0_8.length c0_8]) (t := 35) ?hr ?_; (case hd => rfl); (case hg => rfl); (case hr => first | (go_simp; done) | (go_simp; rfl)); intro gb123 hg w6 hbox hb; have n0_ := Aside0.mk (Kd.V_below (Kd.V_elderB (by (with_reducible repeat (first | apply Kd.V_alloc | apply Kd.V_drewN | apply Kd.V_drew)); exact HO0_7.out) gb123 (Nat.le_of_eq hg.symm)) hb); have n1_ := Aside0.mk (Kd.V_below (Kd.V_elderB (by (with_reducible repeat (first | apply Kd.V_alloc | apply Kd.V_drewN | apply Kd.V_drew)); exact HO0_8.out) gb123 (Nat.le_of_eq hg.symm)) hb); have n2_ := Aside0.mk (Kd.V_below (Kd.V_elderB (by (with_reducible repeat (first | apply Kd.V_alloc | apply Kd.V_drewN | apply Kd.V_drew)); exact HO1_7.out) gb123 (Nat.le_of_eq hg.symm)) hb); have n3_ := Aside0.mk (Kd.V_below (Kd.V_elderB (by (with_reducible repeat (first | apply Kd.V_alloc | apply Kd.V_drewN | apply Kd.V_drew)); exact HO1_8.out) gb123 (Nat.le_of_eq hg.symm)) hb); have n4_ := Aside0.mk (below_step (by repeat (first | (with_reducible first | exact HB.out | apply below_alloc | apply pw_below_drewN | apply below_drew1) | exact HB.out)) hb); have n5_ := Aside0.mk (hbox); have n6_ := Aside0.mk ((by rw [hg]; exact (below_size (by repeat (first | (with_reducible first | exact HB.out | apply below_alloc | apply pw_below_drewN | apply below_drew1) | exact HB.out))) : w.heap.size ≤ gb123)); have n7_ := Aside0.mk ((by rw [hg]; exact (below_size (by repeat (first | (with_reducible first | exact HB.out | apply below_alloc | apply pw_below_drewN | apply below_drew1) | exact HB.out))) : w.heap.size ≤ gb123)); clear HO0_7; clear HO0_8; clear HO1_7; clear HO1_8; clear HB; have HO0_7 := n0_; have HO0_8 := n1_; have HO1_7 := n2_; have HO1_8 := n3_; have HB := n4_; have BK123 := n5_; have GW123 := n6_; have GE123 := n7_; clear n0_ n1_ n2_ n3_ n4_ n5_ n6_ n7_; clear hb hbox hg) | ((with_reducible refine gate_dst (N := 3) rfl ?_); refine box_event ?hg (N := 3) ?hd (cs := #[.int .i64 a1_0, .int .i64 a1_1, .int .i64 a1_2, .int .i64 a1_3, .string a1_4, .string a1_5, .bool a1_6, .slice A1_7 l1_7.length c1_7, .slice A1_8 l1_8.length c1_8]) (t := 35) ?hr ?_; (case hd => rfl); (case hg => rfl); (case hr => first | (go_simp; done) | (go_simp; rfl)); intro gb124 hg w7 hbox hb; have n0_ := Aside0.mk (Kd.V_below (Kd.V_elderB (by (with_reducible repeat (first | apply Kd.V_alloc | apply Kd.V_drewN | apply Kd.V_drew)); exact HO0_7.out) gb124 (Nat.le_of_eq hg.symm)) hb); have n1_ := Aside0.mk (Kd.V_below (Kd.V_elderB (by (with_reducible repeat (first | apply Kd.V_alloc | apply Kd.V_drewN | apply Kd.V_drew)); exact HO0_8.out) gb124 (Nat.le_of_eq hg.symm)) hb); have n2_ := Aside0.mk (Kd.V_below (Kd.V_elderB (by (with_reducible repeat (first | apply Kd.V_alloc | apply Kd.V_drewN | apply Kd.V_drew)); exact HO1_7.out) gb124 (Nat.le_of_eq hg.symm)) hb); have n3_ := Aside0.mk (Kd.V_below (Kd.V_elderB (by (with_reducible repeat (first | apply Kd.V_alloc | apply Kd.V_drewN | apply Kd.V_drew)); exact HO1_8.out) gb124 (Nat.le_of_eq hg.symm)) hb); have n4_ := Aside0.mk (blk_below (g := gb123) (o := .cells #[.int .i64 a0_0, .int .i64 a0_1, .int .i64 a0_2, .int .i64 a0_3, .string a0_4, .string a0_5, .bool a0_6, .slice A0_7 l0_7.length c0_7, .slice A0_8 l0_8.length c0_8] 35 (0, 0)) (by (with_reducible repeat (first | refine blk_drewN ?_ _ | refine blk_drew ?_ | refine blk_alloc ?_ _)); exact BK123.out) hb); have n5_ := Aside0.mk (below_step (by repeat (first | (with_reducible first | exact HB.out | apply below_alloc | apply pw_below_drewN | apply below_drew1 | refine below_set ?_ GE123.out) | exact HB.out)) hb); have n6_ := Aside0.mk (hbox); have n7_ := Aside0.mk ((by rw [hg]; exact (below_size (by repeat (first | (with_reducible first | exact HB.out | apply below_alloc | apply pw_below_drewN | apply below_drew1 | refine below_set ?_ GE123.out) | exact HB.out))) : w.heap.size ≤ gb124)); have n8_ := Aside0.mk ((by rw [hg]; exact (below_size (by repeat (first | (with_reducible first | exact HB.out | apply below_alloc | apply pw_below_drewN | apply below_drew1 | refine below_set ?_ GE123.out) | exact HB.out))) : w.heap.size ≤ gb124)); have n9_ := Aside0.mk ((by rw [hg]; exact Nat.ne_of_lt (blk_lt (g := gb123) (o := .cells #[.int .i64 a0_0, .int .i64 a0_1, .int .i64 a0_2, .int .i64 a0_3, .string a0_4, .string a0_5, .bool a0_6, .slice A0_7 l0_7.length c0_7, .slice A0_8 l0_8.length c0_8] 35 (0, 0)) (by (with_reducible repeat (first | refine blk_drewN ?_ _ | refine blk_drew ?_ | refine blk_alloc ?_ _)); exact BK123.out)) : gb123 ≠ gb124)); have n10_ := Aside0.mk ((by rw [hg]; exact Nat.ne_of_gt (blk_lt (g := gb123) (o := .cells #[.int .i64 a0_0, .int .i64 a0_1, .int .i64 a0_2, .int .i64 a0_3, .string a0_4, .string a0_5, .bool a0_6, .slice A0_7 l0_7.length c0_7, .slice A0_8 l0_8.length c0_8] 35 (0, 0)) (by (with_reducible repeat (first | refine blk_drewN ?_ _ | refine blk_drew ?_ | refine blk_alloc ?_ _)); exact BK123.out)) : gb124 ≠ gb123)); clear HO0_7; clear HO0_8; clear HO1_7; clear HO1_8; clear BK123; clear HB; have HO0_7 := n0_; have HO0_8 := n1_; have HO1_7 := n2_; have HO1_8 := n3_; have BK123 := n4_; have HB := n5_; have BK124 := n6_; have GW124 := n7_; have GE124 := n8_; have NB123_124 := n9_; have NB124_123 := n10_; clear n0_ n1_ n2_ n3_ n4_ n5_ n6_ n7_ n8_ n9_ n10_; clear hb hbox hg; have hnb8 := NB123_124.out; have hnc8 := NB124_123.out; have hcz9_0 : w7.cell? ⟨gb123, 0, none⟩ = some (.int .i64 a0_0) := (blk_cell BK123.out 0).trans rfl; have hcz9_1 : w7.cell? ⟨gb123, 1, none⟩ = some (.int .i64 a0_1) := (blk_cell BK123.out 1).trans rfl; have hcz9_2 : w7.cell? ⟨gb123, 2, none⟩ = some (.int .i64 a0_2) := (blk_cell BK123.out 2).trans rfl; have hcz9_3 : w7.cell? ⟨gb123, 3, none⟩ = some (.int .i64 a0_3) := (blk_cell BK123.out 3).trans rfl; have hcz9_4 : w7.cell? ⟨gb123, 4, none⟩ = some (.string a0_4) := (blk_cell BK123.out 4).trans rfl; have hcz9_5 : w7.cell? ⟨gb123, 5, none⟩ = some (.string a0_5) := (blk_cell BK123.out 5).trans rfl; have hcz9_6 : w7.cell? ⟨gb123, 6, none⟩ = some (.bool a0_6) := (blk_cell BK123.out 6).trans rfl; have hcz9_7 : w7.cell? ⟨gb123, 7, none⟩ = some (.slice A0_7 l0_7.length c0_7) := (blk_cell BK123.out 7).trans rfl; have hcz9_8 : w7.cell? ⟨gb123, 8, none⟩ = some (.slice A0_8 l0_8.length c0_8) := (blk_cell BK123.out 8).trans rfl; have hfz9_0 := blk_frozen BK123.out 0; have hfz9_1 := blk_frozen BK123.out 1; have hfz9_2 := blk_frozen BK123.out 2; have hfz9_3 := blk_frozen BK123.out 3; have hfz9_4 := blk_frozen BK123.out 4; have hfz9_5 := blk_frozen BK123.out 5; have hfz9_6 := blk_frozen BK123.out 6; have hfz9_7 := blk_frozen BK123.out 7; have hfz9_8 := blk_frozen BK123.out 8; have hcz10_0 : w7.cell? ⟨gb124, 0, none⟩ = some (.int .i64 a1_0) := (blk_cell BK124.out 0).trans rfl; have hcz10_1 : w7.cell? ⟨gb124, 1, none⟩ = some (.int .i64 a1_1) := (blk_cell BK124.out 1).trans rfl; have hcz10_2 : w7.cell? ⟨gb124, 2, none⟩ = some (.int .i64 a1_2) := (blk_cell BK124.out 2).trans rfl; have hcz10_3 : w7.cell? ⟨gb124, 3, none⟩ = some (.int .i64 a1_3) := (blk_cell BK124.out 3).trans rfl; have hcz10_4 : w7.cell? ⟨gb124, 4, none⟩ = some (.string a1_4) := (blk_cell BK124.out 4).trans rfl; have hcz10_5 : w7.cell? ⟨gb124, 5, none⟩ = some (.string a1_5) := (blk_cell BK124.out 5).trans rfl; have hcz10_6 : w7.cell? ⟨gb124, 6, none⟩ = some (.bool a1_6) := (blk_cell BK124.out 6).trans rfl; have hcz10_7 : w7.cell? ⟨gb124, 7, none⟩ = some (.slice A1_7 l1_7.length c1_7) := (blk_cell BK124.out 7).trans rfl; have hcz10_8 : w7.cell? ⟨gb124, 8, none⟩ = some (.slice A1_8 l1_8.length c1_8) := (blk_cell BK124.out 8).trans rfl; have hfz10_0 := blk_frozen BK124.out 0; have hfz10_1 := blk_frozen BK124.out 1; have hfz10_2 := blk_frozen BK124.out 2; have hfz10_3 := blk_frozen BK124.out 3; have hfz10_4 := blk_frozen BK124.out 4; have hfz10_5 := blk_frozen BK124.out 5; have hfz10_6 := blk_frozen BK124.out 6; have hfz10_7 := blk_frozen BK124.out 7; have hfz10_8 := blk_frozen BK124.out 8) | ((with_reducible refine gate_dst (N := 9) rfl ?_); refine Kd.N_lit k35 _ 35 ?hg (N' := 9) ?hd (xs := ([(⟨a0_0, a0_1, a0_2, a0_3, a0_4, a0_5, a0_6, l0_7, l0_8⟩ : S35), (⟨a1_0, a1_1, a1_2, a1_3, a1_4, a1_5, a1_6, l1_7, l1_8⟩ : S35)] : List (S35))) (inner := [.int .i64 a0_0, .int .i64 a0_1, .int .i64 a0_2, .int .i64 a0_3, .string a0_4, .string a0_5, .bool a0_6, .slice A0_7 l0_7.length c0_7, .slice A0_8 l0_8.length c0_8, .int .i64 a1_0, .int .i64 a1_1, .int .i64 a1_2, .int .i64 a1_3, .string a1_4, .string a1_5, .bool a1_6, .slice A1_7 l1_7.length c1_7, .slice A1_8 l1_8.length c1_8]) (ok := (fun k_ => ((P0_7_ k_ ∨ P0_8_ k_ ∨ P1_7_ k_ ∨ P1_8_ k_) ∨ w.heap.size ≤ k_) ∧ k_ ≠ gb123 ∧ k_ ≠ gb124)) (okp := (fun k_ => ((P0_7_ k_ ∨ P0_8_ k_ ∨ P1_7_ k_ ∨ P1_8_ k_) ∨ w.heap.size ≤ k_) ∧ k_ ≠ gb123 ∧ k_ ≠ gb124)) ?hr ?hp (fun _ hk => hk) ((show ∀ k_, w7.heap.size ≤ k_ → (fun k_ => ((P0_7_ k_ ∨ P0_8_ k_ ∨ P1_7_ k_ ∨ P1_8_ k_) ∨ w.heap.size ≤ k_) ∧ k_ ≠ gb123 ∧ k_ ≠ gb124) k_ from fun k_ hk => ⟨(.inr (Nat.le_trans (below_size (by repeat (first | (with_reducible first | exact HB.out | apply below_alloc | apply pw_below_drewN | apply below_drew1 | refine below_set ?_ GE123.out | refine below_set ?_ GE124.out) | exact HB.out))) hk)), Kd.freshB (g := gb123) (o := .cells #[.int .i64 a0_0, .int .i64 a0_1, .int .i64 a0_2, .int .i64 a0_3, .string a0_4, .string a0_5, .bool a0_6, .slice A0_7 l0_7.length c0_7, .slice A0_8 l0_8.length c0_8] 35 (0, 0)) (by (with_reducible repeat (first | refine blk_drewN ?_ _ | refine blk_drew ?_ | refine blk_alloc ?_ _)); exact BK123.out) k_ hk, Kd.freshB (g := gb124) (o := .cells #[.int .i64 a1_0, .int .i64 a1_1, .int .i64 a1_2, .int .i64 a1_3, .string a1_4, .string a1_5, .bool a1_6, .slice A1_7 l1_7.length c1_7, .slice A1_8 l1_8.length c1_8] 35 (0, 0)) (by (with_reducible repeat (first | refine blk_drewN ?_ _ | refine blk_drew ?_ | refine blk_alloc ?_ _)); exact BK124.out) k_ hk⟩) _ (Nat.le_refl _)) (Below.refl _ _) (Nat.le_refl _) (by simp) ?_; (case hd => rfl); (case hg => rfl); (case hr => first | (go_simp; done) | (go_simp; rfl)); (case hp => exact (Reps.c9 (show Kd.FK k35 _ _ (⟨a0_0, a0_1, a0_2, a0_3, a0_4, a0_5, a0_6, l0_7, l0_8⟩ : S35) [.int .i64 a0_0, .int .i64 a0_1, .int .i64 a0_2, .int .i64 a0_3, .string a0_4, .string a0_5, .bool a0_6, .slice A0_7 l0_7.length c0_7, .slice A0_8 l0_8.length c0_8] from (k35_mkF _ _ (⟨a0_0, a0_1, a0_2, a0_3, a0_4, a0_5, a0_6, l0_7, l0_8⟩ : S35) (Kd.V_reads' (Kd.V_mono (ok' := (fun k_ => ((P0_7_ k_ ∨ P0_8_ k_ ∨ P1_7_ k_ ∨ P1_8_ k_) ∨ w.heap.size ≤ k_) ∧ k_ ≠ gb123 ∧ k_ ≠ gb124)) (HO0_7.out) (fun k_ hk => ⟨hk.1.1, ⟨hk.1.2, hk.2⟩⟩))).2.1 (Kd.V_F (Kd.V_mono (ok' := (fun k_ => ((P0_7_ k_ ∨ P0_8_ k_ ∨ P1_7_ k_ ∨ P1_8_ k_) ∨ w.heap.size ≤ k_) ∧ k_ ≠ gb123 ∧ k_ ≠ gb124)) (HO0_7.out) (fun k_ hk => ⟨hk.1.1, ⟨hk.1.2, hk.2⟩⟩))) (Kd.V_reads' (Kd.V_mono (ok' := (fun k_ => ((P0_7_ k_ ∨ P0_8_ k_ ∨ P1_7_ k_ ∨ P1_8_ k_) ∨ w.heap.size ≤ k_) ∧ k_ ≠ gb123 ∧ k_ ≠ gb124)) (HO0_8.out) (fun k_ hk => ⟨hk.1.1, ⟨hk.1.2, hk.2⟩⟩))).2.1 (Kd.V_F (Kd.V_mono (ok' := (fun k_ => ((P0_7_ k_ ∨ P0_8_ k_ ∨ P1_7_ k_ ∨ P1_8_ k_) ∨ w.heap.size ≤ k_) ∧ k_ ≠ gb123 ∧ k_ ≠ gb124)) (HO0_8.out) (fun k_ hk => ⟨hk.1.1, ⟨hk.1.2, hk.2⟩⟩))))) (Reps.c9 (show Kd.FK k35 _ _ (⟨a1_0, a1_1, a1_2, a1_3, a1_4, a1_5, a1_6, l1_7, l1_8⟩ : S35) [.int .i64 a1_0, .int .i64 a1_1, .int .i64 a1_2, .int .i64 a1_3, .string a1_4, .string a1_5, .bool a1_6, .slice A1_7 l1_7.length c1_7, .slice A1_8 l1_8.length c1_8] from (k35_mkF _ _ (⟨a1_0, a1_1, a1_2, a1_3, a1_4, a1_5, a1_6, l1_7, l1_8⟩ : S35) (Kd.V_reads' (Kd.V_mono (ok' := (fun k_ => ((P0_7_ k_ ∨ P0_8_ k_ ∨ P1_7_ k_ ∨ P1_8_ k_) ∨ w.heap.size ≤ k_) ∧ k_ ≠ gb123 ∧ k_ ≠ gb124)) (HO1_7.out) (fun k_ hk => ⟨hk.1.1, ⟨hk.1.2, hk.2⟩⟩))).2.1 (Kd.V_F (Kd.V_mono (ok' := (fun k_ => ((P0_7_ k_ ∨ P0_8_ k_ ∨ P1_7_ k_ ∨ P1_8_ k_) ∨ w.heap.size ≤ k_) ∧ k_ ≠ gb123 ∧ k_ ≠ gb124)) (HO1_7.out) (fun k_ hk => ⟨hk.1.1, ⟨hk.1.2, hk.2⟩⟩))) (Kd.V_reads' (Kd.V_mono (ok' := (fun k_ => ((P0_7_ k_ ∨ P0_8_ k_ ∨ P1_7_ k_ ∨ P1_8_ k_) ∨ w.heap.size ≤ k_) ∧ k_ ≠ gb123 ∧ k_ ≠ gb124)) (HO1_8.out) (fun k_ hk => ⟨hk.1.1, ⟨hk.1.2, hk.2⟩⟩))).2.1 (Kd.V_F (Kd.V_mono (ok' := (fun k_ => ((P0_7_ k_ ∨ P0_8_ k_ ∨ P1_7_ k_ ∨ P1_8_ k_) ∨ w.heap.size ≤ k_) ∧ k_ ≠ gb123 ∧ k_ ≠ gb124)) (HO1_8.out) (fun k_ hk => ⟨hk.1.1, ⟨hk.1.2, hk.2⟩⟩))))) (Reps.none _ _)))); intro v126 w11 ho12 hb hg_ hnew_; clear hg_ hnew_; (first | rw [← Ny125.out] at ho12 | (simp only [Int.reduceToNat] at ho12; rw [← Ny125.out] at ho12)); have n0_ := Aside0.mk (Kd.V_elder' (by (with_reducible repeat (first | apply Kd.V_alloc | apply Kd.V_drewN | apply Kd.V_drew)); exact HO0_7.out) (Kd.N_base ho12) hb); have n1_ := Aside0.mk (Kd.V_elder' (by (with_reducible repeat (first | apply Kd.V_alloc | apply Kd.V_drewN | apply Kd.V_drew)); exact HO0_8.out) (Kd.N_base ho12) hb); have n2_ := Aside0.mk (Kd.V_elder' (by (with_reducible repeat (first | apply Kd.V_alloc | apply Kd.V_drewN | apply Kd.V_drew)); exact HO1_7.out) (Kd.N_base ho12) hb); have n3_ := Aside0.mk (Kd.V_elder' (by (with_reducible repeat (first | apply Kd.V_alloc | apply Kd.V_drewN | apply Kd.V_drew)); exact HO1_8.out) (Kd.N_base ho12) hb); have n4_ := Aside0.mk (Kd.N_lower ho12 (below_size (by repeat (first | (with_reducible first | exact HB.out | apply below_alloc | apply pw_below_drewN | apply below_drew1 | refine below_set ?_ GE123.out | refine below_set ?_ GE124.out) | exact HB.out)))); have n5_ := Aside0.mk (blk_below (g := gb123) (o := .cells #[.int .i64 a0_0, .int .i64 a0_1, .int .i64 a0_2, .int .i64 a0_3, .string a0_4, .string a0_5, .bool a0_6, .slice A0_7 l0_7.length c0_7, .slice A0_8 l0_8.length c0_8] 35 (0, 0)) (by (with_reducible repeat (first | refine blk_drewN ?_ _ | refine blk_drew ?_ | refine blk_alloc ?_ _)); exact BK123.out) hb); have n6_ := Aside0.mk (blk_below (g := gb124) (o := .cells #[.int .i64 a1_0, .int .i64 a1_1, .int .i64 a1_2, .int .i64 a1_3, .string a1_4, .string a1_5, .bool a1_6, .slice A1_7 l1_7.length c1_7, .slice A1_8 l1_8.length c1_8] 35 (0, 0)) (by (with_reducible repeat (first | refine blk_drewN ?_ _ | refine blk_drew ?_ | refine blk_alloc ?_ _)); exact BK124.out) hb); have n7_ := Aside0.mk (below_step (by repeat (first | (with_reducible first | exact HB.out | apply below_alloc | apply pw_below_drewN | apply below_drew1 | refine below_set ?_ GE123.out | refine below_set ?_ GE124.out) | exact HB.out)) hb); clear HO0_7; clear HO0_8; clear HO1_7; clear HO1_8; clear BK123; clear BK124; clear HB; have HO0_7 := n0_; have HO0_8 := n1_; have HO1_7 := n2_; have HO1_8 := n3_; have HO127 := n4_; have BK123 := n5_; have BK124 := n6_; have HB := n7_; clear n0_ n1_ n2_ n3_ n4_ n5_ n6_ n7_; clear hb ho12; obtain ⟨Ao13, co13, eo13⟩ := Kd.N_slice HO127.out; subst eo13) | ((with_reducible refine gate_callee (f := 58) rfl ?_); refine goesL_ (some 10) rfl rfl Try.func58 (by kernel_rfl) rfl #[.slice Ao13 y125.length co13] rfl (by (try simp only [List.map_toArray, List.map_cons, List.map_nil]); first | done | rfl | (simp only [List.length_drop, List.length_take]; rfl)) ?_; (with_reducible refine (locks_wrong.calls k _ _ y125 t128 _ ?side1 ?side2 A3.out).mono ?_); (case side1 => repeat (first | exact (Kd.N_reads' HO127.out).2.2 | (with_reducible refine Kd.C_alloc ?_ _) | (with_reducible refine Kd.C_drewN ?_ _) | (with_reducible refine Kd.C_drew ?_))); (case side2 => exact (Kd.N_reads' HO127.out).2.1); rintro e w14 ⟨rfl, hb⟩; refine ⟨_, rfl, ?_⟩; have n0_ := Aside0.mk (Kd.V_below (by (with_reducible repeat (first | apply Kd.V_alloc | apply Kd.V_drewN | apply Kd.V_drew)); exact HO0_7.out) hb); have n1_ := Aside0.mk (Kd.V_below (by (with_reducible repeat (first | apply Kd.V_alloc | apply Kd.V_drewN | apply Kd.V_drew)); exact HO0_8.out) hb); have n2_ := Aside0.mk (Kd.V_below (by (with_reducible repeat (first | apply Kd.V_alloc | apply Kd.V_drewN | apply Kd.V_drew)); exact HO1_7.out) hb); have n3_ := Aside0.mk (Kd.V_below (by (with_reducible repeat (first | apply Kd.V_alloc | apply Kd.V_drewN | apply Kd.V_drew)); exact HO1_8.out) hb); have n4_ := Aside0.mk (Kd.N_below (by (with_reducible repeat (first | apply Kd.N_alloc | apply Kd.N_drewN | apply Kd.N_drew)); exact HO127.out) hb); have n5_ := Aside0.mk (blk_below (g := gb123) (o := .cells #[.int .i64 a0_0, .int .i64 a0_1, .int .i64 a0_2, .int .i64 a0_3, .string a0_4, .string a0_5, .bool a0_6, .slice A0_7 l0_7.length c0_7, .slice A0_8 l0_8.length c0_8] 35 (0, 0)) (by (with_reducible repeat (first | refine blk_drewN ?_ _ | refine blk_drew ?_ | refine blk_alloc ?_ _)); exact BK123.out) hb); have n6_ := Aside0.mk (blk_below (g := gb124) (o := .cells #[.int .i64 a1_0, .int .i64 a1_1, .int .i64 a1_2, .int .i64 a1_3, .string a1_4, .string a1_5, .bool a1_6, .slice A1_7 l1_7.length c1_7, .slice A1_8 l1_8.length c1_8] 35 (0, 0)) (by (with_reducible repeat (first | refine blk_drewN ?_ _ | refine blk_drew ?_ | refine blk_alloc ?_ _)); exact BK124.out) hb); have n7_ := Aside0.mk (below_step (by repeat (first | (with_reducible first | exact HB.out | apply below_alloc | apply pw_below_drewN | apply below_drew1 | refine below_set ?_ GE123.out | refine below_set ?_ GE124.out) | exact HB.out)) hb); clear HO0_7; clear HO0_8; clear HO1_7; clear HO1_8; clear HO127; clear BK123; clear BK124; clear HB; have HO0_7 := n0_; have HO0_8 := n1_; have HO1_7 := n2_; have HO1_8 := n3_; have HO127 := n4_; have BK123 := n5_; have BK124 := n6_; have HB := n7_; clear n0_ n1_ n2_ n3_ n4_ n5_ n6_ n7_; (try clear hb); (try clear hb2); (try clear hk); (try clear hi); have hcz15_0 : w14.cell? ⟨gb123, 0, none⟩ = some (.int .i64 a0_0) := (blk_cell BK123.out 0).trans rfl; have hcz15_1 : w14.cell? ⟨gb123, 1, none⟩ = some (.int .i64 a0_1) := (blk_cell BK123.out 1).trans rfl; have hcz15_2 : w14.cell? ⟨gb123, 2, none⟩ = some (.int .i64 a0_2) := (blk_cell BK123.out 2).trans rfl; have hcz15_3 : w14.cell? ⟨gb123, 3, none⟩ = some (.int .i64 a0_3) := (blk_cell BK123.out 3).trans rfl; have hcz15_4 : w14.cell? ⟨gb123, 4, none⟩ = some (.string a0_4) := (blk_cell BK123.out 4).trans rfl; have hcz15_5 : w14.cell? ⟨gb123, 5, none⟩ = some (.string a0_5) := (blk_cell BK123.out 5).trans rfl; have hcz15_6 : w14.cell? ⟨gb123, 6, none⟩ = some (.bool a0_6) := (blk_cell BK123.out 6).trans rfl; have hcz15_7 : w14.cell? ⟨gb123, 7, none⟩ = some (.slice A0_7 l0_7.length c0_7) := (blk_cell BK123.out 7).trans rfl; have hcz15_8 : w14.cell? ⟨gb123, 8, none⟩ = some (.slice A0_8 l0_8.length c0_8) := (blk_cell BK123.out 8).trans rfl; have hfz15_0 := blk_frozen BK123.out 0; have hfz15_1 := blk_frozen BK123.out 1; have hfz15_2 := blk_frozen BK123.out 2; have hfz15_3 := blk_frozen BK123.out 3; have hfz15_4 := blk_frozen BK123.out 4; have hfz15_5 := blk_frozen BK123.out 5; have hfz15_6 := blk_frozen BK123.out 6; have hfz15_7 := blk_frozen BK123.out 7; have hfz15_8 := blk_frozen BK123.out 8; have hcz16_0 : w14.cell? ⟨gb124, 0, none⟩ = some (.int .i64 a1_0) := (blk_cell BK124.out 0).trans rfl; have hcz16_1 : w14.cell? ⟨gb124, 1, none⟩ = some (.int .i64 a1_1) := (blk_cell BK124.out 1).trans rfl; have hcz16_2 : w14.cell? ⟨gb124, 2, none⟩ = some (.int .i64 a1_2) := (blk_cell BK124.out 2).trans rfl; have hcz16_3 : w14.cell? ⟨gb124, 3, none⟩ = some (.int .i64 a1_3) := (blk_cell BK124.out 3).trans rfl; have hcz16_4 : w14.cell? ⟨gb124, 4, none⟩ = some (.string a1_4) := (blk_cell BK124.out 4).trans rfl; have hcz16_5 : w14.cell? ⟨gb124, 5, none⟩ = some (.string a1_5) := (blk_cell BK124.out 5).trans rfl; have hcz16_6 : w14.cell? ⟨gb124, 6, none⟩ = some (.bool a1_6) := (blk_cell BK124.out 6).trans rfl; have hcz16_7 : w14.cell? ⟨gb124, 7, none⟩ = some (.slice A1_7 l1_7.length c1_7) := (blk_cell BK124.out 7).trans rfl; have hcz16_8 : w14.cell? ⟨gb124, 8, none⟩ = some (.slice A1_8 l1_8.length c1_8) := (blk_cell BK124.out 8).trans rfl; have hfz16_0 := blk_frozen BK124.out 0; have hfz16_1 := blk_frozen BK124.out 1; have hfz16_2 := blk_frozen BK124.out 2; have hfz16_3 := blk_frozen BK124.out 3; have hfz16_4 := blk_frozen BK124.out 4; have hfz16_5 := blk_frozen BK124.out 5; have hfz16_6 := blk_frozen BK124.out 6; have hfz16_7 := blk_frozen BK124.out 7; have hfz16_8 := blk_frozen BK124.out 8) | ((with_reducible refine gate_callee (f := 61) rfl ?_); refine goesL_ (some 16) rfl rfl Try.func61 (by kernel_rfl) rfl #[.agg #[.int .i64 a0_0, .int .i64 a0_1, .int .i64 a0_2, .int .i64 a0_3, .string a0_4, .string a0_5, .bool a0_6, .slice A0_7 l0_7.length c0_7, .slice A0_8 l0_8.length c0_8], .agg #[.int .i64 a1_0, .int .i64 a1_1, .int .i64 a1_2, .int .i64 a1_3, .string a1_4, .string a1_5, .bool a1_6, .slice A1_7 l1_7.length c1_7, .slice A1_8 l1_8.length c1_8]] rfl (by (try simp only [List.map_toArray, List.map_cons, List.map_nil]); first | done | rfl | (simp only [List.length_drop, List.length_take]; rfl)) ?_; (with_reducible refine (locks_clash.calls a0_0 a0_1 a0_2 a0_3 a0_4 a0_5 a0_6 _ _ l0_7 _ _ l0_8 a1_0 a1_1 a1_2 a1_3 a1_4 a1_5 a1_6 _ _ l1_7 _ _ l1_8 t129 _ ?side1 ?side2 ?side3 ?side4 ?side5 ?side6 ?side7 ?side8 A5.out).mono ?_); (case side1 => repeat (first | exact (Kd.V_reads' HO0_7.out).2.2 | (with_reducible refine Kd.C_alloc ?_ _) | (with_reducible refine Kd.C_drewN ?_ _) | (with_reducible refine Kd.C_drew ?_))); (case side2 => exact (Kd.V_reads' HO0_7.out).2.1); (case side3 => repeat (first | exact (Kd.V_reads' HO0_8.out).2.2 | (with_reducible refine Kd.C_alloc ?_ _) | (with_reducible refine Kd.C_drewN ?_ _) | (with_reducible refine Kd.C_drew ?_))); (case side4 => exact (Kd.V_reads' HO0_8.out).2.1); (case side5 => repeat (first | exact (Kd.V_reads' HO1_7.out).2.2 | (with_reducible refine Kd.C_alloc ?_ _) | (with_reducible refine Kd.C_drewN ?_ _) | (with_reducible refine Kd.C_drew ?_))); (case side6 => exact (Kd.V_reads' HO1_7.out).2.1); (case side7 => repeat (first | exact (Kd.V_reads' HO1_8.out).2.2 | (with_reducible refine Kd.C_alloc ?_ _) | (with_reducible refine Kd.C_drewN ?_ _) | (with_reducible refine Kd.C_drew ?_))); (case side8 => exact (Kd.V_reads' HO1_8.out).2.1); rintro e w17 ⟨rfl, hb⟩; refine ⟨_, rfl, ?_⟩; have n0_ := Aside0.mk (Kd.V_below (by (with_reducible repeat (first | apply Kd.V_alloc | apply Kd.V_drewN | apply Kd.V_drew)); exact HO0_7.out) hb); have n1_ := Aside0.mk (Kd.V_below (by (with_reducible repeat (first | apply Kd.V_alloc | apply Kd.V_drewN | apply Kd.V_drew)); exact HO0_8.out) hb); have n2_ := Aside0.mk (Kd.V_below (by (with_reducible repeat (first | apply Kd.V_alloc | apply Kd.V_drewN | apply Kd.V_drew)); exact HO1_7.out) hb); have n3_ := Aside0.mk (Kd.V_below (by (with_reducible repeat (first | apply Kd.V_alloc | apply Kd.V_drewN | apply Kd.V_drew)); exact HO1_8.out) hb); have n4_ := Aside0.mk (Kd.N_below (by (with_reducible repeat (first | apply Kd.N_alloc | apply Kd.N_drewN | apply Kd.N_drew)); exact HO127.out) hb); have n5_ := Aside0.mk (blk_below (g := gb123) (o := .cells #[.int .i64 a0_0, .int .i64 a0_1, .int .i64 a0_2, .int .i64 a0_3, .string a0_4, .string a0_5, .bool a0_6, .slice A0_7 l0_7.length c0_7, .slice A0_8 l0_8.length c0_8] 35 (0, 0)) (by (with_reducible repeat (first | refine blk_drewN ?_ _ | refine blk_drew ?_ | refine blk_alloc ?_ _)); exact BK123.out) hb); have n6_ := Aside0.mk (blk_below (g := gb124) (o := .cells #[.int .i64 a1_0, .int .i64 a1_1, .int .i64 a1_2, .int .i64 a1_3, .string a1_4, .string a1_5, .bool a1_6, .slice A1_7 l1_7.length c1_7, .slice A1_8 l1_8.length c1_8] 35 (0, 0)) (by (with_reducible repeat (first | refine blk_drewN ?_ _ | refine blk_drew ?_ | refine blk_alloc ?_ _)); exact BK124.out) hb); have n7_ := Aside0.mk (below_step (by repeat (first | (with_reducible first | exact HB.out | apply below_alloc | apply pw_below_drewN | apply below_drew1 | refine below_set ?_ GE123.out | refine below_set ?_ GE124.out) | exact HB.out)) hb); clear HO0_7; clear HO0_8; clear HO1_7; clear HO1_8; clear HO127; clear BK123; clear BK124; clear HB; have HO0_7 := n0_; have HO0_8 := n1_; have HO1_7 := n2_; have HO1_8 := n3_; have HO127 := n4_; have BK123 := n5_; have BK124 := n6_; have HB := n7_; clear n0_ n1_ n2_ n3_ n4_ n5_ n6_ n7_; (try clear hb); (try clear hb2); (try clear hk); (try clear hi)))
  go_ret2
  exact ⟨by first | rfl | (simp [errW_none, errW_some] <;> rfl) | (simp [*, errW_none, errW_some] <;> rfl), by repeat (first | (with_reducible first | exact HB.out | apply below_alloc | apply pw_below_drewN | apply below_drew1 | refine below_set ?_ GE123.out | refine below_set ?_ GE124.out) | exact HB.out)⟩
 ·rw [if_neg c4] at H
  have c4b0 : (t128 == 0) = false := beq_eq_false_iff_ne.mpr c4
  have c4b1 : (t128 != 0) = true := bne_iff_ne.mpr c4
  simp only [Option.some.injEq, Prod.mk.injEq] at H
  obtain ⟨rfl, rfl⟩ := H
  go_enter Try.func55, Try.ntmps55
  go_wp2_with (first | ((with_reducible refine gate_dst (N := 2) rfl ?_); refine box_event ?hg (N := 2) ?hd (cs := #[.int .i64 a0_0, .int .i64 a0_1, .int .i64 a0_2, .int .i64 a0_3, .string a0_4, .string a0_5, .bool a0_6, .slice A0_7 l0_7.length c0_7, .slice A0_8 l0_8.length c0_8]) (t := 35) ?hr ?_; (case hd => rfl); (case hg => rfl); (case hr => first | (go_simp; done) | (go_simp; rfl)); intro gb123 hg w18 hbox hb; have n0_ := Aside0.mk (Kd.V_below (Kd.V_elderB (by (with_reducible repeat (first | apply Kd.V_alloc | apply Kd.V_drewN | apply Kd.V_drew)); exact HO0_7.out) gb123 (Nat.le_of_eq hg.symm)) hb); have n1_ := Aside0.mk (Kd.V_below (Kd.V_elderB (by (with_reducible repeat (first | apply Kd.V_alloc | apply Kd.V_drewN | apply Kd.V_drew)); exact HO0_8.out) gb123 (Nat.le_of_eq hg.symm)) hb); have n2_ := Aside0.mk (Kd.V_below (Kd.V_elderB (by (with_reducible repeat (first | apply Kd.V_alloc | apply Kd.V_drewN | apply Kd.V_drew)); exact HO1_7.out) gb123 (Nat.le_of_eq hg.symm)) hb); have n3_ := Aside0.mk (Kd.V_below (Kd.V_elderB (by (with_reducible repeat (first | apply Kd.V_alloc | apply Kd.V_drewN | apply Kd.V_drew)); exact HO1_8.out) gb123 (Nat.le_of_eq hg.symm)) hb); have n4_ := Aside0.mk (below_step (by repeat (first | (with_reducible first | exact HB.out | apply below_alloc | apply pw_below_drewN | apply below_drew1) | exact HB.out)) hb); have n5_ := Aside0.mk (hbox); have n6_ := Aside0.mk ((by rw [hg]; exact (below_size (by repeat (first | (with_reducible first | exact HB.out | apply below_alloc | apply pw_below_drewN | apply below_drew1) | exact HB.out))) : w.heap.size ≤ gb123)); have n7_ := Aside0.mk ((by rw [hg]; exact (below_size (by repeat (first | (with_reducible first | exact HB.out | apply below_alloc | apply pw_below_drewN | apply below_drew1) | exact HB.out))) : w.heap.size ≤ gb123)); clear HO0_7; clear HO0_8; clear HO1_7; clear HO1_8; clear HB; have HO0_7 := n0_; have HO0_8 := n1_; have HO1_7 := n2_; have HO1_8 := n3_; have HB := n4_; have BK123 := n5_; have GW123 := n6_; have GE123 := n7_; clear n0_ n1_ n2_ n3_ n4_ n5_ n6_ n7_; clear hb hbox hg) | ((with_reducible refine gate_dst (N := 3) rfl ?_); refine box_event ?hg (N := 3) ?hd (cs := #[.int .i64 a1_0, .int .i64 a1_1, .int .i64 a1_2, .int .i64 a1_3, .string a1_4, .string a1_5, .bool a1_6, .slice A1_7 l1_7.length c1_7, .slice A1_8 l1_8.length c1_8]) (t := 35) ?hr ?_; (case hd => rfl); (case hg => rfl); (case hr => first | (go_simp; done) | (go_simp; rfl)); intro gb124 hg w19 hbox hb; have n0_ := Aside0.mk (Kd.V_below (Kd.V_elderB (by (with_reducible repeat (first | apply Kd.V_alloc | apply Kd.V_drewN | apply Kd.V_drew)); exact HO0_7.out) gb124 (Nat.le_of_eq hg.symm)) hb); have n1_ := Aside0.mk (Kd.V_below (Kd.V_elderB (by (with_reducible repeat (first | apply Kd.V_alloc | apply Kd.V_drewN | apply Kd.V_drew)); exact HO0_8.out) gb124 (Nat.le_of_eq hg.symm)) hb); have n2_ := Aside0.mk (Kd.V_below (Kd.V_elderB (by (with_reducible repeat (first | apply Kd.V_alloc | apply Kd.V_drewN | apply Kd.V_drew)); exact HO1_7.out) gb124 (Nat.le_of_eq hg.symm)) hb); have n3_ := Aside0.mk (Kd.V_below (Kd.V_elderB (by (with_reducible repeat (first | apply Kd.V_alloc | apply Kd.V_drewN | apply Kd.V_drew)); exact HO1_8.out) gb124 (Nat.le_of_eq hg.symm)) hb); have n4_ := Aside0.mk (blk_below (g := gb123) (o := .cells #[.int .i64 a0_0, .int .i64 a0_1, .int .i64 a0_2, .int .i64 a0_3, .string a0_4, .string a0_5, .bool a0_6, .slice A0_7 l0_7.length c0_7, .slice A0_8 l0_8.length c0_8] 35 (0, 0)) (by (with_reducible repeat (first | refine blk_drewN ?_ _ | refine blk_drew ?_ | refine blk_alloc ?_ _)); exact BK123.out) hb); have n5_ := Aside0.mk (below_step (by repeat (first | (with_reducible first | exact HB.out | apply below_alloc | apply pw_below_drewN | apply below_drew1 | refine below_set ?_ GE123.out) | exact HB.out)) hb); have n6_ := Aside0.mk (hbox); have n7_ := Aside0.mk ((by rw [hg]; exact (below_size (by repeat (first | (with_reducible first | exact HB.out | apply below_alloc | apply pw_below_drewN | apply below_drew1 | refine below_set ?_ GE123.out) | exact HB.out))) : w.heap.size ≤ gb124)); have n8_ := Aside0.mk ((by rw [hg]; exact (below_size (by repeat (first | (with_reducible first | exact HB.out | apply below_alloc | apply pw_below_drewN | apply below_drew1 | refine below_set ?_ GE123.out) | exact HB.out))) : w.heap.size ≤ gb124)); have n9_ := Aside0.mk ((by rw [hg]; exact Nat.ne_of_lt (blk_lt (g := gb123) (o := .cells #[.int .i64 a0_0, .int .i64 a0_1, .int .i64 a0_2, .int .i64 a0_3, .string a0_4, .string a0_5, .bool a0_6, .slice A0_7 l0_7.length c0_7, .slice A0_8 l0_8.length c0_8] 35 (0, 0)) (by (with_reducible repeat (first | refine blk_drewN ?_ _ | refine blk_drew ?_ | refine blk_alloc ?_ _)); exact BK123.out)) : gb123 ≠ gb124)); have n10_ := Aside0.mk ((by rw [hg]; exact Nat.ne_of_gt (blk_lt (g := gb123) (o := .cells #[.int .i64 a0_0, .int .i64 a0_1, .int .i64 a0_2, .int .i64 a0_3, .string a0_4, .string a0_5, .bool a0_6, .slice A0_7 l0_7.length c0_7, .slice A0_8 l0_8.length c0_8] 35 (0, 0)) (by (with_reducible repeat (first | refine blk_drewN ?_ _ | refine blk_drew ?_ | refine blk_alloc ?_ _)); exact BK123.out)) : gb124 ≠ gb123)); clear HO0_7; clear HO0_8; clear HO1_7; clear HO1_8; clear BK123; clear HB; have HO0_7 := n0_; have HO0_8 := n1_; have HO1_7 := n2_; have HO1_8 := n3_; have BK123 := n4_; have HB := n5_; have BK124 := n6_; have GW124 := n7_; have GE124 := n8_; have NB123_124 := n9_; have NB124_123 := n10_; clear n0_ n1_ n2_ n3_ n4_ n5_ n6_ n7_ n8_ n9_ n10_; clear hb hbox hg; have hnb20 := NB123_124.out; have hnc20 := NB124_123.out; have hcz21_0 : w19.cell? ⟨gb123, 0, none⟩ = some (.int .i64 a0_0) := (blk_cell BK123.out 0).trans rfl; have hcz21_1 : w19.cell? ⟨gb123, 1, none⟩ = some (.int .i64 a0_1) := (blk_cell BK123.out 1).trans rfl; have hcz21_2 : w19.cell? ⟨gb123, 2, none⟩ = some (.int .i64 a0_2) := (blk_cell BK123.out 2).trans rfl; have hcz21_3 : w19.cell? ⟨gb123, 3, none⟩ = some (.int .i64 a0_3) := (blk_cell BK123.out 3).trans rfl; have hcz21_4 : w19.cell? ⟨gb123, 4, none⟩ = some (.string a0_4) := (blk_cell BK123.out 4).trans rfl; have hcz21_5 : w19.cell? ⟨gb123, 5, none⟩ = some (.string a0_5) := (blk_cell BK123.out 5).trans rfl; have hcz21_6 : w19.cell? ⟨gb123, 6, none⟩ = some (.bool a0_6) := (blk_cell BK123.out 6).trans rfl; have hcz21_7 : w19.cell? ⟨gb123, 7, none⟩ = some (.slice A0_7 l0_7.length c0_7) := (blk_cell BK123.out 7).trans rfl; have hcz21_8 : w19.cell? ⟨gb123, 8, none⟩ = some (.slice A0_8 l0_8.length c0_8) := (blk_cell BK123.out 8).trans rfl; have hfz21_0 := blk_frozen BK123.out 0; have hfz21_1 := blk_frozen BK123.out 1; have hfz21_2 := blk_frozen BK123.out 2; have hfz21_3 := blk_frozen BK123.out 3; have hfz21_4 := blk_frozen BK123.out 4; have hfz21_5 := blk_frozen BK123.out 5; have hfz21_6 := blk_frozen BK123.out 6; have hfz21_7 := blk_frozen BK123.out 7; have hfz21_8 := blk_frozen BK123.out 8; have hcz22_0 : w19.cell? ⟨gb124, 0, none⟩ = some (.int .i64 a1_0) := (blk_cell BK124.out 0).trans rfl; have hcz22_1 : w19.cell? ⟨gb124, 1, none⟩ = some (.int .i64 a1_1) := (blk_cell BK124.out 1).trans rfl; have hcz22_2 : w19.cell? ⟨gb124, 2, none⟩ = some (.int .i64 a1_2) := (blk_cell BK124.out 2).trans rfl; have hcz22_3 : w19.cell? ⟨gb124, 3, none⟩ = some (.int .i64 a1_3) := (blk_cell BK124.out 3).trans rfl; have hcz22_4 : w19.cell? ⟨gb124, 4, none⟩ = some (.string a1_4) := (blk_cell BK124.out 4).trans rfl; have hcz22_5 : w19.cell? ⟨gb124, 5, none⟩ = some (.string a1_5) := (blk_cell BK124.out 5).trans rfl; have hcz22_6 : w19.cell? ⟨gb124, 6, none⟩ = some (.bool a1_6) := (blk_cell BK124.out 6).trans rfl; have hcz22_7 : w19.cell? ⟨gb124, 7, none⟩ = some (.slice A1_7 l1_7.length c1_7) := (blk_cell BK124.out 7).trans rfl; have hcz22_8 : w19.cell? ⟨gb124, 8, none⟩ = some (.slice A1_8 l1_8.length c1_8) := (blk_cell BK124.out 8).trans rfl; have hfz22_0 := blk_frozen BK124.out 0; have hfz22_1 := blk_frozen BK124.out 1; have hfz22_2 := blk_frozen BK124.out 2; have hfz22_3 := blk_frozen BK124.out 3; have hfz22_4 := blk_frozen BK124.out 4; have hfz22_5 := blk_frozen BK124.out 5; have hfz22_6 := blk_frozen BK124.out 6; have hfz22_7 := blk_frozen BK124.out 7; have hfz22_8 := blk_frozen BK124.out 8) | ((with_reducible refine gate_dst (N := 9) rfl ?_); refine Kd.N_lit k35 _ 35 ?hg (N' := 9) ?hd (xs := ([(⟨a0_0, a0_1, a0_2, a0_3, a0_4, a0_5, a0_6, l0_7, l0_8⟩ : S35), (⟨a1_0, a1_1, a1_2, a1_3, a1_4, a1_5, a1_6, l1_7, l1_8⟩ : S35)] : List (S35))) (inner := [.int .i64 a0_0, .int .i64 a0_1, .int .i64 a0_2, .int .i64 a0_3, .string a0_4, .string a0_5, .bool a0_6, .slice A0_7 l0_7.length c0_7, .slice A0_8 l0_8.length c0_8, .int .i64 a1_0, .int .i64 a1_1, .int .i64 a1_2, .int .i64 a1_3, .string a1_4, .string a1_5, .bool a1_6, .slice A1_7 l1_7.length c1_7, .slice A1_8 l1_8.length c1_8]) (ok := (fun k_ => ((P0_7_ k_ ∨ P0_8_ k_ ∨ P1_7_ k_ ∨ P1_8_ k_) ∨ w.heap.size ≤ k_) ∧ k_ ≠ gb123 ∧ k_ ≠ gb124)) (okp := (fun k_ => ((P0_7_ k_ ∨ P0_8_ k_ ∨ P1_7_ k_ ∨ P1_8_ k_) ∨ w.heap.size ≤ k_) ∧ k_ ≠ gb123 ∧ k_ ≠ gb124)) ?hr ?hp (fun _ hk => hk) ((show ∀ k_, w19.heap.size ≤ k_ → (fun k_ => ((P0_7_ k_ ∨ P0_8_ k_ ∨ P1_7_ k_ ∨ P1_8_ k_) ∨ w.heap.size ≤ k_) ∧ k_ ≠ gb123 ∧ k_ ≠ gb124) k_ from fun k_ hk => ⟨(.inr (Nat.le_trans (below_size (by repeat (first | (with_reducible first | exact HB.out | apply below_alloc | apply pw_below_drewN | apply below_drew1 | refine below_set ?_ GE123.out | refine below_set ?_ GE124.out) | exact HB.out))) hk)), Kd.freshB (g := gb123) (o := .cells #[.int .i64 a0_0, .int .i64 a0_1, .int .i64 a0_2, .int .i64 a0_3, .string a0_4, .string a0_5, .bool a0_6, .slice A0_7 l0_7.length c0_7, .slice A0_8 l0_8.length c0_8] 35 (0, 0)) (by (with_reducible repeat (first | refine blk_drewN ?_ _ | refine blk_drew ?_ | refine blk_alloc ?_ _)); exact BK123.out) k_ hk, Kd.freshB (g := gb124) (o := .cells #[.int .i64 a1_0, .int .i64 a1_1, .int .i64 a1_2, .int .i64 a1_3, .string a1_4, .string a1_5, .bool a1_6, .slice A1_7 l1_7.length c1_7, .slice A1_8 l1_8.length c1_8] 35 (0, 0)) (by (with_reducible repeat (first | refine blk_drewN ?_ _ | refine blk_drew ?_ | refine blk_alloc ?_ _)); exact BK124.out) k_ hk⟩) _ (Nat.le_refl _)) (Below.refl _ _) (Nat.le_refl _) (by simp) ?_; (case hd => rfl); (case hg => rfl); (case hr => first | (go_simp; done) | (go_simp; rfl)); (case hp => exact (Reps.c9 (show Kd.FK k35 _ _ (⟨a0_0, a0_1, a0_2, a0_3, a0_4, a0_5, a0_6, l0_7, l0_8⟩ : S35) [.int .i64 a0_0, .int .i64 a0_1, .int .i64 a0_2, .int .i64 a0_3, .string a0_4, .string a0_5, .bool a0_6, .slice A0_7 l0_7.length c0_7, .slice A0_8 l0_8.length c0_8] from (k35_mkF _ _ (⟨a0_0, a0_1, a0_2, a0_3, a0_4, a0_5, a0_6, l0_7, l0_8⟩ : S35) (Kd.V_reads' (Kd.V_mono (ok' := (fun k_ => ((P0_7_ k_ ∨ P0_8_ k_ ∨ P1_7_ k_ ∨ P1_8_ k_) ∨ w.heap.size ≤ k_) ∧ k_ ≠ gb123 ∧ k_ ≠ gb124)) (HO0_7.out) (fun k_ hk => ⟨hk.1.1, ⟨hk.1.2, hk.2⟩⟩))).2.1 (Kd.V_F (Kd.V_mono (ok' := (fun k_ => ((P0_7_ k_ ∨ P0_8_ k_ ∨ P1_7_ k_ ∨ P1_8_ k_) ∨ w.heap.size ≤ k_) ∧ k_ ≠ gb123 ∧ k_ ≠ gb124)) (HO0_7.out) (fun k_ hk => ⟨hk.1.1, ⟨hk.1.2, hk.2⟩⟩))) (Kd.V_reads' (Kd.V_mono (ok' := (fun k_ => ((P0_7_ k_ ∨ P0_8_ k_ ∨ P1_7_ k_ ∨ P1_8_ k_) ∨ w.heap.size ≤ k_) ∧ k_ ≠ gb123 ∧ k_ ≠ gb124)) (HO0_8.out) (fun k_ hk => ⟨hk.1.1, ⟨hk.1.2, hk.2⟩⟩))).2.1 (Kd.V_F (Kd.V_mono (ok' := (fun k_ => ((P0_7_ k_ ∨ P0_8_ k_ ∨ P1_7_ k_ ∨ P1_8_ k_) ∨ w.heap.size ≤ k_) ∧ k_ ≠ gb123 ∧ k_ ≠ gb124)) (HO0_8.out) (fun k_ hk => ⟨hk.1.1, ⟨hk.1.2, hk.2⟩⟩))))) (Reps.c9 (show Kd.FK k35 _ _ (⟨a1_0, a1_1, a1_2, a1_3, a1_4, a1_5, a1_6, l1_7, l1_8⟩ : S35) [.int .i64 a1_0, .int .i64 a1_1, .int .i64 a1_2, .int .i64 a1_3, .string a1_4, .string a1_5, .bool a1_6, .slice A1_7 l1_7.length c1_7, .slice A1_8 l1_8.length c1_8] from (k35_mkF _ _ (⟨a1_0, a1_1, a1_2, a1_3, a1_4, a1_5, a1_6, l1_7, l1_8⟩ : S35) (Kd.V_reads' (Kd.V_mono (ok' := (fun k_ => ((P0_7_ k_ ∨ P0_8_ k_ ∨ P1_7_ k_ ∨ P1_8_ k_) ∨ w.heap.size ≤ k_) ∧ k_ ≠ gb123 ∧ k_ ≠ gb124)) (HO1_7.out) (fun k_ hk => ⟨hk.1.1, ⟨hk.1.2, hk.2⟩⟩))).2.1 (Kd.V_F (Kd.V_mono (ok' := (fun k_ => ((P0_7_ k_ ∨ P0_8_ k_ ∨ P1_7_ k_ ∨ P1_8_ k_) ∨ w.heap.size ≤ k_) ∧ k_ ≠ gb123 ∧ k_ ≠ gb124)) (HO1_7.out) (fun k_ hk => ⟨hk.1.1, ⟨hk.1.2, hk.2⟩⟩))) (Kd.V_reads' (Kd.V_mono (ok' := (fun k_ => ((P0_7_ k_ ∨ P0_8_ k_ ∨ P1_7_ k_ ∨ P1_8_ k_) ∨ w.heap.size ≤ k_) ∧ k_ ≠ gb123 ∧ k_ ≠ gb124)) (HO1_8.out) (fun k_ hk => ⟨hk.1.1, ⟨hk.1.2, hk.2⟩⟩))).2.1 (Kd.V_F (Kd.V_mono (ok' := (fun k_ => ((P0_7_ k_ ∨ P0_8_ k_ ∨ P1_7_ k_ ∨ P1_8_ k_) ∨ w.heap.size ≤ k_) ∧ k_ ≠ gb123 ∧ k_ ≠ gb124)) (HO1_8.out) (fun k_ hk => ⟨hk.1.1, ⟨hk.1.2, hk.2⟩⟩))))) (Reps.none _ _)))); intro v126 w23 ho24 hb hg_ hnew_; clear hg_ hnew_; (first | rw [← Ny125.out] at ho24 | (simp only [Int.reduceToNat] at ho24; rw [← Ny125.out] at ho24)); have n0_ := Aside0.mk (Kd.V_elder' (by (with_reducible repeat (first | apply Kd.V_alloc | apply Kd.V_drewN | apply Kd.V_drew)); exact HO0_7.out) (Kd.N_base ho24) hb); have n1_ := Aside0.mk (Kd.V_elder' (by (with_reducible repeat (first | apply Kd.V_alloc | apply Kd.V_drewN | apply Kd.V_drew)); exact HO0_8.out) (Kd.N_base ho24) hb); have n2_ := Aside0.mk (Kd.V_elder' (by (with_reducible repeat (first | apply Kd.V_alloc | apply Kd.V_drewN | apply Kd.V_drew)); exact HO1_7.out) (Kd.N_base ho24) hb); have n3_ := Aside0.mk (Kd.V_elder' (by (with_reducible repeat (first | apply Kd.V_alloc | apply Kd.V_drewN | apply Kd.V_drew)); exact HO1_8.out) (Kd.N_base ho24) hb); have n4_ := Aside0.mk (Kd.N_lower ho24 (below_size (by repeat (first | (with_reducible first | exact HB.out | apply below_alloc | apply pw_below_drewN | apply below_drew1 | refine below_set ?_ GE123.out | refine below_set ?_ GE124.out) | exact HB.out)))); have n5_ := Aside0.mk (blk_below (g := gb123) (o := .cells #[.int .i64 a0_0, .int .i64 a0_1, .int .i64 a0_2, .int .i64 a0_3, .string a0_4, .string a0_5, .bool a0_6, .slice A0_7 l0_7.length c0_7, .slice A0_8 l0_8.length c0_8] 35 (0, 0)) (by (with_reducible repeat (first | refine blk_drewN ?_ _ | refine blk_drew ?_ | refine blk_alloc ?_ _)); exact BK123.out) hb); have n6_ := Aside0.mk (blk_below (g := gb124) (o := .cells #[.int .i64 a1_0, .int .i64 a1_1, .int .i64 a1_2, .int .i64 a1_3, .string a1_4, .string a1_5, .bool a1_6, .slice A1_7 l1_7.length c1_7, .slice A1_8 l1_8.length c1_8] 35 (0, 0)) (by (with_reducible repeat (first | refine blk_drewN ?_ _ | refine blk_drew ?_ | refine blk_alloc ?_ _)); exact BK124.out) hb); have n7_ := Aside0.mk (below_step (by repeat (first | (with_reducible first | exact HB.out | apply below_alloc | apply pw_below_drewN | apply below_drew1 | refine below_set ?_ GE123.out | refine below_set ?_ GE124.out) | exact HB.out)) hb); clear HO0_7; clear HO0_8; clear HO1_7; clear HO1_8; clear BK123; clear BK124; clear HB; have HO0_7 := n0_; have HO0_8 := n1_; have HO1_7 := n2_; have HO1_8 := n3_; have HO127 := n4_; have BK123 := n5_; have BK124 := n6_; have HB := n7_; clear n0_ n1_ n2_ n3_ n4_ n5_ n6_ n7_; clear hb ho24; obtain ⟨Ao25, co25, eo25⟩ := Kd.N_slice HO127.out; subst eo25) | ((with_reducible refine gate_callee (f := 58) rfl ?_); refine goesL_ (some 10) rfl rfl Try.func58 (by kernel_rfl) rfl #[.slice Ao25 y125.length co25] rfl (by (try simp only [List.map_toArray, List.map_cons, List.map_nil]); first | done | rfl | (simp only [List.length_drop, List.length_take]; rfl)) ?_; (with_reducible refine (locks_wrong.calls k _ _ y125 t128 _ ?side1 ?side2 A3.out).mono ?_); (case side1 => repeat (first | exact (Kd.N_reads' HO127.out).2.2 | (with_reducible refine Kd.C_alloc ?_ _) | (with_reducible refine Kd.C_drewN ?_ _) | (with_reducible refine Kd.C_drew ?_))); (case side2 => exact (Kd.N_reads' HO127.out).2.1); rintro e w26 ⟨rfl, hb⟩; refine ⟨_, rfl, ?_⟩; have n0_ := Aside0.mk (Kd.V_below (by (with_reducible repeat (first | apply Kd.V_alloc | apply Kd.V_drewN | apply Kd.V_drew)); exact HO0_7.out) hb); have n1_ := Aside0.mk (Kd.V_below (by (with_reducible repeat (first | apply Kd.V_alloc | apply Kd.V_drewN | apply Kd.V_drew)); exact HO0_8.out) hb); have n2_ := Aside0.mk (Kd.V_below (by (with_reducible repeat (first | apply Kd.V_alloc | apply Kd.V_drewN | apply Kd.V_drew)); exact HO1_7.out) hb); have n3_ := Aside0.mk (Kd.V_below (by (with_reducible repeat (first | apply Kd.V_alloc | apply Kd.V_drewN | apply Kd.V_drew)); exact HO1_8.out) hb); have n4_ := Aside0.mk (Kd.N_below (by (with_reducible repeat (first | apply Kd.N_alloc | apply Kd.N_drewN | apply Kd.N_drew)); exact HO127.out) hb); have n5_ := Aside0.mk (blk_below (g := gb123) (o := .cells #[.int .i64 a0_0, .int .i64 a0_1, .int .i64 a0_2, .int .i64 a0_3, .string a0_4, .string a0_5, .bool a0_6, .slice A0_7 l0_7.length c0_7, .slice A0_8 l0_8.length c0_8] 35 (0, 0)) (by (with_reducible repeat (first | refine blk_drewN ?_ _ | refine blk_drew ?_ | refine blk_alloc ?_ _)); exact BK123.out) hb); have n6_ := Aside0.mk (blk_below (g := gb124) (o := .cells #[.int .i64 a1_0, .int .i64 a1_1, .int .i64 a1_2, .int .i64 a1_3, .string a1_4, .string a1_5, .bool a1_6, .slice A1_7 l1_7.length c1_7, .slice A1_8 l1_8.length c1_8] 35 (0, 0)) (by (with_reducible repeat (first | refine blk_drewN ?_ _ | refine blk_drew ?_ | refine blk_alloc ?_ _)); exact BK124.out) hb); have n7_ := Aside0.mk (below_step (by repeat (first | (with_reducible first | exact HB.out | apply below_alloc | apply pw_below_drewN | apply below_drew1 | refine below_set ?_ GE123.out | refine below_set ?_ GE124.out) | exact HB.out)) hb); clear HO0_7; clear HO0_8; clear HO1_7; clear HO1_8; clear HO127; clear BK123; clear BK124; clear HB; have HO0_7 := n0_; have HO0_8 := n1_; have HO1_7 := n2_; have HO1_8 := n3_; have HO127 := n4_; have BK123 := n5_; have BK124 := n6_; have HB := n7_; clear n0_ n1_ n2_ n3_ n4_ n5_ n6_ n7_; (try clear hb); (try clear hb2); (try clear hk); (try clear hi)))
  go_ret2
  exact ⟨by first | rfl | (simp [errW_none, errW_some] <;> rfl) | (simp [*, errW_none, errW_some] <;> rfl), by repeat (first | (with_reducible first | exact HB.out | apply below_alloc | apply pw_below_drewN | apply below_drew1 | refine below_set ?_ GE123.out | refine below_set ?_ GE124.out) | exact HB.out)⟩

end Go.Proofs.Ytaldfbmjmpkmmaa.PL
namespace Go.Proofs.Ytaldfbmjmpkmmaa.PL.Lk
open Go.Proofs.Ytaldfbmjmpkmmaa.PL Go.RowKit Go.Proofs.YtaldfbmjmpkmmaaW.PrintWords Go.Proofs.YtaldfbmjmpkmmaaW.PrintLast Go.Proofs.YtaldfbmjmpkmmaaW.PrintMore Go.Maps Mk
set_option linter.unusedVariables false
set_option linter.unusedSimpArgs false

theorem k56_heap : Kd.Heap k56 := Kd.heap_iso _ (Kd.heap_pair Kd.heap_string (Kd.heap_pair Kd.heap_string Kd.heap_bool))
theorem C_one1 {α : Type} {d : Kd α} {W : World} {g t : Nat} {cs : Array Value} {x : α} (h : W.heap[g]? = some (.cells cs t (0, 0))) (hk : d.K W x cs.toList) : d.C W (some ⟨g, 0, none⟩) 1 [x] := by
  refine ⟨rfl, by decide, fun _ => ⟨_, rfl, fun j p hj => ?_⟩⟩
  have hj0 : j = 0 := by
    have := (List.getElem?_eq_some_iff.1 hj).1
    simpa using this
  subst hj0
  obtain rfl : x = p := by simpa using hj
  refine ⟨cs.toList, d.K_len hk, hk, fun i u hu => ?_⟩
  have e : (⟨g, 0, none⟩ : Addr).add (0 * d.sz + i) = ⟨g, i, none⟩ := by cases i <;> simp [Addr.add]
  rw [e, blk_cell h i]
  simpa using hu
theorem blk_newI {W : World} {n : Nat} {o : Obj} (h : W.heap.size = n) : (W.alloc o).heap[n]? = some o := h ▸ blk_new W o
def prepR (a0 : Int) (a1 a2 : ByteArray) : S35 := ⟨1, a0, 0, 0, ⟨#[]⟩, ⟨#[]⟩, false, if a1.toList = [] then [] else [a1], if a2.toList = [] then [] else [⟨a2, ⟨#[]⟩, false⟩]⟩
set_option maxRecDepth 100000 in
set_option maxHeartbeats 2000000 in
theorem prep_walk (w : World) (a0 : Int) (a1 a2 : ByteArray) :
    Calls Try.prog 56 #[.int .i64 a0, .string a1, .string a2] w fun e w' => ∃ A7 c7 A8 c8, e = .returned (.agg #[.int .i64 1, .int .i64 a0, .int .i64 0, .int .i64 0, .string (⟨#[]⟩ : ByteArray), .string (⟨#[]⟩ : ByteArray), .bool false, .slice A7 (prepR a0 a1 a2).f7.length c7, .slice A8 (prepR a0 a1 a2).f8.length c8]) ∧
      (prepR a0 a1 a2).f7.length ≤ c7 ∧ Kd.C Kd.string w' A7 (prepR a0 a1 a2).f7.length (prepR a0 a1 a2).f7 ∧ (prepR a0 a1 a2).f8.length ≤ c8 ∧ Kd.C k56 w' A8 (prepR a0 a1 a2).f8.length (prepR a0 a1 a2).f8 ∧ Below w.heap.size w w' := by
  have hu35 := Try.underlying35
  have hu56 := Try.underlying56
  go_enter Try.func56, Try.ntmps56
  go_wp2
  all_goals rename_i h1 h2
  all_goals refine bodyPost_ret (results_cell_row rfl _ _ w.heap.size 35 _ (0, 0) _ rfl (by repeat (first | (refine blk_newI ?_; simp; done) | refine blk_alloc ?_ _)) Try.underlying35 rfl (by kernel_rfl)) rfl ?_
  · have e7 : (prepR a0 a1 a2).f7 = [a1] := by simp [prepR]; simpa using h1
    have e8 : (prepR a0 a1 a2).f8 = [⟨a2, ⟨#[]⟩, false⟩] := by simp [prepR]; simpa using h2
    rw [e7, e8]
    exact ⟨_, _, _, _, rfl, Nat.le_refl _, C_one1 (cs := #[.string a1]) (t := 9) (by repeat (first | (refine blk_newI ?_; simp; done) | refine blk_alloc ?_ _)) rfl, Nat.le_refl _, C_one1 (cs := #[.string a2, .string ⟨#[]⟩, .bool false]) (t := 56) (by repeat (first | (refine blk_newI ?_; simp; done) | refine blk_alloc ?_ _)) (k56_mk _ ⟨a2, ⟨#[]⟩, false⟩), (by repeat (first | exact Below.refl _ _ | apply below_alloc))⟩
  · have e7 : (prepR a0 a1 a2).f7 = [a1] := by simp [prepR]; simpa using h1
    have e8 : (prepR a0 a1 a2).f8 = [] := by simp [prepR]; simpa using h2
    rw [e7, e8]
    exact ⟨_, _, _, _, rfl, Nat.le_refl _, C_one1 (cs := #[.string a1]) (t := 9) (by repeat (first | (refine blk_newI ?_; simp; done) | refine blk_alloc ?_ _)) rfl, Nat.le_refl _, Kd.C_nil _ _, (by repeat (first | exact Below.refl _ _ | apply below_alloc))⟩
  · have e7 : (prepR a0 a1 a2).f7 = [] := by simp [prepR]; simpa using h1
    have e8 : (prepR a0 a1 a2).f8 = [⟨a2, ⟨#[]⟩, false⟩] := by simp [prepR]; simpa using h2
    rw [e7, e8]
    exact ⟨_, _, _, _, rfl, Nat.le_refl _, Kd.C_nil _ _, Nat.le_refl _, C_one1 (cs := #[.string a2, .string ⟨#[]⟩, .bool false]) (t := 56) (by repeat (first | (refine blk_newI ?_; simp; done) | refine blk_alloc ?_ _)) (k56_mk _ ⟨a2, ⟨#[]⟩, false⟩), (by repeat (first | exact Below.refl _ _ | apply below_alloc))⟩
  · have e7 : (prepR a0 a1 a2).f7 = [] := by simp [prepR]; simpa using h1
    have e8 : (prepR a0 a1 a2).f8 = [] := by simp [prepR]; simpa using h2
    rw [e7, e8]
    exact ⟨_, _, _, _, rfl, Nat.le_refl _, Kd.C_nil _ _, Nat.le_refl _, Kd.C_nil _ _, (by repeat (first | exact Below.refl _ _ | apply below_alloc))⟩

def ClashV (a b : S35) : Bool × Int := if wrongV [a, b] = 0 then (clashR a b, 0) else (false, wrongV [a, b])
theorem Clash_f (k : Nat) (hk : 2 < k) (a b : S35) (ha : sizesOk a) (hb : sizesOk b) : locks_Clash.f k a.f0 a.f1 a.f2 a.f3 a.f4 a.f5 a.f6 a.f7 a.f8 b.f0 b.f1 b.f2 b.f3 b.f4 b.f5 b.f6 b.f7 b.f8 = some (ClashV a b) := by
  unfold locks_Clash.f
  rw [show ([(⟨a.f0, a.f1, a.f2, a.f3, a.f4, a.f5, a.f6, a.f7, a.f8⟩ : S35), (⟨b.f0, b.f1, b.f2, b.f3, b.f4, b.f5, b.f6, b.f7, b.f8⟩ : S35)] : List S35) = [a, b] from rfl,
    wrong_f [a, b] (by simp) (fun r hr => by rcases List.mem_cons.1 hr with rfl | hr; exact ha; rcases List.mem_cons.1 hr with rfl | hr; exact hb; cases hr) k (by simpa using hk), Option.bind_some]
  unfold ClashV
  by_cases h : wrongV [a, b] = 0
  · rw [if_pos h, if_pos h, clash_f a b (prep_small a ((wrong_zero _ h).2 a (by simp))) (prep_small b ((wrong_zero _ h).2 b (by simp))), Option.bind_some]
  · rw [if_neg h, if_neg h]
theorem tl0 : (⟨#[]⟩ : ByteArray).toList = [] := by simp [ByteArray.toList, ByteArray.toList.loop, ByteArray.size]
theorem tl1 (x : UInt8) : (⟨#[x]⟩ : ByteArray).toList = [x] := by
  simp [ByteArray.toList, ByteArray.toList.loop, ByteArray.size, ByteArray.get!]
def rA : S35 := ⟨1, 1, 0, 0, ⟨#[]⟩, ⟨#[]⟩, false, [⟨#[97]⟩], [⟨⟨#[98]⟩, ⟨#[]⟩, false⟩]⟩
def rB : S35 := ⟨1, 2, 0, 0, ⟨#[]⟩, ⟨#[]⟩, false, [⟨#[98]⟩], []⟩
def rC : S35 := ⟨1, 1, 0, 0, ⟨#[]⟩, ⟨#[]⟩, false, [⟨#[97]⟩], []⟩
def rD : S35 := ⟨1, 2, 0, 0, ⟨#[]⟩, ⟨#[]⟩, false, [⟨#[97]⟩], []⟩
def rO : S35 := ⟨0, 0, 0, 0, ⟨#[]⟩, ⟨#[]⟩, false, [], []⟩
theorem prepB_A : prepB rA = true := by simp [prepB, recVR, recV, recOk, rangeBad, bareB, listedB, risingB, ris, keyB, writesB, shardB, noneB, rA, tl0, tl1, ByteArray.size]
theorem prepB_B : prepB rB = true := by simp [prepB, recVR, recV, recOk, rangeBad, bareB, listedB, risingB, ris, keyB, writesB, shardB, noneB, rB, tl0, tl1, ByteArray.size]
theorem prepB_C : prepB rC = true := by simp [prepB, recVR, recV, recOk, rangeBad, bareB, listedB, risingB, ris, keyB, writesB, shardB, noneB, rC, tl0, tl1, ByteArray.size]
theorem prepB_D : prepB rD = true := by simp [prepB, recVR, recV, recOk, rangeBad, bareB, listedB, risingB, ris, keyB, writesB, shardB, noneB, rD, tl0, tl1, ByteArray.size]
theorem prepB_O : prepB rO = false := by simp [prepB, rO]
theorem clash_AB : ClashV rA rB = (true, 0) := by
  unfold ClashV
  rw [if_pos (by simp [wrongV, prepB_A, prepB_B])]
  simp [clashR, clashB, rA, rB, strs, wkeys]
theorem clash_CD : ClashV rC rD = (false, 0) := by
  unfold ClashV
  rw [if_pos (by simp [wrongV, prepB_C, prepB_D])]
  simp [clashR, clashB, rC, rD, strs, wkeys]
theorem admit_O : admitV [rO] = ([], 80) := by simp [admitV, wrongV, prepB_O]
theorem prepR_ab : prepR 1 ⟨#[97]⟩ ⟨#[98]⟩ = rA := by simp [prepR, rA, tl1]
theorem prepR_b : prepR 2 ⟨#[98]⟩ ⟨#[]⟩ = rB := by simp [prepR, rB, tl1, tl0]
theorem prepR_c : prepR 1 ⟨#[97]⟩ ⟨#[]⟩ = rC := by simp [prepR, rC, tl1, tl0]
theorem prepR_d : prepR 2 ⟨#[97]⟩ ⟨#[]⟩ = rD := by simp [prepR, rD, tl1, tl0]
theorem V_of {α : Type} {d : Kd α} {e : Nat} {W : World} {A : Option Addr} {c : Nat} {xs : List α} (hd : Kd.Heap d) (h : d.C W A xs.length xs) (hl : xs.length ≤ c) : Kd.V d e W W.heap.size (fun k_ => k_ < W.heap.size) (.slice A xs.length c) xs := Kd.V_mk hl (Kd.C_F hd h)
def quietV (l : List S35) : Bool × Int := (if (admitV l).2 = 0 then ((admitV l).1.length == l.length) else false, (admitV l).2)
set_option maxRecDepth 100000 in
theorem quiet_walk (A0 : Option Addr) (c0 : Nat) (l0 : List (S35)) (w : World) (hr0 : Kd.C k35 w A0 l0.length l0) (hc0 : l0.length ≤ c0) (hs : ∀ r, r ∈ l0 → sizesOk r) :
    Calls Try.prog 57 #[.slice A0 l0.length c0] w fun e w' => e = .returned (.tuple #[.bool (quietV l0).1, .int .i64 (quietV l0).2]) ∧ Below w.heap.size w w' := by
  have hmax := Kd.C_max hr0
  have HA := Aside0.mk (admit_walk A0 c0 l0 w hr0 hc0 hs)
  clear hr0 hc0 hs
  go_enter Try.func57, Try.ntmps57
  go_wp2_with fail
  refine HA.out.mono ?_
  rintro e w1 ⟨v0, rfl, ho, hb⟩
  obtain ⟨A, c, rfl, hlc, hC⟩ := Kd.R_reads ho
  have hm := Kd.C_max hC
  have HB := Aside0.mk hb
  have HQ : Aside0 (quietV l0 = (if (admitV l0).2 = 0 then ((admitV l0).1.length == l0.length) else false, (admitV l0).2)) := ⟨rfl⟩
  clear ho hC hb HA
  generalize (admitV l0).1 = x at *
  generalize (admitV l0).2 = y at *
  have e : ((x.length : Int) == (l0.length : Int)) = (x.length == l0.length) := by rw [Bool.eq_iff_iff]; simp; omega
  have HE := Aside0.mk e
  clear e
  by_cases hy : y = 0
  · have HQ2 : Aside0 (quietV l0 = (x.length == l0.length, 0)) := ⟨by rw [HQ.out, if_pos hy, hy]⟩
    subst hy
    clear HQ
    go_wp2
    go_ret2
    exact ⟨by rw [HQ2.out, ← HE.out]; rfl, HB.out⟩
  · have HQ2 : Aside0 (quietV l0 = (false, y)) := ⟨by rw [HQ.out, if_neg hy]⟩
    clear HQ
    go_wp2
    go_ret2
    exact ⟨by rw [HQ2.out]; rfl, HB.out⟩
def corncriblaw18_works.f : Option (Bool) := some true
set_option maxRecDepth 100000 in
set_option maxHeartbeats 4000000 in
theorem works_walk (w : World) : Calls Try.prog 26 #[] w fun e w' => e = .returned (.bool true) ∧ Below w.heap.size w w' := by
  have hu35 := Try.underlying35
  go_enter Try.func26, Try.ntmps26
  go_wp2_with fail
  refine (prep_walk w 1 _ _).mono ?_
  rintro e w1 ⟨A7, c7, A8, c8, rfl, h7c, h7, h8c, h8, hb1⟩
  rw [prepR_ab] at h7c h7 h8c h8 ⊢
  have H1 := Aside0.mk (And.intro h7c (And.intro h7 (And.intro h8c (And.intro h8 hb1))))
  clear h7c h7 h8c h8 hb1
  go_wp2_with fail
  refine (prep_walk w1 2 _ _).mono ?_
  rintro e w2 ⟨B7, d7, B8, d8, rfl, h7c, h7, h8c, h8, hb2⟩
  rw [prepR_b] at h7c h7 h8c h8 ⊢
  have H2 := Aside0.mk (And.intro h7c (And.intro h7 (And.intro h8c (And.intro h8 (H1.out.2.2.2.2.trans (hb2.mono H1.out.2.2.2.2.size))))))
  have H1b := Aside0.mk (And.intro (Kd.C_below H1.out.2.1 hb2) (Kd.C_below H1.out.2.2.2.1 hb2))
  clear h7c h7 h8c h8 hb2
  go_wp2_with fail
  have hcl := Clash_f 3 (by omega) rA rB (by simp [sizesOk, rA]) (by simp [sizesOk, rB])
  rw [clash_AB] at hcl
  refine (locks_Clash.calls 3 _ _ _ _ _ _ _ _ _ _ rA.f7 _ _ _ rA.f8 _ _ _ _ _ _ _ _ _ _ rB.f7 _ _ _ rB.f8 true 0 w2 (V_of Kd.heap_string H1b.out.1 H1.out.1) (V_of k56_heap H1b.out.2 H1.out.2.2.1) (V_of Kd.heap_string H2.out.2.1 H2.out.1) (V_of k56_heap H2.out.2.2.2.1 H2.out.2.2.1) hcl).mono ?_
  rintro e w3 ⟨rfl, hb3⟩
  have HB3 : Aside0 (Below w.heap.size w w3) := ⟨H2.out.2.2.2.2.trans (hb3.mono H2.out.2.2.2.2.size)⟩
  clear hb3 hcl H1 H1b H2
  go_wp2_with fail
  refine (prep_walk w3 1 _ _).mono ?_
  rintro e w4 ⟨A7, c7, A8, c8, rfl, h7c, h7, h8c, h8, hb1⟩
  rw [prepR_c] at h7c h7 h8c h8 ⊢
  have H1 := Aside0.mk (And.intro h7c (And.intro h7 (And.intro h8c (And.intro h8 (HB3.out.trans (hb1.mono HB3.out.size))))))
  clear h7c h7 h8c h8 hb1
  go_wp2_with fail
  refine (prep_walk w4 2 _ _).mono ?_
  rintro e w5 ⟨B7, d7, B8, d8, rfl, h7c, h7, h8c, h8, hb2⟩
  rw [prepR_d] at h7c h7 h8c h8 ⊢
  have H2 := Aside0.mk (And.intro h7c (And.intro h7 (And.intro h8c (And.intro h8 (H1.out.2.2.2.2.trans (hb2.mono H1.out.2.2.2.2.size))))))
  have H1b := Aside0.mk (And.intro (Kd.C_below H1.out.2.1 hb2) (Kd.C_below H1.out.2.2.2.1 hb2))
  clear h7c h7 h8c h8 hb2
  go_wp2_with fail
  have hcl := Clash_f 3 (by omega) rC rD (by simp [sizesOk, rC]) (by simp [sizesOk, rD])
  rw [clash_CD] at hcl
  refine (locks_Clash.calls 3 _ _ _ _ _ _ _ _ _ _ rC.f7 _ _ _ rC.f8 _ _ _ _ _ _ _ _ _ _ rD.f7 _ _ _ rD.f8 false 0 w5 (V_of Kd.heap_string H1b.out.1 H1.out.1) (V_of k56_heap H1b.out.2 H1.out.2.2.1) (V_of Kd.heap_string H2.out.2.1 H2.out.1) (V_of k56_heap H2.out.2.2.2.1 H2.out.2.2.1) hcl).mono ?_
  rintro e w6 ⟨rfl, hb3⟩
  have HB6 : Aside0 (Below w.heap.size w w6) := ⟨H2.out.2.2.2.2.trans (hb3.mono H2.out.2.2.2.2.size)⟩
  clear hb3 hcl H1 H1b H2
  go_wp2_with fail
  have hO : Kd.C k35 (w6.alloc (.cells #[.int .i64 0, .int .i64 0, .int .i64 0, .int .i64 0, .string (⟨#[]⟩ : ByteArray), .string (⟨#[]⟩ : ByteArray), .bool false, .slice none 0 0, .slice none 0 0] 35)) (some ⟨w6.heap.size, 0, none⟩) [rO].length [rO] :=
    C_one1 (cs := #[.int .i64 0, .int .i64 0, .int .i64 0, .int .i64 0, .string (⟨#[]⟩ : ByteArray), .string (⟨#[]⟩ : ByteArray), .bool false, .slice none 0 0, .slice none 0 0]) (t := 35) (blk_new _ _) (k35_mk _ rO (Nat.le_refl _) (Kd.C_nil _ _) (Nat.le_refl _) (Kd.C_nil _ _))
  have hq := quiet_walk (some ⟨w6.heap.size, 0, none⟩) 1 [rO] _ hO (by simp) (fun r hr => by rw [List.mem_singleton.1 hr]; simp [sizesOk, rO])
  rw [show quietV [rO] = (false, 80) by simp [quietV, admit_O]] at hq
  refine hq.mono ?_
  rintro e w7 ⟨rfl, hb7⟩
  have HB7 : Aside0 (Below w.heap.size w w7) := ⟨(below_alloc HB6.out _).trans (hb7.mono (below_alloc HB6.out _).size)⟩
  clear hb7 hq hO HB6 HB3
  go_wp2_with fail
  go_ret
  exact ⟨rfl, HB7.out⟩
theorem corncriblaw18_works.calls (r : Bool) (w : World) (h : corncriblaw18_works.f = some r) :
    Calls Try.prog 26 #[] w fun e w' => e = .returned (.bool r) ∧ Below w.heap.size w w' := by
  obtain rfl : true = r := by simpa [corncriblaw18_works.f] using h
  exact works_walk w
end Go.Proofs.Ytaldfbmjmpkmmaa.PL.Lk
