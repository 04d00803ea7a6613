/- Texts of this proof, one behind the other (merged by a program of this session). -/
import Derived.Test.YtaldfbmjmpkmmaaM693f75
import Derived.Test.YtaldfbmjmpkmmaaHRfK
import Derived.Test.YtaldfbmjmpkmmaaMc16474
namespace Go.Proofs.Ytaldfbmjmpkmmaa.PL
open Go.RowKit Go.Proofs.YtaldfbmjmpkmmaaW.PrintWords Go.Proofs.YtaldfbmjmpkmmaaW.PrintLast Go.Proofs.YtaldfbmjmpkmmaaW.PrintMore Go.Shelf Go.Maps Go.WideMaps Go.Proofs.Ytaldfbmjmpkmmaa.Mk
set_option linter.unusedVariables false
set_option linter.unusedSimpArgs false
set_option linter.unusedSectionVars false
def ex1 : Rec := ⟨1, 5, 0, 0, ⟨#[]⟩, ⟨#[]⟩, false, [], [⟨⟨#[107]⟩, ⟨#[120]⟩, false⟩]⟩
def ex2 : Rec := ⟨2, 5, 9, 0, ⟨#[]⟩, ⟨#[]⟩, false, [], []⟩
theorem ex_ok1 : applyV sh0 ex1 = (0, ⟨[], [ex1], [], 0⟩) := by kernel_rfl
theorem ex_ok2 : applyV ⟨[], [ex1], [], 0⟩ ex2 = (0, ⟨[([107], [⟨9, ⟨#[120]⟩, false⟩])], [], [(5, 9)], 0⟩) := by kernel_rfl
theorem ex_read1 : readV ⟨[], [ex1], [], 0⟩ (kb ⟨#[107]⟩) 9 = (3, zVer) := by kernel_rfl
theorem ex_read2 : readV ⟨[([107], [⟨9, ⟨#[120]⟩, false⟩])], [], [(5, 9)], 0⟩ (kb ⟨#[107]⟩) 9 = (1, ⟨9, ⟨#[120]⟩, false⟩) := by kernel_rfl
theorem ex_read3 : readV ⟨[([107], [⟨9, ⟨#[120]⟩, false⟩])], [], [(5, 9)], 0⟩ (kb ⟨#[107]⟩) 8 = (0, zVer) := by kernel_rfl
theorem ex_state : stateV ⟨[([107], [⟨9, ⟨#[120]⟩, false⟩])], [], [(5, 9)], 0⟩ 5 = (2, 9) := by kernel_rfl
theorem C_one {α : Type} {d : Kd α} {g : Nat} {e : TypeId} {w : World} {cs : List Value} {x : α} (hb : w.heap[g]? = some (.cells cs.toArray e (0, 0))) (hK : d.K w x cs) : Kd.C d w (some ⟨g, 0, none⟩) 1 [x] := by
  refine ⟨rfl, by decide, fun _ => ⟨⟨g, 0, none⟩, rfl, fun j p hj => ?_⟩⟩
  cases j with
  | succ j => simp at hj
  | zero =>
    simp at hj
    subst hj
    refine ⟨cs, d.K_len hK, hK, fun i u hu => ?_⟩
    have e : ∀ j : Nat, (⟨g, 0, none⟩ : Addr).add j = ⟨g, j, none⟩ := fun j => by unfold Addr.add; split <;> simp_all
    rw [e, Nat.zero_mul, Nat.zero_add, blk_cell hb i]
    simpa using hu
set_option maxRecDepth 100000 in
set_option maxHeartbeats 4000000 in
theorem works_walk (w : World) : Calls Try.prog 11 #[] w fun e w' => e = .returned (.bool true) ∧ Below w.heap.size w w' := by
  have HNW := Aside0.mk (new_walk w)
  go_enter Try.func11, Try.ntmps11
  go_wp2_with fail
  refine HNW.out.mono ?_
  rintro e w1 ⟨b, rfl, hs1, hb1⟩
  obtain ⟨w2, hw2⟩ : ∃ w2, w2 = w1.alloc (.cells #[.string ⟨#[107]⟩, .string ⟨#[120]⟩, .bool false] 56) := ⟨_, rfl⟩
  have hb2 : Below w1.heap.size w1 w2 := by rw [hw2]; exact below_alloc (Below.refl _ _) _
  have hx2 : w2.heap[w1.heap.size]? = some (.cells #[.string ⟨#[107]⟩, .string ⟨#[120]⟩, .bool false] 56 (0, 0)) := by rw [hw2]; exact blk_new _ _
  have hK : k35.K w2 ex1 [.int .i64 1, .int .i64 5, .int .i64 0, .int .i64 0, .string ⟨#[]⟩, .string ⟨#[]⟩, .bool false, .slice none 0 0, .slice (some ⟨w1.heap.size, 0, none⟩) 1 1] :=
    k35_mk w2 ex1 (A7 := none) (c7 := 0) (Nat.le_refl _) (Kd.C_nil _ _) (A8 := some ⟨w1.heap.size, 0, none⟩) (c8 := 1) (Nat.le_refl _) (C_one (cs := [.string ⟨#[107]⟩, .string ⟨#[120]⟩, .bool false]) hx2 (k56_mk w2 ⟨⟨#[107]⟩, ⟨#[120]⟩, false⟩))
  have hap := apply_walk (hs1.below hb2) (by simp [sh0]) (fun g hg => Nat.le_trans (hb1.trans (hb2.mono hb1.size)).size hg) (by decide) ex1 _ hK (by simp [sizesOk, ex1])
  rw [ex_ok1] at hap
  have HAP := Aside0.mk hap
  have HW2 := Aside0.mk hw2
  have HB2 : Aside0 (Below w.heap.size w w2) := ⟨hb1.trans (hb2.mono hb1.size)⟩
  clear hs1 hb1 hb2 hx2 hK hap hw2 HNW
  go_wp2_with fail
  rw [← HW2.out]
  refine HAP.out.mono ?_
  rintro e w3 ⟨rfl, hs3, hc3⟩
  have HB3 : Aside0 (Below w.heap.size w w3) := ⟨hc3.below HB2.out HB2.out.size (fun g hg => hg)⟩
  have hrd := read_walk hs3 ⟨#[107]⟩ (by decide) 9
  rw [ex_read1] at hrd
  have HRD := Aside0.mk hrd
  have HS3 := Aside0.mk hs3
  clear hs3 hc3 hrd HAP
  go_wp2_with fail
  refine HRD.out.mono ?_
  rintro e w4 ⟨rfl, hb4⟩
  have HB4 : Aside0 (Below w.heap.size w w4) := ⟨HB3.out.trans (hb4.mono HB3.out.size)⟩
  have HS4 := Aside0.mk (HS3.out.below hb4)
  clear hb4 HRD HS3
  obtain ⟨w5, hw5⟩ : ∃ w5, w5 = w4.alloc (.cells #[.int .i64 0, .string ⟨#[]⟩, .bool false] 29) := ⟨_, rfl⟩
  have hb5 : Below w4.heap.size w4 w5 := by rw [hw5]; exact below_alloc (Below.refl _ _) _
  have HB5 : Aside0 (Below w.heap.size w w5) := ⟨HB4.out.trans (hb5.mono HB4.out.size)⟩
  have hap := apply_walk (HS4.out.below hb5) (by simp) (fun g hg => Nat.le_trans HB5.out.size hg) (by decide) ex2 _ (k35_mk w5 ex2 (A7 := none) (c7 := 0) (Nat.le_refl _) (Kd.C_nil _ _) (A8 := none) (c8 := 0) (Nat.le_refl _) (Kd.C_nil _ _)) (by simp [sizesOk, ex2])
  rw [ex_ok2] at hap
  have HAP := Aside0.mk hap
  have HW5 := Aside0.mk hw5
  clear hb5 hap hw5 HS4
  have hz : zVer = (⟨0, ⟨#[]⟩, false⟩ : Ver) := rfl
  go_wp2_with fail
  rw [← HW5.out]
  refine HAP.out.mono ?_
  rintro e w6 ⟨rfl, hs6, hc6⟩
  have HB6 : Aside0 (Below w.heap.size w w6) := ⟨hc6.below HB5.out HB5.out.size (fun g hg => hg)⟩
  have hrd := read_walk hs6 ⟨#[107]⟩ (by decide) 9
  rw [ex_read2] at hrd
  have HRD := Aside0.mk hrd
  have HS6 := Aside0.mk hs6
  clear hs6 hc6 hrd HAP
  go_wp2_with fail
  refine HRD.out.mono ?_
  rintro e w7 ⟨rfl, hb7⟩
  have HB7 : Aside0 (Below w.heap.size w w7) := ⟨HB6.out.trans (hb7.mono HB6.out.size)⟩
  have HS7 := Aside0.mk (HS6.out.below hb7)
  clear hb7 HRD HS6
  obtain ⟨w8, hw8⟩ : ∃ w8, w8 = w7.alloc (.cells #[.int .i64 9, .string ⟨#[120]⟩, .bool false] 29) := ⟨_, rfl⟩
  have hb8 : Below w7.heap.size w7 w8 := by rw [hw8]; exact below_alloc (Below.refl _ _) _
  have hx8 : w8.heap[w7.heap.size]? = some (.cells #[.int .i64 9, .string ⟨#[120]⟩, .bool false] 29 (0, 0)) := by rw [hw8]; exact blk_new _ _
  have HB8 : Aside0 (Below w.heap.size w w8) := ⟨HB7.out.trans (hb8.mono HB7.out.size)⟩
  have hrd := read_walk (HS7.out.below hb8) ⟨#[107]⟩ (by decide) 8
  rw [ex_read3] at hrd
  have HRD := Aside0.mk hrd
  have HS8 := Aside0.mk (HS7.out.below hb8)
  have HX8 := Aside0.mk hx8
  have HW8 := Aside0.mk hw8
  clear hb8 hx8 hw8 hrd HS7
  go_wp2_with fail
  rw [← HW8.out]
  refine HRD.out.mono ?_
  rintro e w9 ⟨rfl, hb9⟩
  have HB9 : Aside0 (Below w.heap.size w w9) := ⟨HB8.out.trans (hb9.mono HB8.out.size)⟩
  have HX9 := Aside0.mk (blk_below HX8.out hb9)
  have HS9 := Aside0.mk (HS8.out.below hb9)
  clear hb9 HRD HS8
  obtain ⟨w10, hw10⟩ : ∃ w10, w10 = w9.alloc (.cells #[.int .i64 0, .string ⟨#[]⟩, .bool false] 29) := ⟨_, rfl⟩
  have hb10 : Below w9.heap.size w9 w10 := by rw [hw10]; exact below_alloc (Below.refl _ _) _
  have HB10 : Aside0 (Below w.heap.size w w10) := ⟨HB9.out.trans (hb10.mono HB9.out.size)⟩
  have HX10 := Aside0.mk (blk_below HX9.out hb10)
  have hst := state_walk (HS9.out.below hb10) 5 (by decide)
  rw [ex_state] at hst
  have HST := Aside0.mk hst
  have HW10 := Aside0.mk hw10
  clear hb10 hw10 hst HS9
  go_wp2_with fail
  rw [← HW10.out]
  refine HST.out.mono ?_
  rintro e w11 ⟨rfl, hb11⟩
  have HB11 : Aside0 (Below w.heap.size w w11) := ⟨HB10.out.trans (hb11.mono HB10.out.size)⟩
  have x1 := (blk_cell (blk_below HX10.out hb11) 1).trans rfl
  clear hb11 HST
  go_wp2_with fail
  go_ret
  exact ⟨rfl, HB11.out⟩
theorem made_take (l : List Rec) (k : Nat) (hk : k < l.length) : (l.take (k + 1)).foldl (fun s r => (applyV s r).2) sh0 = (applyV ((l.take k).foldl (fun s r => (applyV s r).2) sh0) (l[k])).2 := by
  rw [List.take_succ_eq_append_getElem hk, List.foldl_append]
  rfl
set_option maxRecDepth 100000 in
set_option maxHeartbeats 4000000 in
theorem made_walk (w : World) (A : Option Addr) (c : Nat) (l : List Rec) (hr : Kd.C k35 w A l.length l) (hs : ∀ r ∈ l, sizesOk r) :
    Calls Try.prog 10 #[.slice A l.length c] w fun e w' => ∃ b, e = .returned (.pointer (some ⟨b, 0, none⟩)) ∧ ShAt w' (fun g => w.heap.size ≤ g) b 960 (madeV l) ∧ Below w.heap.size w w' := by
  have HNW := Aside0.mk (new_walk w)
  have HR := Aside0.mk hr
  have HS := Aside0.mk hs
  have hmax := Kd.C_max hr
  have HMV : Aside0 (madeV l = (l.take 60).foldl (fun s r => (applyV s r).2) sh0) := ⟨rfl⟩
  clear hr hs
  go_enter Try.func10, Try.ntmps10
  go_wp2_with fail
  refine HNW.out.mono ?_
  rintro e w1 ⟨b, rfl, hs1, hb1⟩
  have HS1 : Aside0 (ShAt w1 (fun g => w.heap.size ≤ g) b (16 * 0) ((l.take 0).foldl (fun s r => (applyV s r).2) sh0)) := ⟨hs1⟩
  have HB1 := Aside0.mk hb1
  clear hs1 hb1 HNW
  go_wp2_with fail
  go_loopw [4] (fun i wr => ∃ k : Nat, k ≤ l.length ∧ k ≤ 60 ∧ i = .int .i64 (k : Int) ∧ Aside0 (ShAt wr (fun g => w.heap.size ≤ g) b (16 * k) ((l.take k).foldl (fun s r => (applyV s r).2) sh0)) ∧ Aside0 (Below w.heap.size w wr)) (fun i _ => l.length - (intOf i).toNat)
  case atStart => exact ⟨0, Nat.zero_le _, Nat.zero_le _, rfl, HS1, HB1⟩
  case round =>
    clear HS1 HB1
    obtain ⟨k, hk, hk6, rfl, HSH, HB⟩ := hrel
    by_cases hlt : k < l.length ∧ k < 60
    · obtain ⟨hlt, hlt6⟩ := hlt
      obtain ⟨ad, cs, rfl, hlen, hK, hc0⟩ := Kd.C_get (Kd.C_below HR.out HB.out) (⟨0, 0, 0, 0, ⟨#[]⟩, ⟨#[]⟩, false, [], []⟩ : Rec) (k : Int) (by omega) (by omega)
      rw [Int.toNat_natCast] at hK hc0
      have hget : l.getD k (⟨0, 0, 0, 0, ⟨#[]⟩, ⟨#[]⟩, false, [], []⟩ : Rec) = l[k] := by simp [List.getElem?_eq_getElem hlt]
      rw [hget] at hK
      have hmem : l[k] ∈ l := List.getElem_mem _
      have hmt := made_take l k hlt
      have hend := fold_ends (l.take k) (s := sh0) (by simp [sh0])
      generalize l[k] = r at *
      have hap := apply_walk HSH.out hend (fun g hg => Nat.le_trans HB.out.size hg) (Nat.lt_of_le_of_lt (show 16 * k + 1024 ≤ 960 + 1024 by omega) (by decide)) r cs hK (HS.out r hmem)
      obtain ⟨A7, c7, A8, c8, rfl, l7, g7, l8, g8⟩ := k35_open hK
      have hc : ∀ j u, [Value.int .i64 r.f0, .int .i64 r.f1, .int .i64 r.f2, .int .i64 r.f3, .string r.f4, .string r.f5, .bool r.f6, .slice A7 r.f7.length c7, .slice A8 r.f8.length c8][j]? = some u → wr.cell? (ad.add (k * 9 + j)) = some u := hc0
      have z0 : wr.cell? (ad.add (k * 9)) = some (.int .i64 r.f0) := hc 0 _ rfl
      have z1 : wr.cell? ⟨(ad.add (k * 9)).block, (ad.add (k * 9)).off + 1, none⟩ = some (.int .i64 r.f1) := by rw [← add_field _ _ 1 (by omega)]; exact hc 1 _ rfl
      have z2 : wr.cell? ⟨(ad.add (k * 9)).block, (ad.add (k * 9)).off + 2, none⟩ = some (.int .i64 r.f2) := by rw [← add_field _ _ 2 (by omega)]; exact hc 2 _ rfl
      have z3 : wr.cell? ⟨(ad.add (k * 9)).block, (ad.add (k * 9)).off + 3, none⟩ = some (.int .i64 r.f3) := by rw [← add_field _ _ 3 (by omega)]; exact hc 3 _ rfl
      have z4 : wr.cell? ⟨(ad.add (k * 9)).block, (ad.add (k * 9)).off + 4, none⟩ = some (.string r.f4) := by rw [← add_field _ _ 4 (by omega)]; exact hc 4 _ rfl
      have z5 : wr.cell? ⟨(ad.add (k * 9)).block, (ad.add (k * 9)).off + 5, none⟩ = some (.string r.f5) := by rw [← add_field _ _ 5 (by omega)]; exact hc 5 _ rfl
      have z6 : wr.cell? ⟨(ad.add (k * 9)).block, (ad.add (k * 9)).off + 6, none⟩ = some (.bool r.f6) := by rw [← add_field _ _ 6 (by omega)]; exact hc 6 _ rfl
      have z7 : wr.cell? ⟨(ad.add (k * 9)).block, (ad.add (k * 9)).off + 7, none⟩ = some (.slice A7 r.f7.length c7) := by rw [← add_field _ _ 7 (by omega)]; exact hc 7 _ rfl
      have z8 : wr.cell? ⟨(ad.add (k * 9)).block, (ad.add (k * 9)).off + 8, none⟩ = some (.slice A8 r.f8.length c8) := by rw [← add_field _ _ 8 (by omega)]; exact hc 8 _ rfl
      have HMT := Aside0.mk hmt
      generalize (l.take k).foldl (fun s r => (applyV s r).2) sh0 = s at *
      have HAP := Aside0.mk hap
      clear hap hc hc0 hK l7 g7 l8 g8 hend hmem hget hlen hmt
      go_wp2_with fail
      refine HAP.out.mono ?_
      rintro e w3 ⟨rfl, hs3, hc3⟩
      have HB3 : Aside0 (Below w.heap.size w w3) := ⟨hc3.below HB.out HB.out.size (fun g hg => hg)⟩
      have HS3 : Aside0 (ShAt w3 (fun g => w.heap.size ≤ g) b (16 * (k + 1)) ((l.take (k + 1)).foldl (fun s r => (applyV s r).2) sh0)) := ⟨by rw [HMT.out]; exact hs3⟩
      clear hs3 hc3 HAP HMT z0 z1 z2 z3 z4 z5 z6 z7 z8
      generalize (applyV s r).1 = rv at *
      go_wp2_with fail
      go_roundw
      case rel => exact ⟨k + 1, by omega, by omega, by go_num, HS3, HB3⟩
      case measure => simp [intOf]; omega
    · have HEND : Aside0 (ShAt wr (fun g => w.heap.size ≤ g) b 960 (madeV l)) := ⟨by
        rw [HMV.out]
        have e : l.take 60 = l.take k := by
          by_cases h6 : k = 60
          · rw [h6]
          · rw [List.take_of_length_le (show l.length ≤ 60 by omega), List.take_of_length_le (show l.length ≤ k by omega)]
        rw [e]
        exact HSH.out.mono (by omega)⟩
      by_cases h6 : k < l.length
      · have h60 : ¬ k < 60 := fun h => hlt ⟨h6, h⟩
        clear hlt
        go_wp2
        go_ret
        exact ⟨b, rfl, HEND.out, HB.out⟩
      · clear hlt
        go_wp2
        go_ret
        exact ⟨b, rfl, HEND.out, HB.out⟩
end Go.Proofs.Ytaldfbmjmpkmmaa.PL
namespace Go.Proofs.Ytaldfbmjmpkmmaa.PL
open Go.RowKit Go.Proofs.YtaldfbmjmpkmmaaW.PrintWords Go.Proofs.YtaldfbmjmpkmmaaW.PrintLast Go.Proofs.YtaldfbmjmpkmmaaW.PrintMore Go.Shelf Go.Maps Go.WideMaps Go.Proofs.Ytaldfbmjmpkmmaa.Mk
set_option linter.unusedVariables false
set_option linter.unusedSimpArgs false
set_option linter.unusedSectionVars false
theorem sizesOk_rec {r : Rec} (h : okRec r) : sizesOk r := by
  unfold okRec at h
  unfold sizesOk
  omega
theorem eqA29 (d : Nat) (w : World) (x0 y0 : Int) (x1 y1 : ByteArray) (x2 y2 : Bool) :
  (Op.equalIn (d + 2) 29 (.agg #[.int .i64 x0, .string x1, .bool x2]) (.agg #[.int .i64 y0, .string y1, .bool y2])).run Try.prog w = .ok (x0 == y0 && (x1.toList == y1.toList && (x2 == y2))) w := by
 refine eqA_of Try.underlying29 (by kernel_rfl) ?_
 refine eqf_cons (by rfl) (by go_simp; rfl) (by go_simp; rfl) (by go_simp) ?_
 refine eqf_cons (by rfl) (by go_simp; rfl) (by go_simp; rfl) (by go_simp) ?_
 exact eqf_last (by rfl) (by go_simp; rfl) (by go_simp; rfl) (by go_simp)
section
variable {ok ok' : Nat → Prop} {w w' : World} {b N : Nat} {s : Sh} {bk bp : Nat} {ve : Value} {fk fp : Lit → Option Value}
/-- A shelf's blocks are there: of them alone must be asked what is ok. -/
theorem Parts.narrow (h : Parts w ok b N s bk bp ve fk fp) (hok : ∀ g, ok g → g < w.heap.size → ok' g) : Parts w ok' b N s bk bp ve fk fp :=
  ⟨h.box, h.keys, h.preps, Kd.R_mono (Kd.R_bound h.ends) (fun k hk => hok k hk.1 hk.2.2.1), fun q v hq => by
    obtain ⟨k, h1, h2, h3⟩ := h.kf q v hq
    exact ⟨k, h1, h2, Kd.R_mono (Kd.R_bound h3) (fun k hk => hok k hk.1 hk.2.2.1)⟩, h.kt, fun q v hq => by
    obtain ⟨r, h1, h2, cs, h3, h4⟩ := h.pf q v hq
    exact ⟨r, h1, h2, cs, h3, k35.M_mono (fun k hk => hok k hk.1 hk.2.2.1) (k35.M_bound h4)⟩, h.pt, hok b h.okb (blk_lt h.box), hok bk h.okk h.keys.lt, hok bp h.okp h.preps.lt, h.ne, h.good⟩
theorem ShAt.narrow (h : ShAt w ok b N s) (hok : ∀ g, ok g → g < w.heap.size → ok' g) : ShAt w ok' b N s := by
  obtain ⟨bk, bp, ve, fk, fp, hp⟩ := h
  exact ⟨bk, bp, ve, fk, fp, hp.narrow hok⟩
/-- .. and stay where others change. -/
theorem Parts.apart (h : Parts w ok b N s bk bp ve fk fp) (hc : Chg0 ok' w w') (hd : ∀ g, ok g → ¬ ok' g) : Parts w' ok b N s bk bp ve fk fp :=
  have hb : ∀ g, ok g → g < w.heap.size → w'.heap[g]? = w.heap[g]? := fun g hg hl => hc.block g hl (hd g hg)
  have hm : ∀ {k n : Nat} {x : Nat} {f : Lit → Option Value}, ok x → MapL Try.prog k w x n f → MapL Try.prog k w' x n f := fun hx h => by
    have hl := h.lt
    obtain ⟨D, ⟨es, clock, h1, h2, h3, h4⟩, hh⟩ := h
    exact ⟨D, ⟨es, clock, (hb _ hx hl).trans h1, h2, h3, h4⟩, hh⟩
  ⟨(hb b h.okb (blk_lt h.box)).trans h.box, hm h.okk h.keys, hm h.okp h.preps, R_keep h.ends (fun g hg q _ cells hc => hb g hg (blk_lt hc)), fun q v hq => by
    obtain ⟨k, h1, h2, h3⟩ := h.kf q v hq
    exact ⟨k, h1, h2, R_keep h3 (fun g hg q _ cells hc => hb g hg (blk_lt hc))⟩, h.kt, fun q v hq => by
    obtain ⟨r, h1, h2, cs, h3, h4⟩ := h.pf q v hq
    exact ⟨r, h1, h2, cs, h3, M_keep h4 (fun g hg q _ cells hc => hb g hg (blk_lt hc))⟩, h.pt, h.okb, h.okk, h.okp, h.ne, h.good⟩
theorem ShAt.apart (h : ShAt w ok b N s) (hc : Chg0 ok' w w') (hd : ∀ g, ok g → ¬ ok' g) : ShAt w' ok b N s := by
  obtain ⟨bk, bp, ve, fk, fp, hp⟩ := h
  exact ⟨bk, bp, ve, fk, fp, hp.apart hc hd⟩
end
end Go.Proofs.Ytaldfbmjmpkmmaa.PL
namespace Go.Proofs.Ytaldfbmjmpkmmaa.PL
open Go.RowKit Go.Proofs.YtaldfbmjmpkmmaaW.PrintWords Go.Proofs.YtaldfbmjmpkmmaaW.PrintLast Go.Proofs.YtaldfbmjmpkmmaaW.PrintMore
set_option linter.unusedVariables false
set_option linter.unusedSimpArgs false
set_option linter.unusedSectionVars false
theorem okR_80 {r : Rec} (h : okR r ≠ 0) : okR r = 80 := by
  unfold okR recV at *
  split
  · rfl
  · rename_i h1
    rw [if_neg h1] at h
    split
    · rename_i h2
      rw [if_pos h2] at h
      exact absurd rfl h
    · rfl
set_option maxRecDepth 100000 in
set_option maxHeartbeats 16000000 in
theorem rapply_walk {w : World} {ok : Nat → Prop} {b : Nat} {s : Sh} (h : RfAt w ok b s) (hok : ∀ g, w.heap.size ≤ g → ok g) (r : Rec) (cs : List Value) (hr : Kd.FK k35 w (fun g => ok g ∧ g ≠ b) r cs) (hs : sizesOk r) :
    Calls Try.prog 41 #[.pointer (some ⟨b, 0, none⟩), .agg cs.toArray] w fun e w' => e = .returned (.int .i64 (applyV s r).1) ∧ RfAt w' ok b (applyV s r).2 ∧ Chg0 (fun g => g = b) w w' := by
  have hgood : ShOk s := by obtain ⟨AK, AP, AE, cK, cP, cE, hp⟩ := h; exact hp.good
  obtain ⟨A7, c7, A8, c8, rfl, l7, g7, l8, g8⟩ := k35_openF hr
  obtain ⟨wy, hwy⟩ : ∃ wy, wy = w.alloc (.cells #[.int .i64 r.f0, .int .i64 r.f1, .int .i64 r.f2, .int .i64 r.f3, .string r.f4, .string r.f5, .bool r.f6, .slice A7 r.f7.length c7, .slice A8 r.f8.length c8] 35) := ⟨_, rfl⟩
  have hby : Below w.heap.size w wy := by rw [hwy]; exact below_alloc (Below.refl _ _) _
  have hyx : wy.heap[w.heap.size]? = some (.cells #[.int .i64 r.f0, .int .i64 r.f1, .int .i64 r.f2, .int .i64 r.f3, .string r.f4, .string r.f5, .bool r.f6, .slice A7 r.f7.length c7, .slice A8 r.f8.length c8] 35 (0, 0)) := by rw [hwy]; exact blk_new _ _
  have HWY := Aside0.mk hwy
  have HBY := Aside0.mk hby
  have HYX := Aside0.mk hyx
  have HS := Aside0.mk h
  have HG := Aside0.mk hgood
  have HOK := Aside0.mk hok
  have HFR := Aside0.mk hr
  have HCK : Aside0 (Calls Try.prog 85 #[.agg #[.int .i64 r.f0, .int .i64 r.f1, .int .i64 r.f2, .int .i64 r.f3, .string r.f4, .string r.f5, .bool r.f6, .slice A7 r.f7.length c7, .slice A8 r.f8.length c8]] wy fun e w' => e = .returned (.int .i64 (okR r)) ∧ Below wy.heap.size wy w') := ⟨refCheck_walk wy r.f0 r.f1 r.f2 r.f3 r.f4 r.f5 r.f6 A7 c7 r.f7 A8 c8 r.f8 (Kd.C_below (Kd.F_now g7) hby) l7 (Kd.C_below (Kd.F_now g8) hby) l8 hs.2⟩
  have HAV : Aside0 (applyV s r = if okR r = 0 then
    (if r.f0 = 1 then prepV s r
    else if r.f0 = 2 then doV s r.f1 r.f2
    else if r.f0 = 4 then sweepV s r.f2
    else if r.f0 = 3 then (if roomV s [verW r] r.f2 = 0 then (0, { s with K := putV s.K [verW r] r.f2 }) else (roomV s [verW r] r.f2, s))
    else (80, s))
  else (okR r, s)) := ⟨rfl⟩
  have HOKR := Aside0.mk (fun hz => okR_all (r := r) hz)
  have HVF := Aside0.mk (fun hz he => ver_facts (r := r) hz he)
  have HVP := Aside0.mk (fun hz he hm => ver_put (s := s) (r := r) hz he hm)
  have HPRE : Aside0 (∀ W, Below w.heap.size w W → r.f0 = 1 → okR r = 0 → Calls Try.prog 86 #[.pointer (some ⟨b, 0, none⟩), .agg #[.int .i64 r.f0, .int .i64 r.f1, .int .i64 r.f2, .int .i64 r.f3, .string r.f4, .string r.f5, .bool r.f6, .slice A7 r.f7.length c7, .slice A8 r.f8.length c8]] W fun e w' => e = .returned (.int .i64 (prepV s r).1) ∧ RfAt w' ok b (prepV s r).2 ∧ Chg0 (fun g => g = b) W w') := ⟨fun W hW h0 hz => rprepare_walk (HS.out.below hW) (fun g hg => HOK.out g (Nat.le_trans hW.size hg)) r _ (Kd.FK_step HFR.out (fun k _ hk => hW.block k hk)) h0 hz⟩
  obtain ⟨q0, q1, q2, q3, q4, q5, q6, q7, q8⟩ := rec_cells hyx
  have h80 := okR_80 (r := r)
  clear h hok hr hgood g7 g8 l7 l8 hby hyx hwy
  generalize applyV s r = av at *
  generalize okR r = k at *
  go_enter Try.func41, Try.ntmps41
  go_wp2_with fail
  rw [← HWY.out]
  refine HCK.out.mono ?_
  rintro e w1 ⟨rfl, hb1⟩
  have HB1 : Aside0 (Below w.heap.size w w1) := ⟨HBY.out.trans (hb1.mono HBY.out.size)⟩
  have HX1 := Aside0.mk (blk_below HYX.out hb1)
  have HS1 := Aside0.mk (HS.out.below HB1.out)
  have OK1 : Aside0 (∀ g, w1.heap.size ≤ g → ok g) := ⟨fun g hg => HOK.out g (Nat.le_trans HB1.out.size hg)⟩
  clear q0 q1 q2 q3 q4 q5 q6 q7 q8 hb1 HCK HYX HBY HWY
  obtain ⟨q0, q1, q2, q3, q4, q5, q6, q7, q8⟩ := rec_cells HX1.out
  by_cases hk : k = 0
  · subst hk
    clear h80
    rw [if_pos rfl] at HAV
    by_cases k1 : r.f0 = 1
    · rw [if_pos k1] at HAV
      have b1 : (r.f0 == 1) = true := by simpa using k1
      have HP := Aside0.mk (HPRE.out w1 HB1.out k1 rfl)
      generalize prepV s r = pv at *
      obtain rfl := HAV.out
      clear HAV k1 HPRE HOKR HVF HVP
      go_wp2_with fail
      refine HP.out.mono ?_
      rintro e w2 ⟨rfl, hs2, hc2⟩
      have HS2 := Aside0.mk hs2
      have HC2 := Aside0.mk hc2
      clear hs2 hc2 HP q0 q1 q2 q3 q4 q5 q6 q7 q8
      go_wp2_with fail
      go_ret
      exact ⟨rfl, HS2.out, (Chg0.of_below HB1.out).trans HC2.out⟩
    · rw [if_neg k1] at HAV
      have b1 : (r.f0 == 1) = false := by simpa using k1
      by_cases k2 : r.f0 = 2
      · rw [if_pos k2] at HAV
        have b2 : (r.f0 == 2) = true := by simpa using k2
        have HD := Aside0.mk (rdo_walk HS1.out OK1.out r.f1 r.f2 (HOKR.out rfl).2.1)
        generalize doV s r.f1 r.f2 = pv at *
        obtain rfl := HAV.out
        clear HAV k1 k2 HPRE HOKR HVF HVP
        go_wp2_with fail
        refine HD.out.mono ?_
        rintro e w2 ⟨rfl, hs2, hc2⟩
        have HS2 := Aside0.mk hs2
        have HC2 := Aside0.mk hc2
        clear hs2 hc2 HD q0 q1 q2 q3 q4 q5 q6 q7 q8
        go_wp2_with fail
        go_ret
        exact ⟨rfl, HS2.out, (Chg0.of_below HB1.out).trans HC2.out⟩
      · rw [if_neg k2] at HAV
        have b2 : (r.f0 == 2) = false := by simpa using k2
        by_cases k4 : r.f0 = 4
        · rw [if_pos k4] at HAV
          have b4 : (r.f0 == 4) = true := by simpa using k4
          have b3 : (r.f0 == 3) = false := by simp [k4]
          have HD := Aside0.mk (rsweep_walk HS1.out OK1.out r.f2 (HOKR.out rfl).2.1.2)
          generalize sweepV s r.f2 = pv at *
          obtain rfl := HAV.out
          clear HAV k1 k2 k4 HPRE HOKR HVF HVP
          go_wp2_with fail
          refine HD.out.mono ?_
          rintro e w2 ⟨rfl, hs2, hc2⟩
          have HS2 := Aside0.mk hs2
          have HC2 := Aside0.mk hc2
          clear hs2 hc2 HD q0 q1 q2 q3 q4 q5 q6 q7 q8
          go_wp2_with fail
          go_ret
          exact ⟨rfl, HS2.out, (Chg0.of_below HB1.out).trans HC2.out⟩
        · rw [if_neg k4] at HAV
          have b4 : (r.f0 == 4) = false := by simpa using k4
          by_cases k3 : r.f0 = 3
          · rw [if_pos k3] at HAV
            have b3 : (r.f0 == 3) = true := by simpa using k3
            obtain ⟨vf1, vf2, vf3, vf4⟩ := HVF.out k3 rfl
            have hvo : VerOk ⟨r.f2, r.f5, r.f6⟩ := ⟨by show 1 ≤ r.f2; omega, (HOKR.out rfl).2.1.2, vf3, vf4⟩
            have HVO := Aside0.mk hvo
            have HPK : Aside0 (roomV s [verW r] r.f2 = 0 → PutOk s.K [verW r] r.f2) := ⟨fun hm => HVP.out k3 rfl hm⟩
            obtain ⟨w3, hw3⟩ : ∃ w3, w3 = w1.alloc (.cells #[.int .i64 r.f2, .string r.f5, .bool r.f6] 29) := ⟨_, rfl⟩
            have hb3 : Below w1.heap.size w1 w3 := by rw [hw3]; exact below_alloc (Below.refl _ _) _
            have hy3 : w3.heap[w1.heap.size]? = some (.cells #[.int .i64 r.f2, .string r.f5, .bool r.f6] 29 (0, 0)) := by rw [hw3]; exact blk_new _ _
            have HX3 := Aside0.mk (blk_below HX1.out hb3)
            have HY3 := Aside0.mk hy3
            have HW3 := Aside0.mk hw3
            have HB3 : Aside0 (Below w.heap.size w w3) := ⟨HB1.out.trans (hb3.mono HB1.out.size)⟩
            have HS3 := Aside0.mk (HS1.out.below hb3)
            have HM : Aside0 (Calls Try.prog 88 #[.pointer (some ⟨b, 0, none⟩), .string r.f4, .agg #[.int .i64 r.f2, .string r.f5, .bool r.f6]] w3 fun e w' => e = .returned (.int .i64 (roomV s [verW r] r.f2)) ∧ Below w3.heap.size w3 w') := ⟨rmay_walk HS3.out (verW r) r.f2 hvo⟩
            have HAD : Aside0 (∀ W, Below w3.heap.size w3 W → roomV s [verW r] r.f2 = 0 → Calls Try.prog 89 #[.pointer (some ⟨b, 0, none⟩), .string r.f4, .agg #[.int .i64 r.f2, .string r.f5, .bool r.f6]] W fun e w' => e = .returned (.tuple #[]) ∧ RfAt w' ok b { s with K := putV s.K [verW r] r.f2 } ∧ Chg0 (fun g => g = b) W w') := ⟨fun W hW hm => by
              have hp := HPK.out hm
              exact radd_walk (HS3.out.below hW) (fun g hg => HOK.out g (Nat.le_trans (HB3.out.trans (hW.mono HB3.out.size)).size hg)) (verW r) r.f2 HVO.out (hp.last _ List.mem_cons_self) (cntK_le hp.room).1 (put1_ok HG.out.keys hp).1⟩
            clear vf1 vf2 vf3 vf4 hvo hw3 hb3 hy3 k1 k2 k4 k3 HPRE HOKR HVF HVP HPK HVO
            have y0 := blk_cell HY3.out 0
            have y1 := blk_cell HY3.out 1
            have y2 := blk_cell HY3.out 2
            rw [HW3.out] at y0 y1 y2
            have x4 : (w1.alloc (.cells #[.int .i64 r.f2, .string r.f5, .bool r.f6] 29)).cell? ⟨w.heap.size, 4, none⟩ = some (.string r.f4) := by rw [← HW3.out, blk_cell HX3.out 4]; rfl
            generalize roomV s [verW r] r.f2 = rm at *
            go_wp2_with fail
            rw [← HW3.out]
            refine HM.out.mono ?_
            rintro e w4 ⟨rfl, hb4⟩
            have HB4 : Aside0 (Below w.heap.size w w4) := ⟨HB3.out.trans (hb4.mono HB3.out.size)⟩
            have HS4 := Aside0.mk (HS3.out.below hb4)
            have HX4 := Aside0.mk (blk_below HX3.out hb4)
            have HY4 := Aside0.mk (blk_below HY3.out hb4)
            have HAD4 := Aside0.mk (HAD.out w4 hb4)
            clear q0 q1 q2 q3 q4 q5 q6 q7 q8 y0 y1 y2 x4 hb4 HM HAD
            have y0 := blk_cell HY4.out 0
            have y1 := blk_cell HY4.out 1
            have y2 := blk_cell HY4.out 2
            obtain ⟨q0, q1, q2, q3, q4, q5, q6, q7, q8⟩ := rec_cells HX4.out
            by_cases hm : rm = 0
            · have HA := Aside0.mk (HAD4.out hm)
              rw [if_pos hm] at HAV
              subst hm
              obtain rfl := HAV.out
              clear HAV HAD4
              go_wp2_with fail
              refine HA.out.mono ?_
              rintro e w5 ⟨rfl, hs5, hc5⟩
              have HS5 := Aside0.mk hs5
              have HC5 := Aside0.mk hc5
              clear hs5 hc5 HA q0 q1 q2 q3 q4 q5 q6 q7 q8 y0 y1 y2
              go_wp2_with fail
              go_ret
              exact ⟨rfl, HS5.out, (Chg0.of_below HB4.out).trans HC5.out⟩
            · have d1 : (rm == 0) = false := by simpa using hm
              have d2 : (rm != 0) = true := by simpa using hm
              rw [if_neg hm] at HAV
              obtain rfl := HAV.out
              clear HAV HAD4 hm
              go_wp2_with fail
              go_ret
              exact ⟨rfl, HS4.out, Chg0.of_below HB4.out⟩
          · rw [if_neg k3] at HAV
            have b3 : (r.f0 == 3) = false := by simpa using k3
            obtain rfl := HAV.out
            clear HAV k1 k2 k4 k3 HPRE HOKR HVF HVP
            go_wp2_with fail
            go_ret
            exact ⟨rfl, HS1.out, Chg0.of_below HB1.out⟩
  · obtain rfl := h80 hk
    rw [if_neg (by decide)] at HAV
    obtain rfl := HAV.out
    clear HAV hk HPRE HOKR HVF HVP
    go_wp2_with fail
    go_ret
    exact ⟨rfl, HS1.out, Chg0.of_below HB1.out⟩
end Go.Proofs.Ytaldfbmjmpkmmaa.PL
