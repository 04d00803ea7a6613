/- A shelf in memory: records applied one after the other; the chapter's example. -/
import Derived.Test.YtaldfbmjmpkmmaaHShW
namespace Go.Proofs.Ytaldfbmjmpkmmaa.PL
open Go.RowKit Go.Proofs.YtaldfbmjmpkmmaaW.PrintWords Go.Proofs.YtaldfbmjmpkmmaaW.PrintLast Go.Proofs.YtaldfbmjmpkmmaaW.PrintMore Go.Shelf Go.Maps Go.WideMaps Go.Proofs.Ytaldfbmjmpkmmaa.Mk
set_option linter.unusedVariables false
set_option linter.unusedSimpArgs false
set_option linter.unusedSectionVars false
def ex1 : Rec := ⟨1, 5, 0, 0, ⟨#[]⟩, ⟨#[]⟩, false, [], [⟨⟨#[107]⟩, ⟨#[120]⟩, false⟩]⟩
def ex2 : Rec := ⟨2, 5, 9, 0, ⟨#[]⟩, ⟨#[]⟩, false, [], []⟩
theorem ex_ok1 : applyV sh0 ex1 = (0, ⟨[], [ex1], [], 0⟩) := by kernel_rfl
theorem ex_ok2 : applyV ⟨[], [ex1], [], 0⟩ ex2 = (0, ⟨[([107], [⟨9, ⟨#[120]⟩, false⟩])], [], [(5, 9)], 0⟩) := by kernel_rfl
theorem ex_read1 : readV ⟨[], [ex1], [], 0⟩ (kb ⟨#[107]⟩) 9 = (3, zVer) := by kernel_rfl
theorem ex_read2 : readV ⟨[([107], [⟨9, ⟨#[120]⟩, false⟩])], [], [(5, 9)], 0⟩ (kb ⟨#[107]⟩) 9 = (1, ⟨9, ⟨#[120]⟩, false⟩) := by kernel_rfl
theorem ex_read3 : readV ⟨[([107], [⟨9, ⟨#[120]⟩, false⟩])], [], [(5, 9)], 0⟩ (kb ⟨#[107]⟩) 8 = (0, zVer) := by kernel_rfl
theorem ex_state : stateV ⟨[([107], [⟨9, ⟨#[120]⟩, false⟩])], [], [(5, 9)], 0⟩ 5 = (2, 9) := by kernel_rfl
theorem C_one {α : Type} {d : Kd α} {g : Nat} {e : TypeId} {w : World} {cs : List Value} {x : α} (hb : w.heap[g]? = some (.cells cs.toArray e (0, 0))) (hK : d.K w x cs) : Kd.C d w (some ⟨g, 0, none⟩) 1 [x] := by
  refine ⟨rfl, by decide, fun _ => ⟨⟨g, 0, none⟩, rfl, fun j p hj => ?_⟩⟩
  cases j with
  | succ j => simp at hj
  | zero =>
    simp at hj
    subst hj
    refine ⟨cs, d.K_len hK, hK, fun i u hu => ?_⟩
    have e : ∀ j : Nat, (⟨g, 0, none⟩ : Addr).add j = ⟨g, j, none⟩ := fun j => by unfold Addr.add; split <;> simp_all
    rw [e, Nat.zero_mul, Nat.zero_add, blk_cell hb i]
    simpa using hu
set_option maxRecDepth 100000 in
set_option maxHeartbeats 4000000 in
theorem works_walk (w : World) : Calls Try.prog 11 #[] w fun e w' => e = .returned (.bool true) ∧ Below w.heap.size w w' := by
  have HNW := Aside0.mk (new_walk w)
  go_enter Try.func11, Try.ntmps11
  go_wp2_with fail
  refine HNW.out.mono ?_
  rintro e w1 ⟨b, rfl, hs1, hb1⟩
  obtain ⟨w2, hw2⟩ : ∃ w2, w2 = w1.alloc (.cells #[.string ⟨#[107]⟩, .string ⟨#[120]⟩, .bool false] 56) := ⟨_, rfl⟩
  have hb2 : Below w1.heap.size w1 w2 := by rw [hw2]; exact below_alloc (Below.refl _ _) _
  have hx2 : w2.heap[w1.heap.size]? = some (.cells #[.string ⟨#[107]⟩, .string ⟨#[120]⟩, .bool false] 56 (0, 0)) := by rw [hw2]; exact blk_new _ _
  have hK : k35.K w2 ex1 [.int .i64 1, .int .i64 5, .int .i64 0, .int .i64 0, .string ⟨#[]⟩, .string ⟨#[]⟩, .bool false, .slice none 0 0, .slice (some ⟨w1.heap.size, 0, none⟩) 1 1] :=
    k35_mk w2 ex1 (A7 := none) (c7 := 0) (Nat.le_refl _) (Kd.C_nil _ _) (A8 := some ⟨w1.heap.size, 0, none⟩) (c8 := 1) (Nat.le_refl _) (C_one (cs := [.string ⟨#[107]⟩, .string ⟨#[120]⟩, .bool false]) hx2 (k56_mk w2 ⟨⟨#[107]⟩, ⟨#[120]⟩, false⟩))
  have hap := apply_walk (hs1.below hb2) (by simp [sh0]) (fun g hg => Nat.le_trans (hb1.trans (hb2.mono hb1.size)).size hg) (by decide) ex1 _ hK (by simp [sizesOk, ex1])
  rw [ex_ok1] at hap
  have HAP := Aside0.mk hap
  have HW2 := Aside0.mk hw2
  have HB2 : Aside0 (Below w.heap.size w w2) := ⟨hb1.trans (hb2.mono hb1.size)⟩
  clear hs1 hb1 hb2 hx2 hK hap hw2 HNW
  go_wp2_with fail
  rw [← HW2.out]
  refine HAP.out.mono ?_
  rintro e w3 ⟨rfl, hs3, hc3⟩
  have HB3 : Aside0 (Below w.heap.size w w3) := ⟨hc3.below HB2.out HB2.out.size (fun g hg => hg)⟩
  have hrd := read_walk hs3 ⟨#[107]⟩ (by decide) 9
  rw [ex_read1] at hrd
  have HRD := Aside0.mk hrd
  have HS3 := Aside0.mk hs3
  clear hs3 hc3 hrd HAP
  go_wp2_with fail
  refine HRD.out.mono ?_
  rintro e w4 ⟨rfl, hb4⟩
  have HB4 : Aside0 (Below w.heap.size w w4) := ⟨HB3.out.trans (hb4.mono HB3.out.size)⟩
  have HS4 := Aside0.mk (HS3.out.below hb4)
  clear hb4 HRD HS3
  obtain ⟨w5, hw5⟩ : ∃ w5, w5 = w4.alloc (.cells #[.int .i64 0, .string ⟨#[]⟩, .bool false] 29) := ⟨_, rfl⟩
  have hb5 : Below w4.heap.size w4 w5 := by rw [hw5]; exact below_alloc (Below.refl _ _) _
  have HB5 : Aside0 (Below w.heap.size w w5) := ⟨HB4.out.trans (hb5.mono HB4.out.size)⟩
  have hap := apply_walk (HS4.out.below hb5) (by simp) (fun g hg => Nat.le_trans HB5.out.size hg) (by decide) ex2 _ (k35_mk w5 ex2 (A7 := none) (c7 := 0) (Nat.le_refl _) (Kd.C_nil _ _) (A8 := none) (c8 := 0) (Nat.le_refl _) (Kd.C_nil _ _)) (by simp [sizesOk, ex2])
  rw [ex_ok2] at hap
  have HAP := Aside0.mk hap
  have HW5 := Aside0.mk hw5
  clear hb5 hap hw5 HS4
  have hz : zVer = (⟨0, ⟨#[]⟩, false⟩ : Ver) := rfl
  go_wp2_with fail
  rw [← HW5.out]
  refine HAP.out.mono ?_
  rintro e w6 ⟨rfl, hs6, hc6⟩
  have HB6 : Aside0 (Below w.heap.size w w6) := ⟨hc6.below HB5.out HB5.out.size (fun g hg => hg)⟩
  have hrd := read_walk hs6 ⟨#[107]⟩ (by decide) 9
  rw [ex_read2] at hrd
  have HRD := Aside0.mk hrd
  have HS6 := Aside0.mk hs6
  clear hs6 hc6 hrd HAP
  go_wp2_with fail
  refine HRD.out.mono ?_
  rintro e w7 ⟨rfl, hb7⟩
  have HB7 : Aside0 (Below w.heap.size w w7) := ⟨HB6.out.trans (hb7.mono HB6.out.size)⟩
  have HS7 := Aside0.mk (HS6.out.below hb7)
  clear hb7 HRD HS6
  obtain ⟨w8, hw8⟩ : ∃ w8, w8 = w7.alloc (.cells #[.int .i64 9, .string ⟨#[120]⟩, .bool false] 29) := ⟨_, rfl⟩
  have hb8 : Below w7.heap.size w7 w8 := by rw [hw8]; exact below_alloc (Below.refl _ _) _
  have hx8 : w8.heap[w7.heap.size]? = some (.cells #[.int .i64 9, .string ⟨#[120]⟩, .bool false] 29 (0, 0)) := by rw [hw8]; exact blk_new _ _
  have HB8 : Aside0 (Below w.heap.size w w8) := ⟨HB7.out.trans (hb8.mono HB7.out.size)⟩
  have hrd := read_walk (HS7.out.below hb8) ⟨#[107]⟩ (by decide) 8
  rw [ex_read3] at hrd
  have HRD := Aside0.mk hrd
  have HS8 := Aside0.mk (HS7.out.below hb8)
  have HX8 := Aside0.mk hx8
  have HW8 := Aside0.mk hw8
  clear hb8 hx8 hw8 hrd HS7
  go_wp2_with fail
  rw [← HW8.out]
  refine HRD.out.mono ?_
  rintro e w9 ⟨rfl, hb9⟩
  have HB9 : Aside0 (Below w.heap.size w w9) := ⟨HB8.out.trans (hb9.mono HB8.out.size)⟩
  have HX9 := Aside0.mk (blk_below HX8.out hb9)
  have HS9 := Aside0.mk (HS8.out.below hb9)
  clear hb9 HRD HS8
  obtain ⟨w10, hw10⟩ : ∃ w10, w10 = w9.alloc (.cells #[.int .i64 0, .string ⟨#[]⟩, .bool false] 29) := ⟨_, rfl⟩
  have hb10 : Below w9.heap.size w9 w10 := by rw [hw10]; exact below_alloc (Below.refl _ _) _
  have HB10 : Aside0 (Below w.heap.size w w10) := ⟨HB9.out.trans (hb10.mono HB9.out.size)⟩
  have HX10 := Aside0.mk (blk_below HX9.out hb10)
  have hst := state_walk (HS9.out.below hb10) 5 (by decide)
  rw [ex_state] at hst
  have HST := Aside0.mk hst
  have HW10 := Aside0.mk hw10
  clear hb10 hw10 hst HS9
  go_wp2_with fail
  rw [← HW10.out]
  refine HST.out.mono ?_
  rintro e w11 ⟨rfl, hb11⟩
  have HB11 : Aside0 (Below w.heap.size w w11) := ⟨HB10.out.trans (hb11.mono HB10.out.size)⟩
  have x1 := (blk_cell (blk_below HX10.out hb11) 1).trans rfl
  clear hb11 HST
  go_wp2_with fail
  go_ret
  exact ⟨rfl, HB11.out⟩
theorem made_take (l : List Rec) (k : Nat) (hk : k < l.length) : (l.take (k + 1)).foldl (fun s r => (applyV s r).2) sh0 = (applyV ((l.take k).foldl (fun s r => (applyV s r).2) sh0) (l[k])).2 := by
  rw [List.take_succ_eq_append_getElem hk, List.foldl_append]
  rfl
set_option maxRecDepth 100000 in
set_option maxHeartbeats 4000000 in
theorem made_walk (w : World) (A : Option Addr) (c : Nat) (l : List Rec) (hr : Kd.C k35 w A l.length l) (hs : ∀ r ∈ l, sizesOk r) :
    Calls Try.prog 10 #[.slice A l.length c] w fun e w' => ∃ b, e = .returned (.pointer (some ⟨b, 0, none⟩)) ∧ ShAt w' (fun g => w.heap.size ≤ g) b 960 (madeV l) ∧ Below w.heap.size w w' := by
  have HNW := Aside0.mk (new_walk w)
  have HR := Aside0.mk hr
  have HS := Aside0.mk hs
  have hmax := Kd.C_max hr
  have HMV : Aside0 (madeV l = (l.take 60).foldl (fun s r => (applyV s r).2) sh0) := ⟨rfl⟩
  clear hr hs
  go_enter Try.func10, Try.ntmps10
  go_wp2_with fail
  refine HNW.out.mono ?_
  rintro e w1 ⟨b, rfl, hs1, hb1⟩
  have HS1 : Aside0 (ShAt w1 (fun g => w.heap.size ≤ g) b (16 * 0) ((l.take 0).foldl (fun s r => (applyV s r).2) sh0)) := ⟨hs1⟩
  have HB1 := Aside0.mk hb1
  clear hs1 hb1 HNW
  go_wp2_with fail
  go_loopw [4] (fun i wr => ∃ k : Nat, k ≤ l.length ∧ k ≤ 60 ∧ i = .int .i64 (k : Int) ∧ Aside0 (ShAt wr (fun g => w.heap.size ≤ g) b (16 * k) ((l.take k).foldl (fun s r => (applyV s r).2) sh0)) ∧ Aside0 (Below w.heap.size w wr)) (fun i _ => l.length - (intOf i).toNat)
  case atStart => exact ⟨0, Nat.zero_le _, Nat.zero_le _, rfl, HS1, HB1⟩
  case round =>
    clear HS1 HB1
    obtain ⟨k, hk, hk6, rfl, HSH, HB⟩ := hrel
    by_cases hlt : k < l.length ∧ k < 60
    · obtain ⟨hlt, hlt6⟩ := hlt
      obtain ⟨ad, cs, rfl, hlen, hK, hc0⟩ := Kd.C_get (Kd.C_below HR.out HB.out) (⟨0, 0, 0, 0, ⟨#[]⟩, ⟨#[]⟩, false, [], []⟩ : Rec) (k : Int) (by omega) (by omega)
      rw [Int.toNat_natCast] at hK hc0
      have hget : l.getD k (⟨0, 0, 0, 0, ⟨#[]⟩, ⟨#[]⟩, false, [], []⟩ : Rec) = l[k] := by simp [List.getElem?_eq_getElem hlt]
      rw [hget] at hK
      have hmem : l[k] ∈ l := List.getElem_mem _
      have hmt := made_take l k hlt
      have hend := fold_ends (l.take k) (s := sh0) (by simp [sh0])
      generalize l[k] = r at *
      have hap := apply_walk HSH.out hend (fun g hg => Nat.le_trans HB.out.size hg) (Nat.lt_of_le_of_lt (show 16 * k + 1024 ≤ 960 + 1024 by omega) (by decide)) r cs hK (HS.out r hmem)
      obtain ⟨A7, c7, A8, c8, rfl, l7, g7, l8, g8⟩ := k35_open hK
      have hc : ∀ j u, [Value.int .i64 r.f0, .int .i64 r.f1, .int .i64 r.f2, .int .i64 r.f3, .string r.f4, .string r.f5, .bool r.f6, .slice A7 r.f7.length c7, .slice A8 r.f8.length c8][j]? = some u → wr.cell? (ad.add (k * 9 + j)) = some u := hc0
      have z0 : wr.cell? (ad.add (k * 9)) = some (.int .i64 r.f0) := hc 0 _ rfl
      have z1 : wr.cell? ⟨(ad.add (k * 9)).block, (ad.add (k * 9)).off + 1, none⟩ = some (.int .i64 r.f1) := by rw [← add_field _ _ 1 (by omega)]; exact hc 1 _ rfl
      have z2 : wr.cell? ⟨(ad.add (k * 9)).block, (ad.add (k * 9)).off + 2, none⟩ = some (.int .i64 r.f2) := by rw [← add_field _ _ 2 (by omega)]; exact hc 2 _ rfl
      have z3 : wr.cell? ⟨(ad.add (k * 9)).block, (ad.add (k * 9)).off + 3, none⟩ = some (.int .i64 r.f3) := by rw [← add_field _ _ 3 (by omega)]; exact hc 3 _ rfl
      have z4 : wr.cell? ⟨(ad.add (k * 9)).block, (ad.add (k * 9)).off + 4, none⟩ = some (.string r.f4) := by rw [← add_field _ _ 4 (by omega)]; exact hc 4 _ rfl
      have z5 : wr.cell? ⟨(ad.add (k * 9)).block, (ad.add (k * 9)).off + 5, none⟩ = some (.string r.f5) := by rw [← add_field _ _ 5 (by omega)]; exact hc 5 _ rfl
      have z6 : wr.cell? ⟨(ad.add (k * 9)).block, (ad.add (k * 9)).off + 6, none⟩ = some (.bool r.f6) := by rw [← add_field _ _ 6 (by omega)]; exact hc 6 _ rfl
      have z7 : wr.cell? ⟨(ad.add (k * 9)).block, (ad.add (k * 9)).off + 7, none⟩ = some (.slice A7 r.f7.length c7) := by rw [← add_field _ _ 7 (by omega)]; exact hc 7 _ rfl
      have z8 : wr.cell? ⟨(ad.add (k * 9)).block, (ad.add (k * 9)).off + 8, none⟩ = some (.slice A8 r.f8.length c8) := by rw [← add_field _ _ 8 (by omega)]; exact hc 8 _ rfl
      have HMT := Aside0.mk hmt
      generalize (l.take k).foldl (fun s r => (applyV s r).2) sh0 = s at *
      have HAP := Aside0.mk hap
      clear hap hc hc0 hK l7 g7 l8 g8 hend hmem hget hlen hmt
      go_wp2_with fail
      refine HAP.out.mono ?_
      rintro e w3 ⟨rfl, hs3, hc3⟩
      have HB3 : Aside0 (Below w.heap.size w w3) := ⟨hc3.below HB.out HB.out.size (fun g hg => hg)⟩
      have HS3 : Aside0 (ShAt w3 (fun g => w.heap.size ≤ g) b (16 * (k + 1)) ((l.take (k + 1)).foldl (fun s r => (applyV s r).2) sh0)) := ⟨by rw [HMT.out]; exact hs3⟩
      clear hs3 hc3 HAP HMT z0 z1 z2 z3 z4 z5 z6 z7 z8
      generalize (applyV s r).1 = rv at *
      go_wp2_with fail
      go_roundw
      case rel => exact ⟨k + 1, by omega, by omega, by go_num, HS3, HB3⟩
      case measure => simp [intOf]; omega
    · have HEND : Aside0 (ShAt wr (fun g => w.heap.size ≤ g) b 960 (madeV l)) := ⟨by
        rw [HMV.out]
        have e : l.take 60 = l.take k := by
          by_cases h6 : k = 60
          · rw [h6]
          · rw [List.take_of_length_le (show l.length ≤ 60 by omega), List.take_of_length_le (show l.length ≤ k by omega)]
        rw [e]
        exact HSH.out.mono (by omega)⟩
      by_cases h6 : k < l.length
      · have h60 : ¬ k < 60 := fun h => hlt ⟨h6, h⟩
        clear hlt
        go_wp2
        go_ret
        exact ⟨b, rfl, HEND.out, HB.out⟩
      · clear hlt
        go_wp2
        go_ret
        exact ⟨b, rfl, HEND.out, HB.out⟩
end Go.Proofs.Ytaldfbmjmpkmmaa.PL
