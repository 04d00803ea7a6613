/- VoteFits, plain; the chapter's example of layer 19. -/
import Derived.Test.YtaldfbmjmpkmmaaGreatM214778
namespace Go.Proofs.YtaldfbmjmpkmmaaGreat.PL
open Go.RowKit Go.Proofs.YtaldfbmjmpkmmaaGreatW.PrintWords Go.Proofs.YtaldfbmjmpkmmaaGreatW.PrintLast Go.Proofs.YtaldfbmjmpkmmaaGreatW.PrintMore
set_option linter.unusedVariables false
set_option linter.unusedSimpArgs false
set_option linter.unusedSectionVars false








/-! the example -/
def vx1 : Rec := ⟨3, 0, 9, 0, ⟨#[107]⟩, ⟨#[]⟩, false, [], []⟩
def vx2 : Rec := ⟨1, 1, 8, 0, ⟨#[]⟩, ⟨#[]⟩, false, [⟨#[107]⟩], []⟩
def vx3 : Rec := ⟨1, 1, 9, 0, ⟨#[]⟩, ⟨#[]⟩, false, [⟨#[107]⟩], []⟩
def vxs : Sh := ⟨[([107], [⟨9, ⟨#[]⟩, false⟩])], [], [], 0⟩
theorem vx_ok1 : applyV sh0 vx1 = (0, vxs) := by kernel_rfl
theorem vx_ok2 : voteV vxs vx2 = 190 := by kernel_rfl
theorem vx_ok3 : voteV vxs vx3 = 0 := by kernel_rfl
set_option maxRecDepth 100000 in
set_option maxHeartbeats 4000000 in
theorem works19_walk (w : World) : Calls Tryz.prog 25 #[] w fun e w' => e = .returned (.bool true) ∧ Below w.heap.size w w' := by
 have HNW := Aside0.mk (new_walk w)
 go_enter Tryz.func25, Tryz.ntmps25
 go_wp2_with fail
 refine HNW.out.mono ?_
 rintro e w1 ⟨b, rfl, hs1, hb1⟩
 have hap := apply_walk hs1 (by simp [sh0]) (fun g hg => Nat.le_trans hb1.size hg) (by decide) vx1 [.int .i64 3, .int .i64 0, .int .i64 9, .int .i64 0, .string ⟨#[107]⟩, .string ⟨#[]⟩, .bool false, .slice none 0 0, .slice none 0 0] (k26_mk w1 vx1 (A7 := none) (c7 := 0) (Nat.le_refl _) (Kd.C_nil _ _) (A8 := none) (c8 := 0) (Nat.le_refl _) (Kd.C_nil _ _)) (by simp [sizesOk, vx1])
 rw [vx_ok1] at hap
 have HAP := Aside0.mk hap
 have HB1 := Aside0.mk hb1
 clear hap hs1 hb1 HNW
 go_wp2_with fail
 refine HAP.out.mono ?_
 rintro e w2 ⟨rfl, hs2, hc2⟩
 have HB2 : Aside0 (Below w.heap.size w w2) := ⟨hc2.below HB1.out HB1.out.size (fun g hg => hg)⟩
 have HS2 := Aside0.mk hs2
 clear hs2 hc2 HAP HB1
 obtain ⟨w3, hw3⟩ : ∃ w3, w3 = w2.alloc (.cells #[.string ⟨#[107]⟩] 9) := ⟨_, rfl⟩
 have hb3 : Below w2.heap.size w2 w3 := by rw [hw3]; exact below_alloc (Below.refl _ _) _
 have hx3 : w3.heap[w2.heap.size]? = some (.cells #[.string ⟨#[107]⟩] 9 (0, 0)) := by rw [hw3]; exact blk_new _ _
 obtain ⟨w4, hw4⟩ : ∃ w4, w4 = w3.alloc (.cells #[.int .i64 1, .int .i64 1, .int .i64 8, .int .i64 0, .string ⟨#[]⟩, .string ⟨#[]⟩, .bool false, .slice (some ⟨w2.heap.size, 0, none⟩) 1 1, .slice none 0 0] 26) := ⟨_, rfl⟩
 have hb4 : Below w3.heap.size w3 w4 := by rw [hw4]; exact below_alloc (Below.refl _ _) _
 have hx4 : w4.heap[w3.heap.size]? = some (.cells #[.int .i64 1, .int .i64 1, .int .i64 8, .int .i64 0, .string ⟨#[]⟩, .string ⟨#[]⟩, .bool false, .slice (some ⟨w2.heap.size, 0, none⟩) 1 1, .slice none 0 0] 26 (0, 0)) := by rw [hw4]; exact blk_new _ _
 have HC4 : Aside0 (Kd.C Kd.string w4 (some ⟨w2.heap.size, 0, none⟩) 1 [(⟨#[107]⟩ : ByteArray)]) := ⟨C_one (cs := [.string ⟨#[107]⟩]) (blk_below hx3 hb4) rfl⟩
 have HB4 : Aside0 (Below w.heap.size w w4) := ⟨(HB2.out.trans (hb3.mono HB2.out.size)).trans (hb4.mono (HB2.out.trans (hb3.mono HB2.out.size)).size)⟩
 have HS4 : Aside0 (ShAt w4 (fun g => w.heap.size ≤ g ∧ g < w2.heap.size) b 16 vxs) := ⟨((HS2.out.narrow (fun g hg hl => ⟨hg, hl⟩)).below hb3).below hb4⟩
 have hvp := votep_walk HS4.out vx2 _ (k26_mk w4 vx2 (A7 := some ⟨w2.heap.size, 0, none⟩) (c7 := 1) (Nat.le_refl _) HC4.out (A8 := none) (c8 := 0) (Nat.le_refl _) (Kd.C_nil _ _)) (by simp [sizesOk, vx2])
 rw [vx_ok2] at hvp
 have HVP := Aside0.mk hvp
 have HX4 := Aside0.mk hx4
 have HW4 : Aside0 (w4 = (w2.alloc (.cells #[.string ⟨#[107]⟩] 9)).alloc (.cells #[.int .i64 1, .int .i64 1, .int .i64 8, .int .i64 0, .string ⟨#[]⟩, .string ⟨#[]⟩, .bool false, .slice (some ⟨w2.heap.size, 0, none⟩) 1 1, .slice none 0 0] 26)) := ⟨by rw [hw4, hw3]⟩
 have H3 : Aside0 (w3.heap.size = w2.heap.size + 1) := ⟨by rw [hw3]; simp⟩
 rw [H3.out] at HX4
 have HSZ2 : Aside0 (w.heap.size ≤ w2.heap.size) := ⟨HB2.out.size⟩
 clear hvp hx4 hx3 hb3 hb4 hw3 hw4 HS2 HB2
 go_wp2_with fail
 rw [← HW4.out]
 refine HVP.out.mono ?_
 rintro e w5 ⟨rfl, hb5⟩
 have HB5 : Aside0 (Below w.heap.size w w5) := ⟨HB4.out.trans (hb5.mono HB4.out.size)⟩
 have hx5 := blk_below HX4.out hb5
 have HS5 := Aside0.mk (HS4.out.below hb5)
 have HC5 := Aside0.mk (Kd.C_below HC4.out hb5)
 obtain ⟨w6, hw6⟩ : ∃ w6, w6 = w5.setCell ⟨w2.heap.size + 1, 2, none⟩ (.int .i64 9) := ⟨_, rfl⟩
 have hx6 : w6.heap[w2.heap.size + 1]? = some (.cells #[.int .i64 1, .int .i64 1, .int .i64 9, .int .i64 0, .string ⟨#[]⟩, .string ⟨#[]⟩, .bool false, .slice (some ⟨w2.heap.size, 0, none⟩) 1 1, .slice none 0 0] 26 (0, 0)) := by rw [hw6]; exact blk_put hx5 2 _ rfl
 have HS6 : Aside0 (ShAt w6 (fun g => w.heap.size ≤ g ∧ g < w2.heap.size) b 16 vxs) := ⟨by
  rw [hw6]
  exact HS5.out.apart (Chg0.of_grown (ok := fun g => g = w2.heap.size + 1) (grown_set w5 ⟨w2.heap.size + 1, 2, none⟩ _) rfl) (fun g hg h => by omega)⟩
 have HC6 : Aside0 (Kd.C Kd.string w6 (some ⟨w2.heap.size, 0, none⟩) 1 [(⟨#[107]⟩ : ByteArray)]) := ⟨by
  obtain ⟨h1, h2, h3⟩ := HC5.out
  refine ⟨h1, h2, fun hp => ?_⟩
  obtain ⟨ad, had, hcl⟩ := h3 hp
  refine ⟨ad, had, fun j p hj => ?_⟩
  obtain ⟨c, hc1, hc2, hc3⟩ := hcl j p hj
  refine ⟨c, hc1, hc2, fun i u hu => ?_⟩
  have h := hc3 i u hu
  rw [hw6]
  injection had with had
  subst had
  have he : (⟨w2.heap.size, 0, none⟩ : Addr).add (j * 1 + i) = ⟨w2.heap.size, j * 1 + i, none⟩ := by unfold Addr.add; split <;> simp_all
  change World.cell? _ ((⟨w2.heap.size, 0, none⟩ : Addr).add (j * 1 + i)) = some u at h
  change World.cell? _ ((⟨w2.heap.size, 0, none⟩ : Addr).add (j * 1 + i)) = some u
  rw [he] at h ⊢
  rw [← h]
  unfold World.cell?
  rw [Below.heap_setCell w5 ⟨w2.heap.size + 1, 2, none⟩ (.int .i64 9) w2.heap.size (by simp)]⟩
 have HSZ : Aside0 (w.heap.size ≤ w2.heap.size + 1) := ⟨Nat.le_succ_of_le HSZ2.out⟩
 have HB6 : Aside0 (Below w.heap.size w w6) := ⟨by rw [hw6]; exact (Chg0.of_grown (ok := fun g => g = w2.heap.size + 1) (grown_set w5 ⟨w2.heap.size + 1, 2, none⟩ _) rfl).below HB5.out HB5.out.size (fun g hg => by rw [hg]; exact HSZ.out)⟩
 have hvp := votep_walk HS6.out vx3 _ (k26_mk w6 vx3 (A7 := some ⟨w2.heap.size, 0, none⟩) (c7 := 1) (Nat.le_refl _) HC6.out (A8 := none) (c8 := 0) (Nat.le_refl _) (Kd.C_nil _ _)) (by simp [sizesOk, vx3])
 rw [vx_ok3] at hvp
 have HVP6 := Aside0.mk hvp
 have HW6 := Aside0.mk hw6
 obtain ⟨q0, q1, q2, q3, q4, q5, q6, q7, q8⟩ := rec_cells hx5
 have f2 := blk_frozen hx5 2
 clear hvp hx6 hw6 hb5 HVP HC5 HS5 HC4 HS4 hx5
 go_wp2_with fail
 rw [← HW6.out]
 refine HVP6.out.mono ?_
 rintro e w7 ⟨rfl, hb7⟩
 have HB7 : Aside0 (Below w.heap.size w w7) := ⟨HB6.out.trans (hb7.mono HB6.out.size)⟩
 clear hb7 HVP6
 go_wp2_with fail
 go_ret
 exact ⟨rfl, HB7.out⟩
end Go.Proofs.YtaldfbmjmpkmmaaGreat.PL
