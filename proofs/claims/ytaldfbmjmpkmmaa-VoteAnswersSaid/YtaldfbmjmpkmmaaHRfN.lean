/- The document's shelf: Read. -/
import Derived.Test.YtaldfbmjmpkmmaaM3d8209
import Derived.Test.YtaldfbmjmpkmmaaM8afed9
namespace Go.Proofs.Ytaldfbmjmpkmmaa.PL
open Go.RowKit Go.Proofs.YtaldfbmjmpkmmaaW.PrintWords Go.Proofs.YtaldfbmjmpkmmaaW.PrintLast Go.Proofs.YtaldfbmjmpkmmaaW.PrintMore
set_option linter.unusedVariables false
set_option linter.unusedSimpArgs false
set_option linter.unusedSectionVars false
theorem put3_blk {w : World} {b t : Nat} {u0 u1 u2 : Value} (h : w.heap[b]? = some (.cells #[u0, u1, u2] t (0, 0))) (v0 v1 v2 : Value) :
 (((w.setCell ⟨b, 0, none⟩ v0).setCell ⟨b, 1, none⟩ v1).setCell ⟨b, 2, none⟩ v2).heap[b]? = some (.cells #[v0, v1, v2] t (0, 0)) := by
 have z0 := blk_put (cs' := #[v0, u1, u2]) h 0 v0 rfl
 have z1 := blk_put (cs' := #[v0, v1, u2]) z0 1 v1 rfl
 exact blk_put (cs' := #[v0, v1, v2]) z1 2 v2 rfl
theorem put3_below {w0 w : World} {n b : Nat} (h : Below n w0 w) (hn : n ≤ b) (v0 v1 v2 : Value) :
 Below n w0 (((w.setCell ⟨b, 0, none⟩ v0).setCell ⟨b, 1, none⟩ v1).setCell ⟨b, 2, none⟩ v2) := ((h.setCell hn _).setCell hn _).setCell hn _
set_option maxRecDepth 100000 in
set_option maxHeartbeats 8000000 in
theorem rread_walk {w : World} {ok : Nat → Prop} {b : Nat} {s : Sh} (h : RfAt w ok b s) (k : ByteArray) (t : Int) :
 Calls Try.prog 50 #[.pointer (some ⟨b, 0, none⟩), .string k, .int .i64 t] w fun e w' => e = .returned (.tuple #[.int .i64 (readV s (kb k) t).1, .agg #[.int .i64 (readV s (kb k) t).2.f0, .string (readV s (kb k) t).2.f1, .bool (readV s (kb k) t).2.f2]]) ∧ Below w.heap.size w w' := by
 obtain ⟨w1, hw1⟩ : ∃ w1, w1 = w.alloc (.cells #[.int .i64 0, .string ⟨#[]⟩, .bool false] 29) := ⟨_, rfl⟩
 have hB1 : Below w.heap.size w w1 := by rw [hw1]; exact below_alloc (Below.refl _ w) _
 have hbx : w1.heap[w.heap.size]? = some (.cells #[.int .i64 0, .string ⟨#[]⟩, .bool false] 29 (0, 0)) := by rw [hw1]; exact blk_new _ _
 have H1 := h.below hB1
 have HW := Aside0.mk hw1
 have HB1 := Aside0.mk hB1
 have BX1 := Aside0.mk hbx
 have HHD := Aside0.mk (rheld_walk H1 k false)
 have HS1 := Aside0.mk H1
 have HV : Aside0 (readV s (kb k) t = if t < s.over then (4, zVer) else if heldV s (kb k) false = true then (3, zVer) else if (atV (look s.K (kb k)) t).2 = false then (0, (atV (look s.K (kb k)) t).1) else if (atV (look s.K (kb k)) t).1.f2 = true then (2, (atV (look s.K (kb k)) t).1) else (1, (atV (look s.K (kb k)) t).1)) := ⟨rfl⟩
 have hu := Try.underlying29
 obtain ⟨AK, AP, AE, cK, cP, cE, hp⟩ := h
 have HCO := Aside0.mk (hp.good.keys.look (kb k))
 obtain ⟨-, -, -, c3⟩ := (hp.below hB1).cells
 have c3w := c3
 rw [hw1] at c3w
 clear hw1 hp H1
 by_cases ho : t < s.over
 ·rw [if_pos ho] at HV
  have d1 : decide (t < s.over) = true := decide_eq_true ho
  clear hB1 hbx c3 HHD HS1 HCO ho
  go_enter Try.func50, Try.ntmps50
  go_wp2_with fail
  rw [← HW.out]
  (try simp only [Exit.inBlock, Exit.then])
  refine bodyPost_ret (results_list (rs := [.tmp 6, .cell 7 29]) rfl (by simp) (Vals.tmp (Vals.cell w.heap.size 29 _ (0, 0) _ rfl BX1.out Try.underlying29 rfl (by kernel_rfl) Vals.nil))) rfl ?_
  exact ⟨by rw [HV.out]; rfl, HB1.out⟩
 ·rw [if_neg ho] at HV
  have d1 : decide (t < s.over) = false := decide_eq_false ho
  clear hB1 hbx ho
  go_enter Try.func50, Try.ntmps50
  go_wp2_with fail
  rw [← HW.out]
  refine HHD.out.mono ?_
  rintro e w2 ⟨rfl, hb2⟩
  have HB2 : Aside0 (Below w.heap.size w w2) := ⟨HB1.out.trans (hb2.mono HB1.out.size)⟩
  have HS2 := Aside0.mk (HS1.out.below hb2)
  have bx2 := blk_below BX1.out hb2
  have BX2 := Aside0.mk bx2
  have x0 := (blk_cell bx2 0).trans rfl
  have x1 := (blk_cell bx2 1).trans rfl
  have x2 := (blk_cell bx2 2).trans rfl
  have g0 := blk_frozen bx2 0
  have g1 := blk_frozen bx2 1
  have g2 := blk_frozen bx2 2
  clear hb2 bx2 c3 c3w HS1 BX1 HB1 HHD HW
  cases hh : heldV s (kb k) false with
  | true =>
   rw [hh, if_pos rfl] at HV
   clear hh
   go_wp2_with fail
   (try simp only [Exit.inBlock, Exit.then])
   refine bodyPost_ret (results_list (rs := [.tmp 6, .cell 7 29]) rfl (by simp) (Vals.tmp (Vals.cell w.heap.size 29 _ (0, 0) _ rfl (put3_blk BX2.out _ _ _) Try.underlying29 rfl (by kernel_rfl) Vals.nil))) rfl ?_
   exact ⟨by rw [HV.out]; rfl, put3_below HB2.out (Nat.le_refl _) _ _ _⟩
  | false =>
   rw [hh, if_neg (by simp)] at HV
   clear hh
   have HCH := Aside0.mk (rchain_walk HS2.out k)
   generalize look s.K (kb k) = ch at *
   go_wp2_with fail
   refine HCH.out.mono ?_
   rintro e w3 ⟨A, c, rfl, hl, hC, hb3⟩
   have HAT := Aside0.mk (corncribref11_At.calls 4000 A c ch t _ _ _ _ _ w3 hC hl (rat_f HCO.out t))
   have HB3 : Aside0 (Below w.heap.size w w3) := ⟨HB2.out.trans (hb3.mono HB2.out.size)⟩
   have BX3 := Aside0.mk (blk_below BX2.out hb3)
   clear hl hC hb3 HCH HCO HB2 BX2 HS2 x0 x1 x2 g0 g1 g2
   have HZ : Aside0 ((atV ch t).2 = false → (atV ch t).1 = zVer) := ⟨fun h => by
    unfold atV at *
    split
    ·rfl
    ·rename_i h1; rw [if_neg h1] at h; cases h⟩
   generalize atV ch t = r at *
   obtain ⟨⟨a0, a1, a2⟩, q⟩ := r
   simp only at HV HAT HZ
   go_wp2_with fail
   refine HAT.out.mono ?_
   rintro e w4 ⟨rfl, hb4⟩
   obtain ⟨w5, hw5⟩ : ∃ w5, w5 = w4.alloc (.cells #[.int .i64 a0, .string a1, .bool a2] 29) := ⟨_, rfl⟩
   have hb5 : Below w4.heap.size w4 w5 := by rw [hw5]; exact below_alloc (Below.refl _ w4) _
   have bx5 := blk_below (blk_below BX3.out hb4) hb5
   have HB4 := HB3.out.trans (hb4.mono HB3.out.size)
   have HB5 : Aside0 (Below w.heap.size w w5) := ⟨HB4.trans (hb5.mono HB4.size)⟩
   have BX5 := Aside0.mk bx5
   have x0 := (blk_cell bx5 0).trans rfl
   have x1 := (blk_cell bx5 1).trans rfl
   have x2 := (blk_cell bx5 2).trans rfl
   have g0 := blk_frozen bx5 0
   have g1 := blk_frozen bx5 1
   have g2 := blk_frozen bx5 2
   have y5 : w5.heap[w4.heap.size]? = some (.cells #[.int .i64 a0, .string a1, .bool a2] 29 (0, 0)) := by rw [hw5]; exact blk_new _ _
   have y0 := (blk_cell y5 0).trans rfl
   have y1 := (blk_cell y5 1).trans rfl
   have y2 := (blk_cell y5 2).trans rfl
   have HW5 := Aside0.mk hw5
   rw [hw5] at x0 x1 x2 g0 g1 g2 y0 y1 y2 BX5 HB5
   clear hb4 hb5 bx5 HB4 HB3 BX3 HAT hw5 y5
   cases q with
   | false =>
    rw [if_pos rfl] at HV
    have hz : (⟨a0, a1, a2⟩ : Ver) = ⟨0, ⟨#[]⟩, false⟩ := HZ.out rfl
    injection hz with e0 e1 e2
    subst e0 e1 e2
    clear HZ
    go_wp2_with fail
    (try simp only [Exit.inBlock, Exit.then])
    refine bodyPost_ret (results_list (rs := [.tmp 6, .cell 7 29]) rfl (by simp) (Vals.tmp (Vals.cell w.heap.size 29 _ (0, 0) _ rfl (put3_blk BX5.out _ _ _) Try.underlying29 rfl (by kernel_rfl) Vals.nil))) rfl ?_
    exact ⟨by rw [HV.out]; rfl, put3_below HB5.out (Nat.le_refl _) _ _ _⟩
   | true =>
    rw [if_neg (by simp)] at HV
    cases a2 with
    | true =>
     rw [if_pos rfl] at HV
     go_wp2_with fail
     go_region
     all_goals (try go_wp2_with fail)
     (try simp only [Exit.inBlock, Exit.then])
     refine bodyPost_ret (results_list (rs := [.tmp 6, .cell 7 29]) rfl (by simp) (Vals.tmp (Vals.cell w.heap.size 29 _ (0, 0) _ rfl (blk_drew (put3_blk BX5.out _ _ _)) Try.underlying29 rfl (by kernel_rfl) Vals.nil))) rfl ?_
     exact ⟨by rw [HV.out]; rfl, below_drew1 (put3_below HB5.out (Nat.le_refl _) _ _ _)⟩
    | false =>
     rw [if_neg (by simp)] at HV
     go_wp2_with fail
     go_region
     all_goals (try go_wp2_with fail)
     (try simp only [Exit.inBlock, Exit.then])
     refine bodyPost_ret (results_list (rs := [.tmp 6, .cell 7 29]) rfl (by simp) (Vals.tmp (Vals.cell w.heap.size 29 _ (0, 0) _ rfl (blk_drew (put3_blk BX5.out _ _ _)) Try.underlying29 rfl (by kernel_rfl) Vals.nil))) rfl ?_
     exact ⟨by rw [HV.out]; rfl, below_drew1 (put3_below HB5.out (Nat.le_refl _) _ _ _)⟩
end Go.Proofs.Ytaldfbmjmpkmmaa.PL
