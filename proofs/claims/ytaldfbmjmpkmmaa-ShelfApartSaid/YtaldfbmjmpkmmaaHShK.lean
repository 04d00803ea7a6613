/- A shelf in memory: copies of records. -/
import Derived.Test.YtaldfbmjmpkmmaaHShJ
namespace Go.Proofs.Ytaldfbmjmpkmmaa.PL
open Go.RowKit Go.Proofs.YtaldfbmjmpkmmaaW.PrintWords Go.Proofs.YtaldfbmjmpkmmaaW.PrintLast Go.Proofs.YtaldfbmjmpkmmaaW.PrintMore Go.Shelf Go.Maps Go.WideMaps Go.Proofs.Ytaldfbmjmpkmmaa.Mk
set_option linter.unusedVariables false
set_option linter.unusedSimpArgs false
set_option linter.unusedSectionVars false
/-- A row of one's own under two stores into a box of records. -/
theorem R_far2 {α : Type} {d : Kd α} {e base : Nat} {ok : Nat → Prop} {w : World} {v : Value} {xs : List α} (ht : ∀ q, q ∈ e :: d.E → q ≠ 35) (h : d.R e w base ok v xs) {g : Nat} {cells : Array Value} (hb : w.heap[g]? = some (.cells cells 35 (0, 0))) (i : Nat) (u : Value) (j : Nat) (x : Value) :
    d.R e ((w.setCell ⟨g, i, none⟩ u).setCell ⟨g, j, none⟩ x) base ok v xs :=
  Kd.R_mono (Kd.R_step (Kd.R_types h hb ht) (fun k hk _ => (Below.heap_setCell _ ⟨g, j, none⟩ x k hk.2).trans (Below.heap_setCell _ ⟨g, i, none⟩ u k hk.2))) (fun _ hk => hk.1)
theorem R_box {α : Type} {d : Kd α} {e base : Nat} {ok : Nat → Prop} {w w1 : World} {v : Value} {xs : List α} (ht : ∀ q, q ∈ e :: d.E → q ≠ 35) (h : d.R e w base ok v xs) {g : Nat} {cells : Array Value} (hb : w.heap[g]? = some (.cells cells 35 (0, 0))) (hm : ∀ k, k ≠ g → w1.heap[k]? = w.heap[k]?) : d.R e w1 base ok v xs :=
  Kd.R_mono (Kd.R_step (Kd.R_types h hb ht) (fun k hk _ => hm k hk.2)) (fun _ hk => hk.1)
set_option maxRecDepth 100000 in
set_option maxHeartbeats 4000000 in
theorem copied_walk (w : World) (r : Rec) (cs : List Value) (hK : k35.K w r cs) (h7 : r.f7.length ≤ 8192) (h8 : r.f8.length ≤ 8192) :
    Calls Try.prog 54 #[.agg cs.toArray] w fun e w' => ∃ cs', e = .returned (.agg cs'.toArray) ∧ k35.M w' w.heap.size (fun _ => True) r cs' ∧ Below w.heap.size w w' := by
  obtain ⟨A7, c7, A8, c8, rfl, l7, g7, l8, g8⟩ := k35_open hK
  obtain ⟨r0, r1, r2, r3, r4, r5, r6, r7, r8⟩ := r
  simp only at *
  obtain ⟨w2, hw2⟩ : ∃ w2, w2 = (w.alloc (.cells #[.int .i64 r0, .int .i64 r1, .int .i64 r2, .int .i64 r3, .string r4, .string r5, .bool r6, .slice A7 r7.length c7, .slice A8 r8.length c8] 35)).alloc (.cells #[.int .i64 0, .int .i64 0, .int .i64 0, .int .i64 0, .string ⟨#[]⟩, .string ⟨#[]⟩, .bool false, .slice none 0 0, .slice none 0 0] 35) := ⟨_, rfl⟩
  have hB : Below w.heap.size w w2 := by rw [hw2]; exact below_alloc (below_alloc (Below.refl _ w) _) _
  have hx1 : w2.heap[w.heap.size]? = some (.cells #[.int .i64 r0, .int .i64 r1, .int .i64 r2, .int .i64 r3, .string r4, .string r5, .bool r6, .slice A7 r7.length c7, .slice A8 r8.length c8] 35 (0, 0)) := by rw [hw2]; exact blk_alloc (blk_new _ _) _
  have hx2 : w2.heap[w.heap.size + 1]? = some (.cells #[.int .i64 0, .int .i64 0, .int .i64 0, .int .i64 0, .string ⟨#[]⟩, .string ⟨#[]⟩, .bool false, .slice none 0 0, .slice none 0 0] 35 (0, 0)) := by
    rw [hw2]
    have := blk_new (w.alloc (.cells #[.int .i64 r0, .int .i64 r1, .int .i64 r2, .int .i64 r3, .string r4, .string r5, .bool r6, .slice A7 r7.length c7, .slice A8 r8.length c8] 35)) (.cells #[.int .i64 0, .int .i64 0, .int .i64 0, .int .i64 0, .string ⟨#[]⟩, .string ⟨#[]⟩, .bool false, .slice none 0 0, .slice none 0 0] 35)
    simpa using this
  have HW := Aside0.mk hw2
  have HB2 := Aside0.mk hB
  have HX1 := Aside0.mk hx1
  have HX2 := Aside0.mk hx2
  have H7 : Aside0 (∀ W, Below w.heap.size w W → Calls Try.prog 99 #[.slice A7 r7.length c7] W fun e w' => ∃ v, e = .returned v ∧ Kd.R Kd.string 9 w' W.heap.size (fun _ => True) v r7 ∧ Below W.heap.size W w') := ⟨fun W hW => clone_str W A7 c7 r7 (Kd.C_below g7 hW) h7⟩
  have H8 : Aside0 (∀ W, Below w.heap.size w W → Calls Try.prog 100 #[.slice A8 r8.length c8] W fun e w' => ∃ v, e = .returned v ∧ Kd.R k56 56 w' W.heap.size (fun _ => True) v r8 ∧ Below W.heap.size W w') := ⟨fun W hW => clone_wr W A8 c8 r8 (Kd.C_below g8 hW) h8⟩
  clear hw2 hB hx1 hx2 g7 g8 hK l7 l8
  go_enter Try.func54, Try.ntmps54
  go_wp2_with fail
  rw [← HW.out]
  have x7 := blk_cell HX1.out 7
  have x8 := blk_cell HX1.out 8
  have f7 := blk_frozen HX1.out 7
  have f8 := blk_frozen HX1.out 8
  go_region_law (first
    | (go_simp; go_at_call 99; refine (H7.out _ (by repeat (first | exact HB2.out | apply below_drew1))).mono ?_; rintro e w3 ⟨v7, rfl, hv7, hb3⟩; obtain ⟨B7, d7, hs7⟩ := Kd.R_slice hv7; subst hs7; have HV7 := Aside0.mk hv7; have HB3 := Aside0.mk hb3; have X3 := Aside0.mk (blk_below (blk_drew HX1.out) hb3); have Y3 := Aside0.mk (blk_below (blk_drew HX2.out) hb3); clear hv7 hb3 x7 x8 f7 f8; have x7 := blk_cell X3.out 7; have x8 := blk_cell X3.out 8; have f7 := blk_frozen X3.out 7; have f8 := blk_frozen X3.out 8)
    | (go_simp; go_at_call 100; refine (H8.out _ ((below_drew1 HB2.out).trans (HB3.out.mono (below_drew1 HB2.out).size))).mono ?_; rintro e w4 ⟨v8, rfl, hv8, hb4⟩; obtain ⟨B8, d8, hs8⟩ := Kd.R_slice hv8; subst hs8; have HV8 := Aside0.mk hv8; have HB4 := Aside0.mk hb4; have X4 := Aside0.mk (blk_below X3.out hb4); have Y4 := Aside0.mk (blk_below Y3.out hb4); clear hv8 hb4 x7 x8 f7 f8 X3 Y3; have x7 := blk_cell X4.out 7; have x8 := blk_cell X4.out 8; have f7 := blk_frozen X4.out 7; have f8 := blk_frozen X4.out 8))
  all_goals
    have B3 : Aside0 (Below w.heap.size w w3) := ⟨(below_drew1 HB2.out).trans (HB3.out.mono (below_drew1 HB2.out).size)⟩
    have B4 : Aside0 (Below w.heap.size w w4) := ⟨B3.out.trans (HB4.out.mono B3.out.size)⟩
    have BX5 : Aside0 (((w4.setCell ⟨w.heap.size, 7, none⟩ (.slice B7 r7.length d7)).setCell ⟨w.heap.size, 8, none⟩ (.slice B8 r8.length d8)).heap[w.heap.size]? = some (.cells #[.int .i64 r0, .int .i64 r1, .int .i64 r2, .int .i64 r3, .string r4, .string r5, .bool r6, .slice B7 r7.length d7, .slice B8 r8.length d8] 35 (0, 0))) := ⟨blk_put (blk_put X4.out 7 _ rfl) 8 _ rfl⟩
    have BY5 := Aside0.mk (blk_far (blk_far Y4.out (p := ⟨w.heap.size, 7, none⟩) (by simp) (.slice B7 r7.length d7)) (p := ⟨w.heap.size, 8, none⟩) (by simp) (.slice B8 r8.length d8))
    have B5 : Aside0 (Below w.heap.size w ((w4.setCell ⟨w.heap.size, 7, none⟩ (.slice B7 r7.length d7)).setCell ⟨w.heap.size, 8, none⟩ (.slice B8 r8.length d8))) := ⟨(B4.out.setCell (Nat.le_refl _) _).setCell (Nat.le_refl _) _⟩
    have V7 := Aside0.mk (Kd.R_lower (Kd.R_below HV7.out HB4.out) (below_drew1 HB2.out).size)
    have V8 := Aside0.mk (Kd.R_lower HV8.out B3.out.size)
    have W7 := Aside0.mk (R_far2 (by decide) V7.out (g := w.heap.size) X4.out 7 (.slice B7 r7.length d7) 8 (.slice B8 r8.length d8))
    have W8 := Aside0.mk (R_far2 (by decide) V8.out (g := w.heap.size) X4.out 7 (.slice B7 r7.length d7) 8 (.slice B8 r8.length d8))
    generalize (w4.setCell ⟨w.heap.size, 7, none⟩ (.slice B7 r7.length d7)).setCell ⟨w.heap.size, 8, none⟩ (.slice B8 r8.length d8) = w5 at *
    clear x7 x8 f7 f8 V7 V8 B3 B4 X4 Y4 HV7 HV8 HB3 HB4
    have x0 := blk_cell BX5.out 0
    have x1 := blk_cell BX5.out 1
    have x2 := blk_cell BX5.out 2
    have x3 := blk_cell BX5.out 3
    have x4 := blk_cell BX5.out 4
    have x5 := blk_cell BX5.out 5
    have x6 := blk_cell BX5.out 6
    have x7 := blk_cell BX5.out 7
    have x8 := blk_cell BX5.out 8
    have y0 := blk_cell BY5.out 0
    have y1 := blk_cell BY5.out 1
    have y2 := blk_cell BY5.out 2
    have y3 := blk_cell BY5.out 3
    have y4 := blk_cell BY5.out 4
    have y5 := blk_cell BY5.out 5
    have y6 := blk_cell BY5.out 6
    have y7 := blk_cell BY5.out 7
    have y8 := blk_cell BY5.out 8
    have f0 := blk_frozen BY5.out 0
    have f1 := blk_frozen BY5.out 1
    have f2 := blk_frozen BY5.out 2
    have f3 := blk_frozen BY5.out 3
    have f4 := blk_frozen BY5.out 4
    have f5 := blk_frozen BY5.out 5
    have f6 := blk_frozen BY5.out 6
    have f7 := blk_frozen BY5.out 7
    have f8 := blk_frozen BY5.out 8
    go_wp2
    have z0 := blk_put (cs' := #[.int .i64 r0, .int .i64 0, .int .i64 0, .int .i64 0, .string ⟨#[]⟩, .string ⟨#[]⟩, .bool false, .slice none 0 0, .slice none 0 0]) BY5.out 0 (.int .i64 r0) rfl
    have z1 := blk_put (cs' := #[.int .i64 r0, .int .i64 r1, .int .i64 0, .int .i64 0, .string ⟨#[]⟩, .string ⟨#[]⟩, .bool false, .slice none 0 0, .slice none 0 0]) z0 1 (.int .i64 r1) rfl
    have z2 := blk_put (cs' := #[.int .i64 r0, .int .i64 r1, .int .i64 r2, .int .i64 0, .string ⟨#[]⟩, .string ⟨#[]⟩, .bool false, .slice none 0 0, .slice none 0 0]) z1 2 (.int .i64 r2) rfl
    have z3 := blk_put (cs' := #[.int .i64 r0, .int .i64 r1, .int .i64 r2, .int .i64 r3, .string ⟨#[]⟩, .string ⟨#[]⟩, .bool false, .slice none 0 0, .slice none 0 0]) z2 3 (.int .i64 r3) rfl
    have z4 := blk_put (cs' := #[.int .i64 r0, .int .i64 r1, .int .i64 r2, .int .i64 r3, .string r4, .string ⟨#[]⟩, .bool false, .slice none 0 0, .slice none 0 0]) z3 4 (.string r4) rfl
    have z5 := blk_put (cs' := #[.int .i64 r0, .int .i64 r1, .int .i64 r2, .int .i64 r3, .string r4, .string r5, .bool false, .slice none 0 0, .slice none 0 0]) z4 5 (.string r5) rfl
    have z6 := blk_put (cs' := #[.int .i64 r0, .int .i64 r1, .int .i64 r2, .int .i64 r3, .string r4, .string r5, .bool r6, .slice none 0 0, .slice none 0 0]) z5 6 (.bool r6) rfl
    have z7 := blk_put (cs' := #[.int .i64 r0, .int .i64 r1, .int .i64 r2, .int .i64 r3, .string r4, .string r5, .bool r6, .slice B7 r7.length d7, .slice none 0 0]) z6 7 (.slice B7 r7.length d7) rfl
    have z8 := blk_put (cs' := #[.int .i64 r0, .int .i64 r1, .int .i64 r2, .int .i64 r3, .string r4, .string r5, .bool r6, .slice B7 r7.length d7, .slice B8 r8.length d8]) z7 8 (.slice B8 r8.length d8) rfl
    have BZ : Aside0 ((((((((((w5.setCell ⟨w.heap.size + 1, 0, none⟩ (.int .i64 r0)).setCell ⟨w.heap.size + 1, 1, none⟩ (.int .i64 r1)).setCell ⟨w.heap.size + 1, 2, none⟩ (.int .i64 r2)).setCell ⟨w.heap.size + 1, 3, none⟩ (.int .i64 r3)).setCell ⟨w.heap.size + 1, 4, none⟩ (.string r4)).setCell ⟨w.heap.size + 1, 5, none⟩ (.string r5)).setCell ⟨w.heap.size + 1, 6, none⟩ (.bool r6)).setCell ⟨w.heap.size + 1, 7, none⟩ (.slice B7 r7.length d7)).setCell ⟨w.heap.size + 1, 8, none⟩ (.slice B8 r8.length d8)).heap[w.heap.size + 1]? = some (.cells #[.int .i64 r0, .int .i64 r1, .int .i64 r2, .int .i64 r3, .string r4, .string r5, .bool r6, .slice B7 r7.length d7, .slice B8 r8.length d8] 35 (0, 0))) := ⟨z8⟩
    have B6 : Aside0 (Below w.heap.size w (((((((((w5.setCell ⟨w.heap.size + 1, 0, none⟩ (.int .i64 r0)).setCell ⟨w.heap.size + 1, 1, none⟩ (.int .i64 r1)).setCell ⟨w.heap.size + 1, 2, none⟩ (.int .i64 r2)).setCell ⟨w.heap.size + 1, 3, none⟩ (.int .i64 r3)).setCell ⟨w.heap.size + 1, 4, none⟩ (.string r4)).setCell ⟨w.heap.size + 1, 5, none⟩ (.string r5)).setCell ⟨w.heap.size + 1, 6, none⟩ (.bool r6)).setCell ⟨w.heap.size + 1, 7, none⟩ (.slice B7 r7.length d7)).setCell ⟨w.heap.size + 1, 8, none⟩ (.slice B8 r8.length d8))) := ⟨(Below.setCell (Below.setCell (Below.setCell (Below.setCell (Below.setCell (Below.setCell (Below.setCell (Below.setCell (Below.setCell B5.out (Nat.le_succ _) _) (Nat.le_succ _) _) (Nat.le_succ _) _) (Nat.le_succ _) _) (Nat.le_succ _) _) (Nat.le_succ _) _) (Nat.le_succ _) _) (Nat.le_succ _) _) (Nat.le_succ _) _)⟩
    have HM : Aside0 (∀ k, k ≠ w.heap.size + 1 → (((((((((w5.setCell ⟨w.heap.size + 1, 0, none⟩ (.int .i64 r0)).setCell ⟨w.heap.size + 1, 1, none⟩ (.int .i64 r1)).setCell ⟨w.heap.size + 1, 2, none⟩ (.int .i64 r2)).setCell ⟨w.heap.size + 1, 3, none⟩ (.int .i64 r3)).setCell ⟨w.heap.size + 1, 4, none⟩ (.string r4)).setCell ⟨w.heap.size + 1, 5, none⟩ (.string r5)).setCell ⟨w.heap.size + 1, 6, none⟩ (.bool r6)).setCell ⟨w.heap.size + 1, 7, none⟩ (.slice B7 r7.length d7)).setCell ⟨w.heap.size + 1, 8, none⟩ (.slice B8 r8.length d8)).heap[k]? = w5.heap[k]?) := ⟨fun k hk => (Eq.trans (Below.heap_setCell _ _ _ k hk) (Eq.trans (Below.heap_setCell _ _ _ k hk) (Eq.trans (Below.heap_setCell _ _ _ k hk) (Eq.trans (Below.heap_setCell _ _ _ k hk) (Eq.trans (Below.heap_setCell _ _ _ k hk) (Eq.trans (Below.heap_setCell _ _ _ k hk) (Eq.trans (Below.heap_setCell _ _ _ k hk) (Eq.trans (Below.heap_setCell _ _ _ k hk) (Below.heap_setCell _ _ _ k hk)))))))))⟩
    clear z0 z1 z2 z3 z4 z5 z6 z7 z8
    generalize (((((((((w5.setCell ⟨w.heap.size + 1, 0, none⟩ (.int .i64 r0)).setCell ⟨w.heap.size + 1, 1, none⟩ (.int .i64 r1)).setCell ⟨w.heap.size + 1, 2, none⟩ (.int .i64 r2)).setCell ⟨w.heap.size + 1, 3, none⟩ (.int .i64 r3)).setCell ⟨w.heap.size + 1, 4, none⟩ (.string r4)).setCell ⟨w.heap.size + 1, 5, none⟩ (.string r5)).setCell ⟨w.heap.size + 1, 6, none⟩ (.bool r6)).setCell ⟨w.heap.size + 1, 7, none⟩ (.slice B7 r7.length d7)).setCell ⟨w.heap.size + 1, 8, none⟩ (.slice B8 r8.length d8)) = w6 at *
    have Z7 := Aside0.mk (R_box (by decide) W7.out BY5.out HM.out)
    have Z8 := Aside0.mk (R_box (by decide) W8.out BY5.out HM.out)
    refine bodyPost_ret (results_cell_row rfl _ _ (w.heap.size + 1) 35 _ (0, 0) _ rfl BZ.out Try.underlying35 rfl (by kernel_rfl)) rfl ?_
    exact ⟨[.int .i64 r0, .int .i64 r1, .int .i64 r2, .int .i64 r3, .string r4, .string r5, .bool r6, .slice B7 r7.length d7, .slice B8 r8.length d8], rfl, k35_mkM _ _ _ (⟨r0, r1, r2, r3, r4, r5, r6, r7, r8⟩ : Rec) Z7.out Z8.out, B6.out⟩
end Go.Proofs.Ytaldfbmjmpkmmaa.PL
