/- Texts of this proof, one behind the other (merged by a program of this session). -/
import Derived.Test.YtaldfbmjmpkmmaaGreatM1d5638
namespace Go.Proofs.YtaldfbmjmpkmmaaGreat.PL
open Go.RowKit Go.Proofs.YtaldfbmjmpkmmaaGreatW.PrintWords Go.Proofs.YtaldfbmjmpkmmaaGreatW.PrintLast Go.Proofs.YtaldfbmjmpkmmaaGreatW.PrintMore Go.Shelf Go.Maps Go.WideMaps Go.Proofs.YtaldfbmjmpkmmaaGreat.Mk
set_option linter.unusedVariables false
set_option linter.unusedSimpArgs false
set_option linter.unusedSectionVars false
/-- A row of one's own under two stores into a box of records. -/
theorem R_far2 {α : Type} {d : Kd α} {e base : Nat} {ok : Nat → Prop} {w : World} {v : Value} {xs : List α} (ht : ∀ q, q ∈ e :: d.E → q ≠ 26) (h : d.R e w base ok v xs) {g : Nat} {cells : Array Value} (hb : w.heap[g]? = some (.cells cells 26 (0, 0))) (i : Nat) (u : Value) (j : Nat) (x : Value) :
 d.R e ((w.setCell ⟨g, i, none⟩ u).setCell ⟨g, j, none⟩ x) base ok v xs :=
 Kd.R_mono (Kd.R_step (Kd.R_types h hb ht) (fun k hk _ => (Below.heap_setCell _ ⟨g, j, none⟩ x k hk.2).trans (Below.heap_setCell _ ⟨g, i, none⟩ u k hk.2))) (fun _ hk => hk.1)
theorem R_box {α : Type} {d : Kd α} {e base : Nat} {ok : Nat → Prop} {w w1 : World} {v : Value} {xs : List α} (ht : ∀ q, q ∈ e :: d.E → q ≠ 26) (h : d.R e w base ok v xs) {g : Nat} {cells : Array Value} (hb : w.heap[g]? = some (.cells cells 26 (0, 0))) (hm : ∀ k, k ≠ g → w1.heap[k]? = w.heap[k]?) : d.R e w1 base ok v xs :=
 Kd.R_mono (Kd.R_step (Kd.R_types h hb ht) (fun k hk _ => hm k hk.2)) (fun _ hk => hk.1)
set_option maxRecDepth 100000 in
set_option maxHeartbeats 4000000 in
theorem copied_walk (w : World) (r : Rec) (cs : List Value) (hK : k26.K w r cs) (h7 : r.f7.length ≤ 8192) (h8 : r.f8.length ≤ 8192) :
 Calls Tryz.prog 31 #[.agg cs.toArray] w fun e w' => ∃ cs', e = .returned (.agg cs'.toArray) ∧ k26.M w' w.heap.size (fun _ => True) r cs' ∧ Below w.heap.size w w' := by
 obtain ⟨A7, c7, A8, c8, rfl, l7, g7, l8, g8⟩ := k26_open hK
 obtain ⟨r0, r1, r2, r3, r4, r5, r6, r7, r8⟩ := r
 simp only at *
 obtain ⟨w2, hw2⟩ : ∃ w2, w2 = (w.alloc (.cells #[.int .i64 r0, .int .i64 r1, .int .i64 r2, .int .i64 r3, .string r4, .string r5, .bool r6, .slice A7 r7.length c7, .slice A8 r8.length c8] 26)).alloc (.cells #[.int .i64 0, .int .i64 0, .int .i64 0, .int .i64 0, .string ⟨#[]⟩, .string ⟨#[]⟩, .bool false, .slice none 0 0, .slice none 0 0] 26) := ⟨_, rfl⟩
 have hB : Below w.heap.size w w2 := by rw [hw2]; exact below_alloc (below_alloc (Below.refl _ w) _) _
 have hx1 : w2.heap[w.heap.size]? = some (.cells #[.int .i64 r0, .int .i64 r1, .int .i64 r2, .int .i64 r3, .string r4, .string r5, .bool r6, .slice A7 r7.length c7, .slice A8 r8.length c8] 26 (0, 0)) := by rw [hw2]; exact blk_alloc (blk_new _ _) _
 have hx2 : w2.heap[w.heap.size + 1]? = some (.cells #[.int .i64 0, .int .i64 0, .int .i64 0, .int .i64 0, .string ⟨#[]⟩, .string ⟨#[]⟩, .bool false, .slice none 0 0, .slice none 0 0] 26 (0, 0)) := by
  rw [hw2]
  have := blk_new (w.alloc (.cells #[.int .i64 r0, .int .i64 r1, .int .i64 r2, .int .i64 r3, .string r4, .string r5, .bool r6, .slice A7 r7.length c7, .slice A8 r8.length c8] 26)) (.cells #[.int .i64 0, .int .i64 0, .int .i64 0, .int .i64 0, .string ⟨#[]⟩, .string ⟨#[]⟩, .bool false, .slice none 0 0, .slice none 0 0] 26)
  simpa using this
 have HW := Aside0.mk hw2
 have HB2 := Aside0.mk hB
 have HX1 := Aside0.mk hx1
 have HX2 := Aside0.mk hx2
 have H7 : Aside0 (∀ W, Below w.heap.size w W → Calls Tryz.prog 68 #[.slice A7 r7.length c7] W fun e w' => ∃ v, e = .returned v ∧ Kd.R Kd.string 9 w' W.heap.size (fun _ => True) v r7 ∧ Below W.heap.size W w') := ⟨fun W hW => clone_str W A7 c7 r7 (Kd.C_below g7 hW) h7⟩
 have H8 : Aside0 (∀ W, Below w.heap.size w W → Calls Tryz.prog 69 #[.slice A8 r8.length c8] W fun e w' => ∃ v, e = .returned v ∧ Kd.R k57 57 w' W.heap.size (fun _ => True) v r8 ∧ Below W.heap.size W w') := ⟨fun W hW => clone_wr W A8 c8 r8 (Kd.C_below g8 hW) h8⟩
 clear hw2 hB hx1 hx2 g7 g8 hK l7 l8
 go_enter Tryz.func31, Tryz.ntmps31
 go_wp2_with fail
 rw [← HW.out]
 have x7 := blk_cell HX1.out 7
 have x8 := blk_cell HX1.out 8
 have f7 := blk_frozen HX1.out 7
 have f8 := blk_frozen HX1.out 8
 go_region_law (first
  | (go_simp; go_at_call 68; refine (H7.out _ (by repeat (first | exact HB2.out | apply below_drew1))).mono ?_; rintro e w3 ⟨v7, rfl, hv7, hb3⟩; obtain ⟨B7, d7, hs7⟩ := Kd.R_slice hv7; subst hs7; have HV7 := Aside0.mk hv7; have HB3 := Aside0.mk hb3; have X3 := Aside0.mk (blk_below (blk_drew HX1.out) hb3); have Y3 := Aside0.mk (blk_below (blk_drew HX2.out) hb3); clear hv7 hb3 x7 x8 f7 f8; have x7 := blk_cell X3.out 7; have x8 := blk_cell X3.out 8; have f7 := blk_frozen X3.out 7; have f8 := blk_frozen X3.out 8)
  | (go_simp; go_at_call 69; refine (H8.out _ ((below_drew1 HB2.out).trans (HB3.out.mono (below_drew1 HB2.out).size))).mono ?_; rintro e w4 ⟨v8, rfl, hv8, hb4⟩; obtain ⟨B8, d8, hs8⟩ := Kd.R_slice hv8; subst hs8; have HV8 := Aside0.mk hv8; have HB4 := Aside0.mk hb4; have X4 := Aside0.mk (blk_below X3.out hb4); have Y4 := Aside0.mk (blk_below Y3.out hb4); clear hv8 hb4 x7 x8 f7 f8 X3 Y3; have x7 := blk_cell X4.out 7; have x8 := blk_cell X4.out 8; have f7 := blk_frozen X4.out 7; have f8 := blk_frozen X4.out 8))
 all_goals
  have B3 : Aside0 (Below w.heap.size w w3) := ⟨(below_drew1 HB2.out).trans (HB3.out.mono (below_drew1 HB2.out).size)⟩
  have B4 : Aside0 (Below w.heap.size w w4) := ⟨B3.out.trans (HB4.out.mono B3.out.size)⟩
  have BX5 : Aside0 (((w4.setCell ⟨w.heap.size, 7, none⟩ (.slice B7 r7.length d7)).setCell ⟨w.heap.size, 8, none⟩ (.slice B8 r8.length d8)).heap[w.heap.size]? = some (.cells #[.int .i64 r0, .int .i64 r1, .int .i64 r2, .int .i64 r3, .string r4, .string r5, .bool r6, .slice B7 r7.length d7, .slice B8 r8.length d8] 26 (0, 0))) := ⟨blk_put (blk_put X4.out 7 _ rfl) 8 _ rfl⟩
  have BY5 := Aside0.mk (blk_far (blk_far Y4.out (p := ⟨w.heap.size, 7, none⟩) (by simp) (.slice B7 r7.length d7)) (p := ⟨w.heap.size, 8, none⟩) (by simp) (.slice B8 r8.length d8))
  have B5 : Aside0 (Below w.heap.size w ((w4.setCell ⟨w.heap.size, 7, none⟩ (.slice B7 r7.length d7)).setCell ⟨w.heap.size, 8, none⟩ (.slice B8 r8.length d8))) := ⟨(B4.out.setCell (Nat.le_refl _) _).setCell (Nat.le_refl _) _⟩
  have V7 := Aside0.mk (Kd.R_lower (Kd.R_below HV7.out HB4.out) (below_drew1 HB2.out).size)
  have V8 := Aside0.mk (Kd.R_lower HV8.out B3.out.size)
  have W7 := Aside0.mk (R_far2 (by decide) V7.out (g := w.heap.size) X4.out 7 (.slice B7 r7.length d7) 8 (.slice B8 r8.length d8))
  have W8 := Aside0.mk (R_far2 (by decide) V8.out (g := w.heap.size) X4.out 7 (.slice B7 r7.length d7) 8 (.slice B8 r8.length d8))
  generalize (w4.setCell ⟨w.heap.size, 7, none⟩ (.slice B7 r7.length d7)).setCell ⟨w.heap.size, 8, none⟩ (.slice B8 r8.length d8) = w5 at *
  clear x7 x8 f7 f8 V7 V8 B3 B4 X4 Y4 HV7 HV8 HB3 HB4
  have x0 := blk_cell BX5.out 0
  have x1 := blk_cell BX5.out 1
  have x2 := blk_cell BX5.out 2
  have x3 := blk_cell BX5.out 3
  have x4 := blk_cell BX5.out 4
  have x5 := blk_cell BX5.out 5
  have x6 := blk_cell BX5.out 6
  have x7 := blk_cell BX5.out 7
  have x8 := blk_cell BX5.out 8
  have y0 := blk_cell BY5.out 0
  have y1 := blk_cell BY5.out 1
  have y2 := blk_cell BY5.out 2
  have y3 := blk_cell BY5.out 3
  have y4 := blk_cell BY5.out 4
  have y5 := blk_cell BY5.out 5
  have y6 := blk_cell BY5.out 6
  have y7 := blk_cell BY5.out 7
  have y8 := blk_cell BY5.out 8
  have f0 := blk_frozen BY5.out 0
  have f1 := blk_frozen BY5.out 1
  have f2 := blk_frozen BY5.out 2
  have f3 := blk_frozen BY5.out 3
  have f4 := blk_frozen BY5.out 4
  have f5 := blk_frozen BY5.out 5
  have f6 := blk_frozen BY5.out 6
  have f7 := blk_frozen BY5.out 7
  have f8 := blk_frozen BY5.out 8
  go_wp2
  have z0 := blk_put (cs' := #[.int .i64 r0, .int .i64 0, .int .i64 0, .int .i64 0, .string ⟨#[]⟩, .string ⟨#[]⟩, .bool false, .slice none 0 0, .slice none 0 0]) BY5.out 0 (.int .i64 r0) rfl
  have z1 := blk_put (cs' := #[.int .i64 r0, .int .i64 r1, .int .i64 0, .int .i64 0, .string ⟨#[]⟩, .string ⟨#[]⟩, .bool false, .slice none 0 0, .slice none 0 0]) z0 1 (.int .i64 r1) rfl
  have z2 := blk_put (cs' := #[.int .i64 r0, .int .i64 r1, .int .i64 r2, .int .i64 0, .string ⟨#[]⟩, .string ⟨#[]⟩, .bool false, .slice none 0 0, .slice none 0 0]) z1 2 (.int .i64 r2) rfl
  have z3 := blk_put (cs' := #[.int .i64 r0, .int .i64 r1, .int .i64 r2, .int .i64 r3, .string ⟨#[]⟩, .string ⟨#[]⟩, .bool false, .slice none 0 0, .slice none 0 0]) z2 3 (.int .i64 r3) rfl
  have z4 := blk_put (cs' := #[.int .i64 r0, .int .i64 r1, .int .i64 r2, .int .i64 r3, .string r4, .string ⟨#[]⟩, .bool false, .slice none 0 0, .slice none 0 0]) z3 4 (.string r4) rfl
  have z5 := blk_put (cs' := #[.int .i64 r0, .int .i64 r1, .int .i64 r2, .int .i64 r3, .string r4, .string r5, .bool false, .slice none 0 0, .slice none 0 0]) z4 5 (.string r5) rfl
  have z6 := blk_put (cs' := #[.int .i64 r0, .int .i64 r1, .int .i64 r2, .int .i64 r3, .string r4, .string r5, .bool r6, .slice none 0 0, .slice none 0 0]) z5 6 (.bool r6) rfl
  have z7 := blk_put (cs' := #[.int .i64 r0, .int .i64 r1, .int .i64 r2, .int .i64 r3, .string r4, .string r5, .bool r6, .slice B7 r7.length d7, .slice none 0 0]) z6 7 (.slice B7 r7.length d7) rfl
  have z8 := blk_put (cs' := #[.int .i64 r0, .int .i64 r1, .int .i64 r2, .int .i64 r3, .string r4, .string r5, .bool r6, .slice B7 r7.length d7, .slice B8 r8.length d8]) z7 8 (.slice B8 r8.length d8) rfl
  have BZ : Aside0 ((((((((((w5.setCell ⟨w.heap.size + 1, 0, none⟩ (.int .i64 r0)).setCell ⟨w.heap.size + 1, 1, none⟩ (.int .i64 r1)).setCell ⟨w.heap.size + 1, 2, none⟩ (.int .i64 r2)).setCell ⟨w.heap.size + 1, 3, none⟩ (.int .i64 r3)).setCell ⟨w.heap.size + 1, 4, none⟩ (.string r4)).setCell ⟨w.heap.size + 1, 5, none⟩ (.string r5)).setCell ⟨w.heap.size + 1, 6, none⟩ (.bool r6)).setCell ⟨w.heap.size + 1, 7, none⟩ (.slice B7 r7.length d7)).setCell ⟨w.heap.size + 1, 8, none⟩ (.slice B8 r8.length d8)).heap[w.heap.size + 1]? = some (.cells #[.int .i64 r0, .int .i64 r1, .int .i64 r2, .int .i64 r3, .string r4, .string r5, .bool r6, .slice B7 r7.length d7, .slice B8 r8.length d8] 26 (0, 0))) := ⟨z8⟩
  have B6 : Aside0 (Below w.heap.size w (((((((((w5.setCell ⟨w.heap.size + 1, 0, none⟩ (.int .i64 r0)).setCell ⟨w.heap.size + 1, 1, none⟩ (.int .i64 r1)).setCell ⟨w.heap.size + 1, 2, none⟩ (.int .i64 r2)).setCell ⟨w.heap.size + 1, 3, none⟩ (.int .i64 r3)).setCell ⟨w.heap.size + 1, 4, none⟩ (.string r4)).setCell ⟨w.heap.size + 1, 5, none⟩ (.string r5)).setCell ⟨w.heap.size + 1, 6, none⟩ (.bool r6)).setCell ⟨w.heap.size + 1, 7, none⟩ (.slice B7 r7.length d7)).setCell ⟨w.heap.size + 1, 8, none⟩ (.slice B8 r8.length d8))) := ⟨(Below.setCell (Below.setCell (Below.setCell (Below.setCell (Below.setCell (Below.setCell (Below.setCell (Below.setCell (Below.setCell B5.out (Nat.le_succ _) _) (Nat.le_succ _) _) (Nat.le_succ _) _) (Nat.le_succ _) _) (Nat.le_succ _) _) (Nat.le_succ _) _) (Nat.le_succ _) _) (Nat.le_succ _) _) (Nat.le_succ _) _)⟩
  have HM : Aside0 (∀ k, k ≠ w.heap.size + 1 → (((((((((w5.setCell ⟨w.heap.size + 1, 0, none⟩ (.int .i64 r0)).setCell ⟨w.heap.size + 1, 1, none⟩ (.int .i64 r1)).setCell ⟨w.heap.size + 1, 2, none⟩ (.int .i64 r2)).setCell ⟨w.heap.size + 1, 3, none⟩ (.int .i64 r3)).setCell ⟨w.heap.size + 1, 4, none⟩ (.string r4)).setCell ⟨w.heap.size + 1, 5, none⟩ (.string r5)).setCell ⟨w.heap.size + 1, 6, none⟩ (.bool r6)).setCell ⟨w.heap.size + 1, 7, none⟩ (.slice B7 r7.length d7)).setCell ⟨w.heap.size + 1, 8, none⟩ (.slice B8 r8.length d8)).heap[k]? = w5.heap[k]?) := ⟨fun k hk => (Eq.trans (Below.heap_setCell _ _ _ k hk) (Eq.trans (Below.heap_setCell _ _ _ k hk) (Eq.trans (Below.heap_setCell _ _ _ k hk) (Eq.trans (Below.heap_setCell _ _ _ k hk) (Eq.trans (Below.heap_setCell _ _ _ k hk) (Eq.trans (Below.heap_setCell _ _ _ k hk) (Eq.trans (Below.heap_setCell _ _ _ k hk) (Eq.trans (Below.heap_setCell _ _ _ k hk) (Below.heap_setCell _ _ _ k hk)))))))))⟩
  clear z0 z1 z2 z3 z4 z5 z6 z7 z8
  generalize (((((((((w5.setCell ⟨w.heap.size + 1, 0, none⟩ (.int .i64 r0)).setCell ⟨w.heap.size + 1, 1, none⟩ (.int .i64 r1)).setCell ⟨w.heap.size + 1, 2, none⟩ (.int .i64 r2)).setCell ⟨w.heap.size + 1, 3, none⟩ (.int .i64 r3)).setCell ⟨w.heap.size + 1, 4, none⟩ (.string r4)).setCell ⟨w.heap.size + 1, 5, none⟩ (.string r5)).setCell ⟨w.heap.size + 1, 6, none⟩ (.bool r6)).setCell ⟨w.heap.size + 1, 7, none⟩ (.slice B7 r7.length d7)).setCell ⟨w.heap.size + 1, 8, none⟩ (.slice B8 r8.length d8)) = w6 at *
  have Z7 := Aside0.mk (R_box (by decide) W7.out BY5.out HM.out)
  have Z8 := Aside0.mk (R_box (by decide) W8.out BY5.out HM.out)
  refine bodyPost_ret (results_cell_row rfl _ _ (w.heap.size + 1) 26 _ (0, 0) _ rfl BZ.out Tryz.underlying26 rfl (by kernel_rfl)) rfl ?_
  exact ⟨[.int .i64 r0, .int .i64 r1, .int .i64 r2, .int .i64 r3, .string r4, .string r5, .bool r6, .slice B7 r7.length d7, .slice B8 r8.length d8], rfl, k26_mkM _ _ _ (⟨r0, r1, r2, r3, r4, r5, r6, r7, r8⟩ : Rec) Z7.out Z8.out, B6.out⟩
end Go.Proofs.YtaldfbmjmpkmmaaGreat.PL
namespace Go.Proofs.YtaldfbmjmpkmmaaGreat.PL
open Go.RowKit Go.Proofs.YtaldfbmjmpkmmaaGreatW.PrintWords Go.Proofs.YtaldfbmjmpkmmaaGreatW.PrintLast Go.Proofs.YtaldfbmjmpkmmaaGreatW.PrintMore Go.Shelf Go.Maps Go.WideMaps Go.Proofs.YtaldfbmjmpkmmaaGreat.Mk
set_option linter.unusedVariables false
set_option linter.unusedSimpArgs false
set_option linter.unusedSectionVars false

set_option maxRecDepth 100000 in
theorem new_walk (w : World) : Calls Tryz.prog 12 #[] w fun e w' => ∃ b, e = .returned (.pointer (some ⟨b, 0, none⟩)) ∧ ShAt w' (fun g => w.heap.size ≤ g) b 0 sh0 ∧ Below w.heap.size w w' := by
 have m1 := MapL.made Tryz.prog 9 w
 have m2 := MapL.made Tryz.prog 3 (w.alloc (.map #[] 0))
 have b1 := below_alloc (Below.refl _ (w.alloc (.map #[] 0))) (.map #[] 0)
 have b2 := below_alloc (Below.refl _ ((w.alloc (.map #[] 0)).alloc (.map #[] 0))) (.cells #[.map (some w.heap.size), .map (some (w.heap.size + 1)), .slice none 0 0, .int .i64 0] 69)
 have h1 := (m1.below b1).below b2
 have h2 := m2.below b2
 have hbx := blk_new ((w.alloc (.map #[] 0)).alloc (.map #[] 0)) (.cells #[.map (some w.heap.size), .map (some (w.heap.size + 1)), .slice none 0 0, .int .i64 0] 69)
 have hs : (w.alloc (.map #[] 0)).heap.size = w.heap.size + 1 := by simp
 have hs2 : ((w.alloc (.map #[] 0)).alloc (.map #[] 0)).heap.size = w.heap.size + 2 := by simp
 rw [hs] at h2
 rw [hs2] at hbx
 have H := Aside0.mk (And.intro h1 (And.intro h2 hbx))
 clear m1 m2 b1 b2 h1 h2 hbx hs hs2
 have hmm := @run_makeMap Tryz.prog
 go_enter Tryz.func12, Tryz.ntmps12
 go_wp2
 go_ret
 refine ⟨w.heap.size + 2, rfl, ⟨w.heap.size, w.heap.size + 1, .slice none 0 0, fun _ => none, fun _ => none, ?_⟩, below_alloc (below_alloc (below_alloc (Below.refl _ w) _) _) _⟩
 exact ⟨H.out.2.2, H.out.1, H.out.2.1, Kd.R_nil _ _ _ _ _, (fun q v hq => by cases hq), (fun k hk => by simp [sh0, keysK] at hk), (fun q v hq => by cases hq), (fun r hr => by simp [sh0] at hr), by omega, by omega, by omega, by omega, sh0_ok⟩
end Go.Proofs.YtaldfbmjmpkmmaaGreat.PL
namespace Go.Proofs.YtaldfbmjmpkmmaaGreat.PL
open Go.RowKit Go.Proofs.YtaldfbmjmpkmmaaGreatW.PrintWords Go.Proofs.YtaldfbmjmpkmmaaGreatW.PrintLast Go.Proofs.YtaldfbmjmpkmmaaGreatW.PrintMore Go.Shelf Go.Maps Go.WideMaps Go.Proofs.YtaldfbmjmpkmmaaGreat.Mk
set_option linter.unusedVariables false
set_option linter.unusedSimpArgs false
set_option linter.unusedSectionVars false
section
variable {α : Type} {d : Kd α} {e base : Nat} {ok : Nat → Prop} {w w1 : World} {v : Value} {xs : List α}
/-- A row of one's own stays where its blocks do. -/
theorem R_keep (h : d.R e w base ok v xs) (hs : ∀ g, ok g → ∀ q, q ∈ e :: d.E → ∀ cells, w.heap[g]? = some (.cells cells q (0, 0)) → w1.heap[g]? = w.heap[g]?) : d.R e w1 base ok v xs :=
 Kd.R_mono (Kd.R_move (Kd.R_bound h) (fun k hk => by
  obtain ⟨h1, _, _, q, hq, cells, hc⟩ := hk
  exact hs k h1 q hq cells hc)) (fun _ hk => hk.1)
theorem M_keep {x : α} {cs : List Value} (h : d.M w base ok x cs) (hs : ∀ g, ok g → ∀ q, q ∈ d.E → ∀ cells, w.heap[g]? = some (.cells cells q (0, 0)) → w1.heap[g]? = w.heap[g]?) : d.M w1 base ok x cs :=
 d.M_mono (fun _ hk => hk.1) (d.M_move (fun k hk => by
  obtain ⟨h1, _, _, q, hq, cells, hc⟩ := hk
  exact hs k h1 q hq cells hc) (d.M_bound h))
theorem R_map {b : Nat} (h : d.R e w base ok v xs) (hg : w.grownBy w1 (some b)) (hb : ∀ cells q, w.heap[b]? ≠ some (.cells cells q (0, 0))) : d.R e w1 base ok v xs :=
 R_keep h (fun g _ q _ cells hc => hg.block g (blk_lt hc) (fun e => hb cells q (by injection e with e; rw [← e]; exact hc)))
theorem M_map {b : Nat} {x : α} {cs : List Value} (h : d.M w base ok x cs) (hg : w.grownBy w1 (some b)) (hb : ∀ cells q, w.heap[b]? ≠ some (.cells cells q (0, 0))) : d.M w1 base ok x cs :=
 M_keep h (fun g _ q _ cells hc => hg.block g (blk_lt hc) (fun e => hb cells q (by injection e with e; rw [← e]; exact hc)))
/-- What a call has made: its blocks are ok where all new ones are. -/
theorem M_new {x : α} {cs : List Value} {n : Nat} (h : d.M w n (fun _ => True) x cs) (hok : ∀ g, n ≤ g → ok g) : d.M w 0 ok x cs :=
 d.M_lower (Nat.zero_le _) (d.M_mono (fun k hk => hok k hk.2.1) (d.M_bound h))
theorem R_new {n : Nat} (h : d.R e w n (fun _ => True) v xs) (hok : ∀ g, n ≤ g → ok g) : d.R e w 0 ok v xs :=
 Kd.R_lower (Kd.R_mono (Kd.R_bound h) (fun k hk => hok k hk.2.1)) (Nat.zero_le _)
end
section
variable {ok : Nat → Prop} {w w' w1 : World} {b N : Nat} {s : Sh} {bk bp : Nat} {ve : Value} {fk fp : Lit → Option Value}
theorem blk_map {bq : Nat} {cells : Array Value} {t : Nat} {g : Nat} (hb : w.heap[g]? = some (.cells cells t (0, 0))) (hg : w.grownBy w' (some bq)) (hn : ∀ cells t, w.heap[bq]? ≠ some (.cells cells t (0, 0))) : w'.heap[g]? = some (.cells cells t (0, 0)) :=
 (hg.block g (blk_lt hb) (fun e => hn cells t (by injection e with e; rw [← e]; exact hb))).trans hb
theorem Parts.mono (h : Parts w ok b N s bk bp ve fk fp) {M : Nat} (hM : N ≤ M) : Parts w ok b M s bk bp ve fk fp := ⟨h.box, h.keys.mono hM, h.preps.mono hM, h.ends, h.kf, h.kt, h.pf, h.pt, h.okb, h.okk, h.okp, h.ne, h.good⟩
theorem ShAt.mono (h : ShAt w ok b N s) {M : Nat} (hM : N ≤ M) : ShAt w ok b M s := by
 obtain ⟨bk, bp, ve, fk, fp, hp⟩ := h
 exact ⟨bk, bp, ve, fk, fp, hp.mono hM⟩
theorem Parts.prep_put (h : Parts w ok b N s bk bp ve fk fp) (hg : w.grownBy w' (some bp)) {r : Rec} {cs : List Value} (hm : MapL Tryz.prog 3 w' bp (N + 1) (lput fp (ik r.f1) (.agg cs.toArray))) (hM : k26.M w 0 ok r cs) (hn : ∀ x ∈ s.P, x.f1 ≠ r.f1)
 (hs : ShOk { s with P := pput s.P r }) : Parts w' ok b (N + 1) { s with P := pput s.P r } bk bp ve fk (lput fp (ik r.f1) (.agg cs.toArray)) :=
 have hb : ∀ cells q, w.heap[bp]? ≠ some (.cells cells q (0, 0)) := fun cells q => h.preps.not_cells
 ⟨blk_map h.box hg hb, (h.keys.kept hg (fun e => h.ne (by injection e))).mono (Nat.le_succ _), hm, R_map h.ends hg hb, fun q v hq => by
  obtain ⟨k, h1, h2, h3⟩ := h.kf q v hq
  exact ⟨k, h1, h2, R_map h3 hg hb⟩, h.kt, fun q v hq => by
  unfold lput at hq
  split at hq
  ·rename_i hq2
   obtain rfl := Option.some.inj hq
   exact ⟨r, (pput_mem r r s.P).2 (.inl rfl), WideAt.sameKey_eq hq2, cs, rfl, M_map hM hg hb⟩
  ·obtain ⟨r', h1, h2, cs', h3, h4⟩ := h.pf q v hq
   exact ⟨r', (pput_mem r r' s.P).2 (.inr h1), h2, cs', h3, M_map h4 hg hb⟩, fun x hx => by
  unfold lput
  split
  ·rfl
  ·rename_i hq
   rcases (pput_mem r x s.P).1 hx with rfl | hx
   ·exact absurd (by rw [sameKey_ik]; exact decide_eq_true rfl) hq
   ·exact h.pt x hx, h.okb, h.okk, h.okp, h.ne, hs⟩
end
set_option maxRecDepth 100000 in
theorem prep1_walk {ok : Nat → Prop} {b N : Nat} {s : Sh} (W : World) (bx : Nat) (hx : W.cell? ⟨bx, 0, none⟩ = some (.pointer (some ⟨b, 0, none⟩))) (h : ShAt W ok b N s) (x : ByteArray) :
 Calls Tryz.prog 74 (#[.string x] ++ #[.pointer (some ⟨bx, 0, none⟩)]) W fun e W' => e = .returned (.bool (heldV s (kb x) false)) ∧ Below W.heap.size W W' := by
 show Calls Tryz.prog 74 #[.string x, .pointer (some ⟨bx, 0, none⟩)] W _
 have HH := Aside0.mk (held_walk h x false)
 clear h
 generalize heldV s (kb x) false = q at *
 go_enter Tryz.func74, Tryz.ntmps74
 go_wp2_with fail
 refine HH.out.mono ?_
 rintro e w1 ⟨rfl, hb⟩
 have HB := Aside0.mk hb
 clear hb
 go_wp2_with fail
 go_ret
 exact ⟨rfl, HB.out⟩
set_option maxRecDepth 100000 in
theorem prep2_walk {ok : Nat → Prop} {b N : Nat} {s : Sh} (W : World) (bx : Nat) (hx : W.cell? ⟨bx, 0, none⟩ = some (.pointer (some ⟨b, 0, none⟩))) (h : ShAt W ok b N s) (x : Wr) :
 Calls Tryz.prog 76 (#[.agg #[.string x.f0, .string x.f1, .bool x.f2]] ++ #[.pointer (some ⟨bx, 0, none⟩)]) W fun e W' => e = .returned (.bool (heldV s (kb x.f0) true)) ∧ Below W.heap.size W W' := by
 show Calls Tryz.prog 76 #[.agg #[.string x.f0, .string x.f1, .bool x.f2], .pointer (some ⟨bx, 0, none⟩)] W _
 obtain ⟨x0, x1, x2⟩ := x
 simp only
 have hb0 := below_alloc (Below.refl _ W) (.cells #[.string x0, .string x1, .bool x2] 57)
 have hx2 := pw_cell_below hb0 hx
 have HH := Aside0.mk (held_walk (h.below hb0) x0 true)
 have HB0 := Aside0.mk hb0
 clear h hb0 hx
 generalize heldV s (kb x0) true = q at *
 go_enter Tryz.func76, Tryz.ntmps76
 go_wp2_with fail
 refine HH.out.mono ?_
 rintro e w1 ⟨rfl, hb⟩
 have HB : Aside0 (Below W.heap.size W w1) := ⟨HB0.out.trans (hb.mono HB0.out.size)⟩
 clear hb
 go_wp2_with fail
 go_ret
 exact ⟨rfl, HB.out⟩
set_option maxRecDepth 100000 in
set_option maxHeartbeats 8000000 in
theorem prepare_walk {w : World} {ok : Nat → Prop} {b N : Nat} {s : Sh} (h : ShAt w ok b N s) (hok : ∀ g, w.heap.size ≤ g → ok g) (hN : N < maxLen) (r : Rec) (cs : List Value) (hK : k26.K w r cs) (h0 : r.f0 = 1) (hr : okR r = 0) :
 Calls Tryz.prog 33 #[.pointer (some ⟨b, 0, none⟩), .agg cs.toArray] w fun e w' => e = .returned (.int .i64 (prepV s r).1) ∧ ShAt w' ok b (N + 1) (prepV s r).2 ∧ Chg ok w w' := by
 obtain ⟨A7, c7, A8, c8, rfl, l7, g7, l8, g8⟩ := k26_open hK
 have hts := (okR_all hr).1
 have HLS := Aside0.mk (prep_lists h0 hr).1
 have HRO := Aside0.mk (And.intro h0 hr)
 clear h0 hr
 obtain ⟨w2, hw2⟩ : ∃ w2, w2 = (w.alloc (.cells #[.pointer (some ⟨b, 0, none⟩)] 27)).alloc (.cells #[.int .i64 r.f0, .int .i64 r.f1, .int .i64 r.f2, .int .i64 r.f3, .string r.f4, .string r.f5, .bool r.f6, .slice A7 r.f7.length c7, .slice A8 r.f8.length c8] 26) := ⟨_, rfl⟩
 have hB : Below w.heap.size w w2 := by rw [hw2]; exact below_alloc (below_alloc (Below.refl _ w) _) _
 have hx1 : w2.heap[w.heap.size]? = some (.cells #[.pointer (some ⟨b, 0, none⟩)] 27 (0, 0)) := by rw [hw2]; exact blk_alloc (blk_new _ _) _
 have hx2 : w2.heap[w.heap.size + 1]? = some (.cells #[.int .i64 r.f0, .int .i64 r.f1, .int .i64 r.f2, .int .i64 r.f3, .string r.f4, .string r.f5, .bool r.f6, .slice A7 r.f7.length c7, .slice A8 r.f8.length c8] 26 (0, 0)) := by
  rw [hw2]
  have := blk_new (w.alloc (.cells #[.pointer (some ⟨b, 0, none⟩)] 27)) (.cells #[.int .i64 r.f0, .int .i64 r.f1, .int .i64 r.f2, .int .i64 r.f3, .string r.f4, .string r.f5, .bool r.f6, .slice A7 r.f7.length c7, .slice A8 r.f8.length c8] 26)
  simpa using this
 have HW := Aside0.mk hw2
 have HB2 := Aside0.mk hB
 have HX1 := Aside0.mk hx1
 have HX2 := Aside0.mk hx2
 have HS2 := Aside0.mk (h.below hB)
 have G7 := Aside0.mk (Kd.C_below g7 hB)
 have G8 := Aside0.mk (Kd.C_below g8 hB)
 have HK2 := Aside0.mk (k26.K_below hB hK)
 have HST := Aside0.mk (state_walk (h.below hB) r.f1 (by omega))
 have HNN := Aside0.mk hN
 have HOK := Aside0.mk hok
 have HTS := Aside0.mk hts
 clear hw2 hB hx1 hx2 h g7 g8 l7 l8 hK hok hts
 have x0 := blk_cell HX1.out 0
 have y1 := blk_cell HX2.out 1
 have HPV : Aside0 (prepV s r = if 0 < (stateV s r.f1).1 then (6, s) else if (r.f7.any (fun k => heldV s (kb k) false) || r.f8.any (fun w => heldV s (kb w.f0) true)) = true then (180, s) else if 1024 ≤ s.P.length then (2, s) else (0, { s with P := pput s.P r })) := ⟨rfl⟩
 go_enter Tryz.func33, Tryz.ntmps33
 go_wp2_with fail
 rw [← HW.out]
 refine HST.out.mono ?_
 rintro e w3 ⟨rfl, hb3⟩
 have HB3 : Aside0 (Below w.heap.size w w3) := ⟨HB2.out.trans (hb3.mono HB2.out.size)⟩
 have HS3 := Aside0.mk (HS2.out.below hb3)
 have X3 := Aside0.mk (blk_below HX1.out hb3)
 have Y3 := Aside0.mk (blk_below HX2.out hb3)
 have HK3 := Aside0.mk (k26.K_below hb3 HK2.out)
 have C7 := Aside0.mk (Kd.C_below G7.out hb3)
 have C8 := Aside0.mk (Kd.C_below G8.out hb3)
 clear hb3 x0 y1 HST HS2 HX1 HX2 HK2 G7 G8
 have x0 := blk_cell X3.out 0
 have y7 := blk_cell Y3.out 7
 have y8 := blk_cell Y3.out 8
 have HZ := Aside0.mk (fun hz => state_zero (s := s) (t := r.f1) hz)
 by_cases hz : 0 < (stateV s r.f1).1
 ·rw [if_pos hz] at HPV
  have hzd : decide ((stateV s r.f1).1 > 0) = true := decide_eq_true hz
  clear HZ
  generalize (stateV s r.f1).1 = st1 at *
  generalize (stateV s r.f1).2 = st2 at *
  go_wp2_with fail
  go_ret
  exact ⟨by rw [HPV.out]; rfl, by rw [HPV.out]; exact HS3.out.mono (Nat.le_succ _), Chg.of_below HB3.out⟩
 ·rw [if_neg hz] at HPV
  have hzd : decide ((stateV s r.f1).1 > 0) = false := decide_eq_false hz
  have HZ1 := Aside0.mk (HZ.out hz)
  have HC1 := Aside0.mk (contains_strP w3 A7 c7 r.f7 (.pointer (some ⟨w.heap.size, 0, none⟩)) (fun k => heldV s (kb k) false) C7.out (contains_enough fun W hW x => prep1_walk W _ (by rw [blk_cell (blk_below X3.out hW) 0]; rfl) (HS3.out.below hW) x))
  clear HZ hz C7
  generalize (stateV s r.f1).1 = st1 at *
  generalize (stateV s r.f1).2 = st2 at *
  go_wp2_with fail
  refine HC1.out.mono ?_
  rintro e w4 ⟨rfl, hb4⟩
  have HB4 : Aside0 (Below w.heap.size w w4) := ⟨HB3.out.trans (hb4.mono HB3.out.size)⟩
  have HS4 := Aside0.mk (HS3.out.below hb4)
  have X4 := Aside0.mk (blk_below X3.out hb4)
  have Y4 := Aside0.mk (blk_below Y3.out hb4)
  have HK4 := Aside0.mk (k26.K_below hb4 HK3.out)
  have D8 := Aside0.mk (Kd.C_below C8.out hb4)
  clear hb4 x0 y7 y8 HC1 HS3 X3 Y3 HK3 C8
  have x0 := blk_cell X4.out 0
  have y1 := blk_cell Y4.out 1
  have y8 := blk_cell Y4.out 8
  have HC2 := Aside0.mk (contains_wrP w4 A8 c8 r.f8 (.pointer (some ⟨w.heap.size, 0, none⟩)) (fun x => heldV s (kb x.f0) true) D8.out (contains_enough fun W hW x => prep2_walk W _ (by rw [blk_cell (blk_below X4.out hW) 0]; rfl) (HS4.out.below hW) x))
  clear D8
  generalize (r.f7.any fun k => heldV s (kb k) false) = q1 at *
  generalize (r.f8.any fun x => heldV s (kb x.f0) true) = q2 at *
  cases q1 with
  | true =>
   have HPV2 : Aside0 (prepV s r = (180, s)) := ⟨by rw [HPV.out]; rfl⟩
   go_wp2_with fail
   go_ret
   exact ⟨by rw [HPV2.out]; rfl, by rw [HPV2.out]; exact HS4.out.mono (Nat.le_succ _), Chg.of_below HB4.out⟩
  | false =>
   go_wp2_with fail
   refine HC2.out.mono ?_
   rintro e w5 ⟨rfl, hb5⟩
   have HB5 : Aside0 (Below w.heap.size w w5) := ⟨HB4.out.trans (hb5.mono HB4.out.size)⟩
   have HS5 := Aside0.mk (HS4.out.below hb5)
   have X5 := Aside0.mk (blk_below X4.out hb5)
   have Y5 := Aside0.mk (blk_below Y4.out hb5)
   have HK5 := Aside0.mk (k26.K_below hb5 HK4.out)
   clear hb5 x0 y1 y8 HC2 HS4 X4 Y4 HK4
   have x0 := blk_cell X5.out 0
   cases q2 with
   | true =>
    have HPV2 : Aside0 (prepV s r = (180, s)) := ⟨by rw [HPV.out]; rfl⟩
    go_wp2_with fail
    go_ret
    exact ⟨by rw [HPV2.out]; rfl, by rw [HPV2.out]; exact HS5.out.mono (Nat.le_succ _), Chg.of_below HB5.out⟩
   | false =>
    rw [if_neg (by simp)] at HPV
    obtain ⟨bk, bp, ve, fk, fp, hp⟩ := HS5.out
    have HP5 := Aside0.mk hp
    obtain ⟨c0, c1, c2, c3⟩ := hp.cells
    have hfew := hp.good.few
    clear hp
    have hpl : (s.P.map (fun r => ik r.f1)).length = s.P.length := List.length_map ..
    have HPL := Aside0.mk hpl
    clear hpl
    have hcd : decide ((s.P.length : Int) ≥ 1024) = decide (1024 ≤ s.P.length) := by rw [Bool.eq_iff_iff, decide_eq_true_iff, decide_eq_true_iff]; omega
    by_cases hfull : 1024 ≤ s.P.length
    ·rw [if_pos hfull] at HPV
     have hcd2 : decide ((s.P.length : Int) ≥ 1024) = true := by rw [hcd]; exact decide_eq_true hfull
     clear hcd
     go_wp2_with (at_len; refine MapL.len HP5.out.preps keyedI rfl _ 66 26 rfl Tryz.underlying66 rfl (s.P.map (fun r => ik r.f1)) HP5.out.preps_nodup HP5.out.preps_iff ?_; rw [HPL.out])
     go_ret
     exact ⟨by rw [HPV.out]; rfl, by rw [HPV.out]; exact HS5.out.mono (Nat.le_succ _), Chg.of_below HB5.out⟩
    ·rw [if_neg hfull] at HPV
     have hcd2 : decide ((s.P.length : Int) ≥ 1024) = false := by rw [hcd]; exact decide_eq_false hfull
     clear hcd
     have HSO : Aside0 (ShOk { s with P := pput s.P r }) := ⟨by
      have := prepV_ok HP5.out.good HRO.out.1 HRO.out.2
      rw [HPV.out] at this
      exact this⟩
     have y1 := blk_cell Y5.out 1
     have y0 := blk_cell Y5.out 0
     have y2 := blk_cell Y5.out 2
     have y3 := blk_cell Y5.out 3
     have y4 := blk_cell Y5.out 4
     have y5 := blk_cell Y5.out 5
     have y6 := blk_cell Y5.out 6
     have y7 := blk_cell Y5.out 7
     have y8 := blk_cell Y5.out 8
     have HU := HTS.out
     have HCP : Aside0 (∀ W, Below w5.heap.size w5 W → Calls Tryz.prog 31 #[.agg #[.int .i64 r.f0, .int .i64 r.f1, .int .i64 r.f2, .int .i64 r.f3, .string r.f4, .string r.f5, .bool r.f6, .slice A7 r.f7.length c7, .slice A8 r.f8.length c8]] W fun e w' => ∃ cs', e = .returned (.agg cs'.toArray) ∧ k26.M w' W.heap.size (fun _ => True) r cs' ∧ Below W.heap.size W w') := ⟨fun W hW =>
      copied_walk W r [.int .i64 r.f0, .int .i64 r.f1, .int .i64 r.f2, .int .i64 r.f3, .string r.f4, .string r.f5, .bool r.f6, .slice A7 r.f7.length c7, .slice A8 r.f8.length c8] (k26.K_below hW HK5.out) (by have := HLS.out.few7; omega) (by have := HLS.out.few8; omega)⟩
     go_wp2_with (at_len; refine MapL.len HP5.out.preps keyedI rfl _ 66 26 rfl Tryz.underlying66 rfl (s.P.map (fun r => ik r.f1)) HP5.out.preps_nodup HP5.out.preps_iff ?_; rw [HPL.out])
     clear c0 c2 c3 hcd2
     go_region_law (first
      | (go_simp; go_at_call 31; refine (HCP.out _ (by repeat (first | exact Below.refl _ _ | apply below_drew1))).mono ?_; rintro e w6 ⟨cs', rfl, hM, hb6⟩; have HM := Aside0.mk hM; have HB6 := Aside0.mk hb6; have HP6 := Aside0.mk ((HP5.out.below (below_drew1 (Below.refl _ _))).below hb6); obtain ⟨w7, hrun, hm7, hg7⟩ := MapL.put_ HP6.out.preps keyedI Tryz.underlying66 HNN.out (key_ik (t := r.f1) (by have := HTS.out; omega)) (.agg cs'.toArray); have HM7 := Aside0.mk hm7; have HG7 := Aside0.mk hg7; clear hM hm7 hg7 c1 x0 y0 y1 y2 y3 y4 y5 y6 y7 y8; obtain ⟨-, c1, -, -⟩ := HP6.out.cells; have y1 := blk_cell (blk_below (blk_drew Y5.out) hb6) 1; have x0 := blk_cell (blk_below (blk_drew X5.out) hb6) 0; clear hb6))
     all_goals (try go_wp2_with fail)
     all_goals go_ret
     all_goals
      have B6 : Aside0 (Below w.heap.size w w6) := ⟨(below_drew1 HB5.out).trans (HB6.out.mono (below_drew1 HB5.out).size)⟩
      exact ⟨by rw [HPV.out]; rfl, by rw [HPV.out]; exact ⟨bk, bp, ve, fk, _, HP6.out.prep_put HG7.out HM7.out (M_new HM.out (fun g hg => HOK.out g (Nat.le_trans (below_drew1 HB5.out).size hg))) HZ1.out.1 HSO.out⟩, (Chg.of_below B6.out).trans (Chg.of_grown HG7.out HP6.out.okp (fun _ _ _ => HP6.out.preps.not_cells))⟩
end Go.Proofs.YtaldfbmjmpkmmaaGreat.PL
