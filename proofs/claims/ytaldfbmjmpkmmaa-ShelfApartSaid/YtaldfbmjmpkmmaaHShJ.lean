/- A shelf in memory: Read. -/
import Derived.Test.YtaldfbmjmpkmmaaHShI
namespace Go.Proofs.Ytaldfbmjmpkmmaa.PL
open Go.RowKit Go.Proofs.YtaldfbmjmpkmmaaW.PrintWords Go.Proofs.YtaldfbmjmpkmmaaW.PrintLast Go.Proofs.YtaldfbmjmpkmmaaW.PrintMore Go.Shelf Go.Maps Go.WideMaps Go.Proofs.Ytaldfbmjmpkmmaa.Mk
set_option linter.unusedVariables false
set_option linter.unusedSimpArgs false
set_option linter.unusedSectionVars false
set_option maxRecDepth 100000 in
set_option maxHeartbeats 4000000 in
theorem read_walk {w : World} {ok : Nat → Prop} {b N : Nat} {s : Sh} (h : ShAt w ok b N s) (k : ByteArray) (hk : k.size ≤ maxLen) (t : Int) :
    Calls Try.prog 12 #[.pointer (some ⟨b, 0, none⟩), .string k, .int .i64 t] w fun e w' => e = .returned (.tuple #[.int .i64 (readV s (kb k) t).1, .agg #[.int .i64 (readV s (kb k) t).2.f0, .string (readV s (kb k) t).2.f1, .bool (readV s (kb k) t).2.f2]]) ∧ Below w.heap.size w w' := by
  obtain ⟨w1, hw1⟩ : ∃ w1, w1 = w.alloc (.cells #[.int .i64 0, .string ⟨#[]⟩, .bool false] 29) := ⟨_, rfl⟩
  have HW := Aside0.mk hw1
  have hB1 : Below w.heap.size w w1 := by rw [hw1]; exact below_alloc (Below.refl _ w) _
  have hbx : w1.heap[w.heap.size]? = some (.cells #[.int .i64 0, .string ⟨#[]⟩, .bool false] 29 (0, 0)) := by rw [hw1]; exact blk_new _ _
  have H1 := h.below hB1
  clear hw1
  have HHD := Aside0.mk (held_walk H1 k false)
  obtain ⟨bk, bp, ve, fk, fp, hp⟩ := H1
  obtain ⟨c0, c1, c2, c3⟩ := hp.cells
  have HP := Aside0.mk hp
  have HB1 := Aside0.mk hB1
  have BX1 := Aside0.mk hbx
  have HS := Aside0.mk hk
  have hu := Try.underlying29
  have HV : Aside0 (readV s (kb k) t = if t < s.over then (4, zVer) else if heldV s (kb k) false = true then (3, zVer) else if (atV (look s.K (kb k)) t).2 = false then (0, (atV (look s.K (kb k)) t).1) else if (atV (look s.K (kb k)) t).1.f2 = true then (2, (atV (look s.K (kb k)) t).1) else (1, (atV (look s.K (kb k)) t).1)) := ⟨rfl⟩
  have x0 := blk_cell hbx 0
  have x1 := blk_cell hbx 1
  have x2 := blk_cell hbx 2
  have g0 := blk_frozen hbx 0
  have g1 := blk_frozen hbx 1
  have g2 := blk_frozen hbx 2
  clear hp hB1 hbx hk h
  have c3w := c3
  rw [HW.out] at c3w
  by_cases ho : t < s.over
  · rw [if_pos ho] at HV
    have BXW := BX1
    have HBW := HB1
    rw [HW.out] at x0 x1 x2 g0 g1 g2 BXW HBW
    have d1 : decide (t < s.over) = true := decide_eq_true ho
    clear c0 c1 c2 c3
    go_enter Try.func12, Try.ntmps12
    go_wp2_with fail
    go_region
    all_goals (try go_wp2_with fail)
    (try simp only [Exit.inBlock, Exit.then])
    refine bodyPost_ret (results_list (rs := [.tmp 6, .cell 7 29]) rfl (by simp) (Vals.tmp (Vals.cell w.heap.size 29 _ (0, 0) _ rfl (blk_drew BXW.out) Try.underlying29 rfl (by kernel_rfl) Vals.nil))) rfl ?_
    exact ⟨by rw [HV.out]; rfl, below_drew1 HBW.out⟩
  · rw [if_neg ho] at HV
    have d1 : decide (t < s.over) = false := decide_eq_false ho
    go_enter Try.func12, Try.ntmps12
    go_wp2_with fail
    rw [← HW.out]
    refine HHD.out.mono ?_
    rintro e w2 ⟨rfl, hb2⟩
    have HB2 : Aside0 (Below w.heap.size w w2) := ⟨HB1.out.trans (hb2.mono HB1.out.size)⟩
    have HP2 := Aside0.mk (HP.out.below hb2)
    have BX2 := Aside0.mk (blk_below BX1.out hb2)
    clear hb2 x0 x1 x2 g0 g1 g2 c0 c1 c2 c3 c3w HP BX1 HB1 HHD
    obtain ⟨c0, c1, c2, c3⟩ := HP2.out.cells
    have x0 := blk_cell BX2.out 0
    have x1 := blk_cell BX2.out 1
    have x2 := blk_cell BX2.out 2
    have g0 := blk_frozen BX2.out 0
    have g1 := blk_frozen BX2.out 1
    have g2 := blk_frozen BX2.out 2
    cases hh : heldV s (kb k) false with
    | true =>
      rw [hh, if_pos rfl] at HV
      clear hh
      go_wp2_with fail
      go_region
      all_goals (try go_wp2_with fail)
      (try simp only [Exit.inBlock, Exit.then])
      refine bodyPost_ret (results_list (rs := [.tmp 6, .cell 7 29]) rfl (by simp) (Vals.tmp (Vals.cell w.heap.size 29 _ (0, 0) _ rfl (blk_drew (blk_put (blk_put (blk_put BX2.out 0 _ rfl) 1 _ rfl) 2 _ rfl)) Try.underlying29 rfl (by kernel_rfl) Vals.nil))) rfl ?_
      exact ⟨by rw [HV.out]; rfl, below_drew1 (Below.setCell (Below.setCell (Below.setCell HB2.out (Nat.le_refl _) _) (Nat.le_refl _) _) (Nat.le_refl _) _)⟩
    | false =>
      rw [hh, if_neg (by simp)] at HV
      clear hh
      obtain ⟨A, c, hv, hl, hC⟩ := HP2.out.chain (kb k)
      have HAT := Aside0.mk (at_walk w2 A c (look s.K (kb k)) t hC hl (HP2.out.good.keys.look _))
      have HVL := Aside0.mk hv
      clear hv hl hC
      generalize atV (look s.K (kb k)) t = r at *
      generalize (look s.K (kb k)) = l at *
      go_wp2_with (at_lookup; refine MapL.at_ HP2.out.keys keyedS rfl _ _ 74 81 rfl Try.underlying74 (zeroC _) rfl rfl (key_sk HS.out) ?_; rw [HVL.out])
      refine HAT.out.mono ?_
      rintro e w3 ⟨rfl, hb3⟩
      have HB3 : Aside0 (Below w.heap.size w w3) := ⟨HB2.out.trans (hb3.mono HB2.out.size)⟩
      have BX3 := Aside0.mk (blk_below BX2.out hb3)
      clear hb3 x0 x1 x2 g0 g1 g2 c0 c1 c2 c3 HP2 BX2 HB2 HAT HVL
      have x0 := blk_cell BX3.out 0
      have x1 := blk_cell BX3.out 1
      have x2 := blk_cell BX3.out 2
      have g0 := blk_frozen BX3.out 0
      have g1 := blk_frozen BX3.out 1
      have g2 := blk_frozen BX3.out 2
      obtain ⟨⟨a0, a1, a2⟩, q⟩ := r
      simp only at HV ⊢
      cases q with
      | false =>
        rw [if_pos rfl] at HV
        go_wp2_with fail
        go_region
        all_goals (try go_wp2_with fail)
        (try simp only [Exit.inBlock, Exit.then])
        refine bodyPost_ret (results_list (rs := [.tmp 6, .cell 7 29]) rfl (by simp) (Vals.tmp (Vals.cell w.heap.size 29 _ (0, 0) _ rfl (blk_drew (blk_put (blk_put (blk_put (blk_put (blk_put (blk_put BX3.out 0 _ rfl) 1 _ rfl) 2 _ rfl) 0 _ rfl) 1 _ rfl) 2 _ rfl)) Try.underlying29 rfl (by kernel_rfl) Vals.nil))) rfl ?_
        exact ⟨by rw [HV.out]; rfl, below_drew1 (Below.setCell (Below.setCell (Below.setCell (Below.setCell (Below.setCell (Below.setCell HB3.out (Nat.le_refl _) _) (Nat.le_refl _) _) (Nat.le_refl _) _) (Nat.le_refl _) _) (Nat.le_refl _) _) (Nat.le_refl _) _)⟩
      | true =>
        rw [if_neg (by simp)] at HV
        cases a2 with
        | true =>
          rw [if_pos rfl] at HV
          go_wp2_with fail
          go_region
          all_goals (try go_wp2_with fail)
          (try simp only [Exit.inBlock, Exit.then])
          refine bodyPost_ret (results_list (rs := [.tmp 6, .cell 7 29]) rfl (by simp) (Vals.tmp (Vals.cell w.heap.size 29 _ (0, 0) _ rfl (blk_drew (blk_put (blk_put (blk_put (blk_put (blk_put (blk_put BX3.out 0 _ rfl) 1 _ rfl) 2 _ rfl) 0 _ rfl) 1 _ rfl) 2 _ rfl)) Try.underlying29 rfl (by kernel_rfl) Vals.nil))) rfl ?_
          exact ⟨by rw [HV.out]; rfl, below_drew1 (Below.setCell (Below.setCell (Below.setCell (Below.setCell (Below.setCell (Below.setCell HB3.out (Nat.le_refl _) _) (Nat.le_refl _) _) (Nat.le_refl _) _) (Nat.le_refl _) _) (Nat.le_refl _) _) (Nat.le_refl _) _)⟩
        | false =>
          rw [if_neg (by simp)] at HV
          go_wp2_with fail
          go_region
          all_goals (try go_wp2_with fail)
          (try simp only [Exit.inBlock, Exit.then])
          refine bodyPost_ret (results_list (rs := [.tmp 6, .cell 7 29]) rfl (by simp) (Vals.tmp (Vals.cell w.heap.size 29 _ (0, 0) _ rfl (blk_drew (blk_put (blk_put (blk_put (blk_put (blk_put (blk_put BX3.out 0 _ rfl) 1 _ rfl) 2 _ rfl) 0 _ rfl) 1 _ rfl) 2 _ rfl)) Try.underlying29 rfl (by kernel_rfl) Vals.nil))) rfl ?_
          exact ⟨by rw [HV.out]; rfl, below_drew1 (Below.setCell (Below.setCell (Below.setCell (Below.setCell (Below.setCell (Below.setCell HB3.out (Nat.le_refl _) _) (Nat.le_refl _) _) (Nat.le_refl _) _) (Nat.le_refl _) _) (Nat.le_refl _) _) (Nat.le_refl _) _)⟩
end Go.Proofs.Ytaldfbmjmpkmmaa.PL
