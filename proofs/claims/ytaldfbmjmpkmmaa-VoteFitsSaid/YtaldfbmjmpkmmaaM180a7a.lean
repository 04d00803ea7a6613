/- Texts of this proof, one behind the other (merged by a program of this session). -/
import Derived.Test.YtaldfbmjmpkmmaaM9e30b1
namespace Go.Proofs.Ytaldfbmjmpkmmaa.PL
open Go.RowKit Go.Proofs.YtaldfbmjmpkmmaaW.PrintWords Go.Proofs.YtaldfbmjmpkmmaaW.PrintLast Go.Proofs.YtaldfbmjmpkmmaaW.PrintMore Go.Shelf Go.Maps Go.WideMaps Go.Proofs.Ytaldfbmjmpkmmaa.Mk
set_option linter.unusedVariables false
set_option linter.unusedSimpArgs false
set_option linter.unusedSectionVars false
set_option maxRecDepth 100000 in
theorem state1_walk (W : World) (bx : Nat) (t : Int) (hx : W.cell? ⟨bx, 0, none⟩ = some (.int .i64 t)) (x : Int × Int) :
    Calls Try.prog 70 (#[.agg #[.int .i64 x.1, .int .i64 x.2]] ++ #[.pointer (some ⟨bx, 0, none⟩)]) W fun e W' => e = .returned (.bool (decide (x.1 = t))) ∧ Below W.heap.size W W' := by
  have hlt := World.block_lt_of_cell? W _ hx
  have hne : bx ≠ W.heap.size := by simp only at hlt; omega
  show Calls Try.prog 70 #[.agg #[.int .i64 x.1, .int .i64 x.2], .pointer (some ⟨bx, 0, none⟩)] W _
  obtain ⟨a, d⟩ := x
  simp only
  have hx2 : (W.alloc (.cells #[.int .i64 a, .int .i64 d] 96)).cell? ⟨bx, 0, none⟩ = some (.int .i64 t) := pw_cell_below (below_alloc (Below.refl _ W) _) hx
  have HV : Aside0 ((a == t) = decide (a = t)) := ⟨rfl⟩
  go_enter Try.func70, Try.ntmps70
  go_wp2
  go_ret
  exact ⟨by rw [← HV.out]; rfl, below_alloc (Below.refl _ W) _⟩
theorem firstG_find {α : Type} (p : α → Bool) : ∀ (l : List α) (i : Int), (firstG p l i = -1 ∧ l.find? p = none) ∨ ∃ k e, k < l.length ∧ l[k]? = some e ∧ firstG p l i = i + (k : Int) ∧ l.find? p = some e
  | [], i => .inl ⟨rfl, rfl⟩
  | x :: r, i => by
    unfold firstG
    rw [List.find?_cons]
    cases hx : p x with
    | true => exact .inr ⟨0, x, by simp, rfl, by simp, rfl⟩
    | false =>
      rcases firstG_find p r (i + 1) with ⟨h1, h2⟩ | ⟨k, e, hk, he, h1, h2⟩
      · exact .inl ⟨by simpa using h1, by simpa using h2⟩
      · refine .inr ⟨k + 1, e, by simpa using hk, by simpa using he, ?_, by simpa using h2⟩
        simp only [Bool.false_eq_true, if_false]
        rw [h1]
        omega
/-- A prepared record, as a look-up gives it. -/
theorem Parts.prep_val {w : World} {ok : Nat → Prop} {b N : Nat} {s : Sh} {bk bp : Nat} {ve : Value} {fk fp : Lit → Option Value} (h : Parts w ok b N s bk bp ve fk fp) (t : Int) : ∃ a0 a1 a2 a3 a4 a5 a6 A7 n7 c7 A8 n8 c8,
    (fp (ik t)).getD (.agg #[.int .i64 0, .int .i64 0, .int .i64 0, .int .i64 0, .string ⟨#[]⟩, .string ⟨#[]⟩, .bool false, .slice none 0 0, .slice none 0 0]) = .agg #[.int .i64 a0, .int .i64 a1, .int .i64 a2, .int .i64 a3, .string a4, .string a5, .bool a6, .slice A7 n7 c7, .slice A8 n8 c8] := by
  cases hf : fp (ik t) with
  | none => exact ⟨0, 0, 0, 0, ⟨#[]⟩, ⟨#[]⟩, false, none, 0, 0, none, 0, 0, rfl⟩
  | some v =>
    obtain ⟨r, _, _, cs, rfl, hM⟩ := h.pf _ v hf
    obtain ⟨A7, c7, A8, c8, rfl, _⟩ := k35_open (k35.K_of_M hM)
    exact ⟨_, _, _, _, _, _, _, _, _, _, _, _, _, rfl⟩
set_option maxRecDepth 100000 in
set_option maxHeartbeats 4000000 in
theorem state_walk {w : World} {ok : Nat → Prop} {b N : Nat} {s : Sh} (h : ShAt w ok b N s) (t : Int) (ht : -9223372036854775808 ≤ t ∧ t ≤ 9223372036854775807) :
    Calls Try.prog 33 #[.pointer (some ⟨b, 0, none⟩), .int .i64 t] w fun e w' => e = .returned (.tuple #[.int .i64 (stateV s t).1, .int .i64 (stateV s t).2]) ∧ Below w.heap.size w w' := by
  obtain ⟨bk, bp, ve, fk, fp, hp⟩ := h
  have hb0 := below_alloc (Below.refl _ w) (.cells #[.int .i64 t] 3)
  have hbx := blk_new w (.cells #[.int .i64 t] 3)
  have HP := Aside0.mk (hp.below hb0)
  have HS := Aside0.mk (hp.prep_some t)
  have HT := Aside0.mk ht
  obtain ⟨a0, a1, a2, a3, a4, a5, a6, A7, n7, c7, A8, n8, c8, hval⟩ := hp.prep_val t
  have HV := Aside0.mk hval
  clear hval hp
  obtain ⟨c0, c1, c2, c3⟩ := HP.out.cells
  obtain ⟨w1, hw1⟩ : ∃ w1, w1 = w.alloc (.cells #[.int .i64 t] 3) := ⟨_, rfl⟩
  have HW := Aside0.mk hw1
  rw [← hw1] at c0 c1 c2 c3 HP hb0 hbx
  have HB0 := Aside0.mk hb0
  have HBX := Aside0.mk hbx
  clear hw1 hb0 hbx
  go_enter Try.func33, Try.ntmps33
  go_wp2_with fail
  rw [← HW.out]
  have x0 := blk_cell HBX.out 0
  go_cut [7] (fun v7 wc => v7 = .bool (s.P.any fun r => decide (r.f1 = t)) ∧ Aside0 (Below w1.heap.size w1 wc))
  case first =>
    have hlk : Sem.run Try.prog (Instr.lookup 75 (.map (some bp)) (.int .i64 t) true) ((w1.alloc (.cells #[.int .i64 0, .int .i64 0, .int .i64 0, .int .i64 0, .string ⟨#[]⟩, .string ⟨#[]⟩, .bool false, .slice none 0 0, .slice none 0 0] 35)).drew) = .ok (.tuple #[.agg #[.int .i64 a0, .int .i64 a1, .int .i64 a2, .int .i64 a3, .string a4, .string a5, .bool a6, .slice A7 n7 c7, .slice A8 n8 c8], .bool (s.P.any fun r => decide (r.f1 = t))]) ((w1.alloc (.cells #[.int .i64 0, .int .i64 0, .int .i64 0, .int .i64 0, .string ⟨#[]⟩, .string ⟨#[]⟩, .bool false, .slice none 0 0, .slice none 0 0] 35)).drew) := by
      have := (MapL.get_ (MapL.below HP.out.preps (below_drew1 (below_alloc (Below.refl _ _) _))) keyedI Try.underlying75 (zeroR ((w1.alloc (.cells #[.int .i64 0, .int .i64 0, .int .i64 0, .int .i64 0, .string ⟨#[]⟩, .string ⟨#[]⟩, .bool false, .slice none 0 0, .slice none 0 0] 35)).drew)) (key_ik HT.out)).2
      rw [HV.out, HS.out] at this
      exact this
    have hB2 := below_drew1 (below_alloc (Below.refl _ w1) (.cells #[.int .i64 0, .int .i64 0, .int .i64 0, .int .i64 0, .string ⟨#[]⟩, .string ⟨#[]⟩, .bool false, .slice none 0 0, .slice none 0 0] 35))
    have c1' := pw_cell_below hB2 c1
    have x0' := pw_cell_below hB2 x0
    have HB2 := Aside0.mk hB2
    clear hB2
    have hlk0 : Sem.run Try.prog (Instr.lookup 75 (.map (some bp)) (.int .i64 t) true) w1.drew = .ok (.tuple #[.agg #[.int .i64 a0, .int .i64 a1, .int .i64 a2, .int .i64 a3, .string a4, .string a5, .bool a6, .slice A7 n7 c7, .slice A8 n8 c8], .bool (s.P.any fun r => decide (r.f1 = t))]) w1.drew := by
      have := (MapL.get_ (MapL.below HP.out.preps (below_drew1 (Below.refl _ _))) keyedI Try.underlying75 (zeroR _) (key_ik HT.out)).2
      rw [HV.out, HS.out] at this
      exact this
    generalize (s.P.any fun r => decide (r.f1 = t)) = q at *
    go_region
    all_goals (try go_wp2_with fail)
    all_goals go_meet
    all_goals (case rel => exact ⟨rfl, ⟨below_drew1 (below_alloc (Below.refl _ _) _)⟩⟩)
  case rest =>
    obtain ⟨rfl, HB⟩ := hcut
    have HPC := Aside0.mk (HP.out.below HB.out)
    have HBC : Aside0 (Below w.heap.size w wc) := ⟨HB0.out.trans (HB.out.mono HB0.out.size)⟩
    have BXC := Aside0.mk (blk_below HBX.out HB.out)
    clear x0 c0 c1 c2 c3 HS HV
    obtain ⟨c0, c1, c2, c3⟩ := HPC.out.cells
    have x0 := blk_cell BXC.out 0
    have HSV : Aside0 (stateV s t = if (s.P.any fun r => decide (r.f1 = t)) = true then ((1, 0) : Int × Int) else match s.E.find? (fun e => decide (e.1 = t)) with | none => (0, 0) | some e => if e.2 = 0 then (3, 0) else (2, e.2)) := ⟨rfl⟩
    cases hq : s.P.any fun r => decide (r.f1 = t) with
    | true =>
      rw [hq, if_pos rfl] at HSV
      clear hq
      go_wp2_with fail
      go_ret2
      exact ⟨by rw [HSV.out]; rfl, HBC.out⟩
    | false =>
      rw [hq, if_neg (by simp)] at HSV
      clear hq
      obtain ⟨A, c, hve, hle, hC⟩ := Kd.R_reads HPC.out.ends
      subst hve
      have HC := Aside0.mk hC
      have HIX := Aside0.mk (index_endS wc A c s.E (.pointer (some ⟨w.heap.size, 0, none⟩)) (fun e => decide (e.1 = t)) hC (contains_enough fun W hW x => state1_walk W _ t (by rw [blk_cell (blk_below BXC.out hW) 0]; rfl) x))
      have hmx := HPC.out.good.ends
      clear hC hle
      go_wp2_with fail
      refine HIX.out.mono ?_
      rintro e w2 ⟨rfl, hb2⟩
      have HB2 : Aside0 (Below w.heap.size w w2) := ⟨HBC.out.trans (hb2.mono HBC.out.size)⟩
      have HP2 := Aside0.mk (HPC.out.below hb2)
      have HC2 := Aside0.mk (Kd.C_below HC.out hb2)
      clear c0 c1 c2 c3 x0 HIX hb2
      obtain ⟨c0, c1, c2, c3⟩ := HP2.out.cells
      rcases firstG_find (fun e : Int × Int => decide (e.1 = t)) s.E 0 with ⟨h1, h2⟩ | ⟨k, e, hk, he, h1, h2⟩
      · rw [h2] at HSV
        rw [h1]
        clear h1 h2
        go_wp2_with fail
        go_ret2
        exact ⟨by rw [HSV.out]; rfl, HB2.out⟩
      · rw [h2] at HSV
        rw [h1]
        obtain ⟨ad, cs, rfl, hlen, hK, hc0⟩ := Kd.C_get HC2.out ((0, 0) : Int × Int) (k : Int) (by omega) (by omega)
        rw [Int.toNat_natCast] at hK hc0
        have hget : s.E.getD k (0, 0) = e := by rw [List.getD_eq_getElem?_getD, he]; rfl
        rw [hget] at hK
        obtain rfl := kEnd_open hK
        have d1 : w2.cell? ⟨(ad.add (k * 2)).block, (ad.add (k * 2)).off + 1, none⟩ = some (.int .i64 e.2) := by rw [← add_field _ _ 1 (by omega)]; exact hc0 1 _ rfl
        have hzk : (0 : Int) + (k : Int) = (k : Int) := by omega
        rw [hzk]
        clear hget hK hc0 hlen h1 h2 he hzk
        obtain ⟨e1, e2⟩ := e
        simp only at d1 HSV
        by_cases hz : e2 = 0
        · subst hz
          rw [if_pos rfl] at HSV
          go_wp2_with fail
          go_ret2
          exact ⟨by rw [HSV.out]; rfl, HB2.out⟩
        · rw [if_neg hz] at HSV
          have hzb : (e2 == 0) = false := by simpa using hz
          go_wp2_with fail
          go_quiet (fail)
          all_goals (try go_wp2)
          go_ret2
          exact ⟨by rw [HSV.out]; rfl, by repeat (first | exact HB2.out | apply below_drew1 | apply pw_below_drewN)⟩
end Go.Proofs.Ytaldfbmjmpkmmaa.PL
namespace Go.Proofs.Ytaldfbmjmpkmmaa.PL
open Go.RowKit Go.Proofs.YtaldfbmjmpkmmaaW.PrintWords Go.Proofs.YtaldfbmjmpkmmaaW.PrintLast Go.Proofs.YtaldfbmjmpkmmaaW.PrintMore Go.Shelf Go.Maps Go.WideMaps Go.Proofs.Ytaldfbmjmpkmmaa.Mk
set_option linter.unusedVariables false
set_option linter.unusedSimpArgs false
set_option linter.unusedSectionVars false
set_option maxRecDepth 100000 in
set_option maxHeartbeats 4000000 in
theorem read_walk {w : World} {ok : Nat → Prop} {b N : Nat} {s : Sh} (h : ShAt w ok b N s) (k : ByteArray) (hk : k.size ≤ maxLen) (t : Int) :
    Calls Try.prog 12 #[.pointer (some ⟨b, 0, none⟩), .string k, .int .i64 t] w fun e w' => e = .returned (.tuple #[.int .i64 (readV s (kb k) t).1, .agg #[.int .i64 (readV s (kb k) t).2.f0, .string (readV s (kb k) t).2.f1, .bool (readV s (kb k) t).2.f2]]) ∧ Below w.heap.size w w' := by
  obtain ⟨w1, hw1⟩ : ∃ w1, w1 = w.alloc (.cells #[.int .i64 0, .string ⟨#[]⟩, .bool false] 29) := ⟨_, rfl⟩
  have HW := Aside0.mk hw1
  have hB1 : Below w.heap.size w w1 := by rw [hw1]; exact below_alloc (Below.refl _ w) _
  have hbx : w1.heap[w.heap.size]? = some (.cells #[.int .i64 0, .string ⟨#[]⟩, .bool false] 29 (0, 0)) := by rw [hw1]; exact blk_new _ _
  have H1 := h.below hB1
  clear hw1
  have HHD := Aside0.mk (held_walk H1 k false)
  obtain ⟨bk, bp, ve, fk, fp, hp⟩ := H1
  obtain ⟨c0, c1, c2, c3⟩ := hp.cells
  have HP := Aside0.mk hp
  have HB1 := Aside0.mk hB1
  have BX1 := Aside0.mk hbx
  have HS := Aside0.mk hk
  have hu := Try.underlying29
  have HV : Aside0 (readV s (kb k) t = if t < s.over then (4, zVer) else if heldV s (kb k) false = true then (3, zVer) else if (atV (look s.K (kb k)) t).2 = false then (0, (atV (look s.K (kb k)) t).1) else if (atV (look s.K (kb k)) t).1.f2 = true then (2, (atV (look s.K (kb k)) t).1) else (1, (atV (look s.K (kb k)) t).1)) := ⟨rfl⟩
  have x0 := blk_cell hbx 0
  have x1 := blk_cell hbx 1
  have x2 := blk_cell hbx 2
  have g0 := blk_frozen hbx 0
  have g1 := blk_frozen hbx 1
  have g2 := blk_frozen hbx 2
  clear hp hB1 hbx hk h
  have c3w := c3
  rw [HW.out] at c3w
  by_cases ho : t < s.over
  · rw [if_pos ho] at HV
    have BXW := BX1
    have HBW := HB1
    rw [HW.out] at x0 x1 x2 g0 g1 g2 BXW HBW
    have d1 : decide (t < s.over) = true := decide_eq_true ho
    clear c0 c1 c2 c3
    go_enter Try.func12, Try.ntmps12
    go_wp2_with fail
    go_region
    all_goals (try go_wp2_with fail)
    (try simp only [Exit.inBlock, Exit.then])
    refine bodyPost_ret (results_list (rs := [.tmp 6, .cell 7 29]) rfl (by simp) (Vals.tmp (Vals.cell w.heap.size 29 _ (0, 0) _ rfl (blk_drew BXW.out) Try.underlying29 rfl (by kernel_rfl) Vals.nil))) rfl ?_
    exact ⟨by rw [HV.out]; rfl, below_drew1 HBW.out⟩
  · rw [if_neg ho] at HV
    have d1 : decide (t < s.over) = false := decide_eq_false ho
    go_enter Try.func12, Try.ntmps12
    go_wp2_with fail
    rw [← HW.out]
    refine HHD.out.mono ?_
    rintro e w2 ⟨rfl, hb2⟩
    have HB2 : Aside0 (Below w.heap.size w w2) := ⟨HB1.out.trans (hb2.mono HB1.out.size)⟩
    have HP2 := Aside0.mk (HP.out.below hb2)
    have BX2 := Aside0.mk (blk_below BX1.out hb2)
    clear hb2 x0 x1 x2 g0 g1 g2 c0 c1 c2 c3 c3w HP BX1 HB1 HHD
    obtain ⟨c0, c1, c2, c3⟩ := HP2.out.cells
    have x0 := blk_cell BX2.out 0
    have x1 := blk_cell BX2.out 1
    have x2 := blk_cell BX2.out 2
    have g0 := blk_frozen BX2.out 0
    have g1 := blk_frozen BX2.out 1
    have g2 := blk_frozen BX2.out 2
    cases hh : heldV s (kb k) false with
    | true =>
      rw [hh, if_pos rfl] at HV
      clear hh
      go_wp2_with fail
      go_region
      all_goals (try go_wp2_with fail)
      (try simp only [Exit.inBlock, Exit.then])
      refine bodyPost_ret (results_list (rs := [.tmp 6, .cell 7 29]) rfl (by simp) (Vals.tmp (Vals.cell w.heap.size 29 _ (0, 0) _ rfl (blk_drew (blk_put (blk_put (blk_put BX2.out 0 _ rfl) 1 _ rfl) 2 _ rfl)) Try.underlying29 rfl (by kernel_rfl) Vals.nil))) rfl ?_
      exact ⟨by rw [HV.out]; rfl, below_drew1 (Below.setCell (Below.setCell (Below.setCell HB2.out (Nat.le_refl _) _) (Nat.le_refl _) _) (Nat.le_refl _) _)⟩
    | false =>
      rw [hh, if_neg (by simp)] at HV
      clear hh
      obtain ⟨A, c, hv, hl, hC⟩ := HP2.out.chain (kb k)
      have HAT := Aside0.mk (at_walk w2 A c (look s.K (kb k)) t hC hl (HP2.out.good.keys.look _))
      have HVL := Aside0.mk hv
      clear hv hl hC
      generalize atV (look s.K (kb k)) t = r at *
      generalize (look s.K (kb k)) = l at *
      go_wp2_with (at_lookup; refine MapL.at_ HP2.out.keys keyedS rfl _ _ 74 81 rfl Try.underlying74 (zeroC _) rfl rfl (key_sk HS.out) ?_; rw [HVL.out])
      refine HAT.out.mono ?_
      rintro e w3 ⟨rfl, hb3⟩
      have HB3 : Aside0 (Below w.heap.size w w3) := ⟨HB2.out.trans (hb3.mono HB2.out.size)⟩
      have BX3 := Aside0.mk (blk_below BX2.out hb3)
      clear hb3 x0 x1 x2 g0 g1 g2 c0 c1 c2 c3 HP2 BX2 HB2 HAT HVL
      have x0 := blk_cell BX3.out 0
      have x1 := blk_cell BX3.out 1
      have x2 := blk_cell BX3.out 2
      have g0 := blk_frozen BX3.out 0
      have g1 := blk_frozen BX3.out 1
      have g2 := blk_frozen BX3.out 2
      obtain ⟨⟨a0, a1, a2⟩, q⟩ := r
      simp only at HV ⊢
      cases q with
      | false =>
        rw [if_pos rfl] at HV
        go_wp2_with fail
        go_region
        all_goals (try go_wp2_with fail)
        (try simp only [Exit.inBlock, Exit.then])
        refine bodyPost_ret (results_list (rs := [.tmp 6, .cell 7 29]) rfl (by simp) (Vals.tmp (Vals.cell w.heap.size 29 _ (0, 0) _ rfl (blk_drew (blk_put (blk_put (blk_put (blk_put (blk_put (blk_put BX3.out 0 _ rfl) 1 _ rfl) 2 _ rfl) 0 _ rfl) 1 _ rfl) 2 _ rfl)) Try.underlying29 rfl (by kernel_rfl) Vals.nil))) rfl ?_
        exact ⟨by rw [HV.out]; rfl, below_drew1 (Below.setCell (Below.setCell (Below.setCell (Below.setCell (Below.setCell (Below.setCell HB3.out (Nat.le_refl _) _) (Nat.le_refl _) _) (Nat.le_refl _) _) (Nat.le_refl _) _) (Nat.le_refl _) _) (Nat.le_refl _) _)⟩
      | true =>
        rw [if_neg (by simp)] at HV
        cases a2 with
        | true =>
          rw [if_pos rfl] at HV
          go_wp2_with fail
          go_region
          all_goals (try go_wp2_with fail)
          (try simp only [Exit.inBlock, Exit.then])
          refine bodyPost_ret (results_list (rs := [.tmp 6, .cell 7 29]) rfl (by simp) (Vals.tmp (Vals.cell w.heap.size 29 _ (0, 0) _ rfl (blk_drew (blk_put (blk_put (blk_put (blk_put (blk_put (blk_put BX3.out 0 _ rfl) 1 _ rfl) 2 _ rfl) 0 _ rfl) 1 _ rfl) 2 _ rfl)) Try.underlying29 rfl (by kernel_rfl) Vals.nil))) rfl ?_
          exact ⟨by rw [HV.out]; rfl, below_drew1 (Below.setCell (Below.setCell (Below.setCell (Below.setCell (Below.setCell (Below.setCell HB3.out (Nat.le_refl _) _) (Nat.le_refl _) _) (Nat.le_refl _) _) (Nat.le_refl _) _) (Nat.le_refl _) _) (Nat.le_refl _) _)⟩
        | false =>
          rw [if_neg (by simp)] at HV
          go_wp2_with fail
          go_region
          all_goals (try go_wp2_with fail)
          (try simp only [Exit.inBlock, Exit.then])
          refine bodyPost_ret (results_list (rs := [.tmp 6, .cell 7 29]) rfl (by simp) (Vals.tmp (Vals.cell w.heap.size 29 _ (0, 0) _ rfl (blk_drew (blk_put (blk_put (blk_put (blk_put (blk_put (blk_put BX3.out 0 _ rfl) 1 _ rfl) 2 _ rfl) 0 _ rfl) 1 _ rfl) 2 _ rfl)) Try.underlying29 rfl (by kernel_rfl) Vals.nil))) rfl ?_
          exact ⟨by rw [HV.out]; rfl, below_drew1 (Below.setCell (Below.setCell (Below.setCell (Below.setCell (Below.setCell (Below.setCell HB3.out (Nat.le_refl _) _) (Nat.le_refl _) _) (Nat.le_refl _) _) (Nat.le_refl _) _) (Nat.le_refl _) _) (Nat.le_refl _) _)⟩
end Go.Proofs.Ytaldfbmjmpkmmaa.PL
namespace Go.Proofs.Ytaldfbmjmpkmmaa.PL
open Go.RowKit Go.Proofs.YtaldfbmjmpkmmaaW.PrintWords Go.Proofs.YtaldfbmjmpkmmaaW.PrintLast Go.Proofs.YtaldfbmjmpkmmaaW.PrintMore Go.Shelf Go.Maps Go.WideMaps Go.Proofs.Ytaldfbmjmpkmmaa.Mk
set_option linter.unusedVariables false
set_option linter.unusedSimpArgs false
set_option linter.unusedSectionVars false
/-- A row of one's own under two stores into a box of records. -/
theorem R_far2 {α : Type} {d : Kd α} {e base : Nat} {ok : Nat → Prop} {w : World} {v : Value} {xs : List α} (ht : ∀ q, q ∈ e :: d.E → q ≠ 35) (h : d.R e w base ok v xs) {g : Nat} {cells : Array Value} (hb : w.heap[g]? = some (.cells cells 35 (0, 0))) (i : Nat) (u : Value) (j : Nat) (x : Value) :
    d.R e ((w.setCell ⟨g, i, none⟩ u).setCell ⟨g, j, none⟩ x) base ok v xs :=
  Kd.R_mono (Kd.R_step (Kd.R_types h hb ht) (fun k hk _ => (Below.heap_setCell _ ⟨g, j, none⟩ x k hk.2).trans (Below.heap_setCell _ ⟨g, i, none⟩ u k hk.2))) (fun _ hk => hk.1)
theorem R_box {α : Type} {d : Kd α} {e base : Nat} {ok : Nat → Prop} {w w1 : World} {v : Value} {xs : List α} (ht : ∀ q, q ∈ e :: d.E → q ≠ 35) (h : d.R e w base ok v xs) {g : Nat} {cells : Array Value} (hb : w.heap[g]? = some (.cells cells 35 (0, 0))) (hm : ∀ k, k ≠ g → w1.heap[k]? = w.heap[k]?) : d.R e w1 base ok v xs :=
  Kd.R_mono (Kd.R_step (Kd.R_types h hb ht) (fun k hk _ => hm k hk.2)) (fun _ hk => hk.1)
set_option maxRecDepth 100000 in
set_option maxHeartbeats 4000000 in
theorem copied_walk (w : World) (r : Rec) (cs : List Value) (hK : k35.K w r cs) (h7 : r.f7.length ≤ 8192) (h8 : r.f8.length ≤ 8192) :
    Calls Try.prog 54 #[.agg cs.toArray] w fun e w' => ∃ cs', e = .returned (.agg cs'.toArray) ∧ k35.M w' w.heap.size (fun _ => True) r cs' ∧ Below w.heap.size w w' := by
  obtain ⟨A7, c7, A8, c8, rfl, l7, g7, l8, g8⟩ := k35_open hK
  obtain ⟨r0, r1, r2, r3, r4, r5, r6, r7, r8⟩ := r
  simp only at *
  obtain ⟨w2, hw2⟩ : ∃ w2, w2 = (w.alloc (.cells #[.int .i64 r0, .int .i64 r1, .int .i64 r2, .int .i64 r3, .string r4, .string r5, .bool r6, .slice A7 r7.length c7, .slice A8 r8.length c8] 35)).alloc (.cells #[.int .i64 0, .int .i64 0, .int .i64 0, .int .i64 0, .string ⟨#[]⟩, .string ⟨#[]⟩, .bool false, .slice none 0 0, .slice none 0 0] 35) := ⟨_, rfl⟩
  have hB : Below w.heap.size w w2 := by rw [hw2]; exact below_alloc (below_alloc (Below.refl _ w) _) _
  have hx1 : w2.heap[w.heap.size]? = some (.cells #[.int .i64 r0, .int .i64 r1, .int .i64 r2, .int .i64 r3, .string r4, .string r5, .bool r6, .slice A7 r7.length c7, .slice A8 r8.length c8] 35 (0, 0)) := by rw [hw2]; exact blk_alloc (blk_new _ _) _
  have hx2 : w2.heap[w.heap.size + 1]? = some (.cells #[.int .i64 0, .int .i64 0, .int .i64 0, .int .i64 0, .string ⟨#[]⟩, .string ⟨#[]⟩, .bool false, .slice none 0 0, .slice none 0 0] 35 (0, 0)) := by
    rw [hw2]
    have := blk_new (w.alloc (.cells #[.int .i64 r0, .int .i64 r1, .int .i64 r2, .int .i64 r3, .string r4, .string r5, .bool r6, .slice A7 r7.length c7, .slice A8 r8.length c8] 35)) (.cells #[.int .i64 0, .int .i64 0, .int .i64 0, .int .i64 0, .string ⟨#[]⟩, .string ⟨#[]⟩, .bool false, .slice none 0 0, .slice none 0 0] 35)
    simpa using this
  have HW := Aside0.mk hw2
  have HB2 := Aside0.mk hB
  have HX1 := Aside0.mk hx1
  have HX2 := Aside0.mk hx2
  have H7 : Aside0 (∀ W, Below w.heap.size w W → Calls Try.prog 99 #[.slice A7 r7.length c7] W fun e w' => ∃ v, e = .returned v ∧ Kd.R Kd.string 9 w' W.heap.size (fun _ => True) v r7 ∧ Below W.heap.size W w') := ⟨fun W hW => clone_str W A7 c7 r7 (Kd.C_below g7 hW) h7⟩
  have H8 : Aside0 (∀ W, Below w.heap.size w W → Calls Try.prog 100 #[.slice A8 r8.length c8] W fun e w' => ∃ v, e = .returned v ∧ Kd.R k56 56 w' W.heap.size (fun _ => True) v r8 ∧ Below W.heap.size W w') := ⟨fun W hW => clone_wr W A8 c8 r8 (Kd.C_below g8 hW) h8⟩
  clear hw2 hB hx1 hx2 g7 g8 hK l7 l8
  go_enter Try.func54, Try.ntmps54
  go_wp2_with fail
  rw [← HW.out]
  have x7 := blk_cell HX1.out 7
  have x8 := blk_cell HX1.out 8
  have f7 := blk_frozen HX1.out 7
  have f8 := blk_frozen HX1.out 8
  go_region_law (first
    | (go_simp; go_at_call 99; refine (H7.out _ (by repeat (first | exact HB2.out | apply below_drew1))).mono ?_; rintro e w3 ⟨v7, rfl, hv7, hb3⟩; obtain ⟨B7, d7, hs7⟩ := Kd.R_slice hv7; subst hs7; have HV7 := Aside0.mk hv7; have HB3 := Aside0.mk hb3; have X3 := Aside0.mk (blk_below (blk_drew HX1.out) hb3); have Y3 := Aside0.mk (blk_below (blk_drew HX2.out) hb3); clear hv7 hb3 x7 x8 f7 f8; have x7 := blk_cell X3.out 7; have x8 := blk_cell X3.out 8; have f7 := blk_frozen X3.out 7; have f8 := blk_frozen X3.out 8)
    | (go_simp; go_at_call 100; refine (H8.out _ ((below_drew1 HB2.out).trans (HB3.out.mono (below_drew1 HB2.out).size))).mono ?_; rintro e w4 ⟨v8, rfl, hv8, hb4⟩; obtain ⟨B8, d8, hs8⟩ := Kd.R_slice hv8; subst hs8; have HV8 := Aside0.mk hv8; have HB4 := Aside0.mk hb4; have X4 := Aside0.mk (blk_below X3.out hb4); have Y4 := Aside0.mk (blk_below Y3.out hb4); clear hv8 hb4 x7 x8 f7 f8 X3 Y3; have x7 := blk_cell X4.out 7; have x8 := blk_cell X4.out 8; have f7 := blk_frozen X4.out 7; have f8 := blk_frozen X4.out 8))
  all_goals
    have B3 : Aside0 (Below w.heap.size w w3) := ⟨(below_drew1 HB2.out).trans (HB3.out.mono (below_drew1 HB2.out).size)⟩
    have B4 : Aside0 (Below w.heap.size w w4) := ⟨B3.out.trans (HB4.out.mono B3.out.size)⟩
    have BX5 : Aside0 (((w4.setCell ⟨w.heap.size, 7, none⟩ (.slice B7 r7.length d7)).setCell ⟨w.heap.size, 8, none⟩ (.slice B8 r8.length d8)).heap[w.heap.size]? = some (.cells #[.int .i64 r0, .int .i64 r1, .int .i64 r2, .int .i64 r3, .string r4, .string r5, .bool r6, .slice B7 r7.length d7, .slice B8 r8.length d8] 35 (0, 0))) := ⟨blk_put (blk_put X4.out 7 _ rfl) 8 _ rfl⟩
    have BY5 := Aside0.mk (blk_far (blk_far Y4.out (p := ⟨w.heap.size, 7, none⟩) (by simp) (.slice B7 r7.length d7)) (p := ⟨w.heap.size, 8, none⟩) (by simp) (.slice B8 r8.length d8))
    have B5 : Aside0 (Below w.heap.size w ((w4.setCell ⟨w.heap.size, 7, none⟩ (.slice B7 r7.length d7)).setCell ⟨w.heap.size, 8, none⟩ (.slice B8 r8.length d8))) := ⟨(B4.out.setCell (Nat.le_refl _) _).setCell (Nat.le_refl _) _⟩
    have V7 := Aside0.mk (Kd.R_lower (Kd.R_below HV7.out HB4.out) (below_drew1 HB2.out).size)
    have V8 := Aside0.mk (Kd.R_lower HV8.out B3.out.size)
    have W7 := Aside0.mk (R_far2 (by decide) V7.out (g := w.heap.size) X4.out 7 (.slice B7 r7.length d7) 8 (.slice B8 r8.length d8))
    have W8 := Aside0.mk (R_far2 (by decide) V8.out (g := w.heap.size) X4.out 7 (.slice B7 r7.length d7) 8 (.slice B8 r8.length d8))
    generalize (w4.setCell ⟨w.heap.size, 7, none⟩ (.slice B7 r7.length d7)).setCell ⟨w.heap.size, 8, none⟩ (.slice B8 r8.length d8) = w5 at *
    clear x7 x8 f7 f8 V7 V8 B3 B4 X4 Y4 HV7 HV8 HB3 HB4
    have x0 := blk_cell BX5.out 0
    have x1 := blk_cell BX5.out 1
    have x2 := blk_cell BX5.out 2
    have x3 := blk_cell BX5.out 3
    have x4 := blk_cell BX5.out 4
    have x5 := blk_cell BX5.out 5
    have x6 := blk_cell BX5.out 6
    have x7 := blk_cell BX5.out 7
    have x8 := blk_cell BX5.out 8
    have y0 := blk_cell BY5.out 0
    have y1 := blk_cell BY5.out 1
    have y2 := blk_cell BY5.out 2
    have y3 := blk_cell BY5.out 3
    have y4 := blk_cell BY5.out 4
    have y5 := blk_cell BY5.out 5
    have y6 := blk_cell BY5.out 6
    have y7 := blk_cell BY5.out 7
    have y8 := blk_cell BY5.out 8
    have f0 := blk_frozen BY5.out 0
    have f1 := blk_frozen BY5.out 1
    have f2 := blk_frozen BY5.out 2
    have f3 := blk_frozen BY5.out 3
    have f4 := blk_frozen BY5.out 4
    have f5 := blk_frozen BY5.out 5
    have f6 := blk_frozen BY5.out 6
    have f7 := blk_frozen BY5.out 7
    have f8 := blk_frozen BY5.out 8
    go_wp2
    have z0 := blk_put (cs' := #[.int .i64 r0, .int .i64 0, .int .i64 0, .int .i64 0, .string ⟨#[]⟩, .string ⟨#[]⟩, .bool false, .slice none 0 0, .slice none 0 0]) BY5.out 0 (.int .i64 r0) rfl
    have z1 := blk_put (cs' := #[.int .i64 r0, .int .i64 r1, .int .i64 0, .int .i64 0, .string ⟨#[]⟩, .string ⟨#[]⟩, .bool false, .slice none 0 0, .slice none 0 0]) z0 1 (.int .i64 r1) rfl
    have z2 := blk_put (cs' := #[.int .i64 r0, .int .i64 r1, .int .i64 r2, .int .i64 0, .string ⟨#[]⟩, .string ⟨#[]⟩, .bool false, .slice none 0 0, .slice none 0 0]) z1 2 (.int .i64 r2) rfl
    have z3 := blk_put (cs' := #[.int .i64 r0, .int .i64 r1, .int .i64 r2, .int .i64 r3, .string ⟨#[]⟩, .string ⟨#[]⟩, .bool false, .slice none 0 0, .slice none 0 0]) z2 3 (.int .i64 r3) rfl
    have z4 := blk_put (cs' := #[.int .i64 r0, .int .i64 r1, .int .i64 r2, .int .i64 r3, .string r4, .string ⟨#[]⟩, .bool false, .slice none 0 0, .slice none 0 0]) z3 4 (.string r4) rfl
    have z5 := blk_put (cs' := #[.int .i64 r0, .int .i64 r1, .int .i64 r2, .int .i64 r3, .string r4, .string r5, .bool false, .slice none 0 0, .slice none 0 0]) z4 5 (.string r5) rfl
    have z6 := blk_put (cs' := #[.int .i64 r0, .int .i64 r1, .int .i64 r2, .int .i64 r3, .string r4, .string r5, .bool r6, .slice none 0 0, .slice none 0 0]) z5 6 (.bool r6) rfl
    have z7 := blk_put (cs' := #[.int .i64 r0, .int .i64 r1, .int .i64 r2, .int .i64 r3, .string r4, .string r5, .bool r6, .slice B7 r7.length d7, .slice none 0 0]) z6 7 (.slice B7 r7.length d7) rfl
    have z8 := blk_put (cs' := #[.int .i64 r0, .int .i64 r1, .int .i64 r2, .int .i64 r3, .string r4, .string r5, .bool r6, .slice B7 r7.length d7, .slice B8 r8.length d8]) z7 8 (.slice B8 r8.length d8) rfl
    have BZ : Aside0 ((((((((((w5.setCell ⟨w.heap.size + 1, 0, none⟩ (.int .i64 r0)).setCell ⟨w.heap.size + 1, 1, none⟩ (.int .i64 r1)).setCell ⟨w.heap.size + 1, 2, none⟩ (.int .i64 r2)).setCell ⟨w.heap.size + 1, 3, none⟩ (.int .i64 r3)).setCell ⟨w.heap.size + 1, 4, none⟩ (.string r4)).setCell ⟨w.heap.size + 1, 5, none⟩ (.string r5)).setCell ⟨w.heap.size + 1, 6, none⟩ (.bool r6)).setCell ⟨w.heap.size + 1, 7, none⟩ (.slice B7 r7.length d7)).setCell ⟨w.heap.size + 1, 8, none⟩ (.slice B8 r8.length d8)).heap[w.heap.size + 1]? = some (.cells #[.int .i64 r0, .int .i64 r1, .int .i64 r2, .int .i64 r3, .string r4, .string r5, .bool r6, .slice B7 r7.length d7, .slice B8 r8.length d8] 35 (0, 0))) := ⟨z8⟩
    have B6 : Aside0 (Below w.heap.size w (((((((((w5.setCell ⟨w.heap.size + 1, 0, none⟩ (.int .i64 r0)).setCell ⟨w.heap.size + 1, 1, none⟩ (.int .i64 r1)).setCell ⟨w.heap.size + 1, 2, none⟩ (.int .i64 r2)).setCell ⟨w.heap.size + 1, 3, none⟩ (.int .i64 r3)).setCell ⟨w.heap.size + 1, 4, none⟩ (.string r4)).setCell ⟨w.heap.size + 1, 5, none⟩ (.string r5)).setCell ⟨w.heap.size + 1, 6, none⟩ (.bool r6)).setCell ⟨w.heap.size + 1, 7, none⟩ (.slice B7 r7.length d7)).setCell ⟨w.heap.size + 1, 8, none⟩ (.slice B8 r8.length d8))) := ⟨(Below.setCell (Below.setCell (Below.setCell (Below.setCell (Below.setCell (Below.setCell (Below.setCell (Below.setCell (Below.setCell B5.out (Nat.le_succ _) _) (Nat.le_succ _) _) (Nat.le_succ _) _) (Nat.le_succ _) _) (Nat.le_succ _) _) (Nat.le_succ _) _) (Nat.le_succ _) _) (Nat.le_succ _) _) (Nat.le_succ _) _)⟩
    have HM : Aside0 (∀ k, k ≠ w.heap.size + 1 → (((((((((w5.setCell ⟨w.heap.size + 1, 0, none⟩ (.int .i64 r0)).setCell ⟨w.heap.size + 1, 1, none⟩ (.int .i64 r1)).setCell ⟨w.heap.size + 1, 2, none⟩ (.int .i64 r2)).setCell ⟨w.heap.size + 1, 3, none⟩ (.int .i64 r3)).setCell ⟨w.heap.size + 1, 4, none⟩ (.string r4)).setCell ⟨w.heap.size + 1, 5, none⟩ (.string r5)).setCell ⟨w.heap.size + 1, 6, none⟩ (.bool r6)).setCell ⟨w.heap.size + 1, 7, none⟩ (.slice B7 r7.length d7)).setCell ⟨w.heap.size + 1, 8, none⟩ (.slice B8 r8.length d8)).heap[k]? = w5.heap[k]?) := ⟨fun k hk => (Eq.trans (Below.heap_setCell _ _ _ k hk) (Eq.trans (Below.heap_setCell _ _ _ k hk) (Eq.trans (Below.heap_setCell _ _ _ k hk) (Eq.trans (Below.heap_setCell _ _ _ k hk) (Eq.trans (Below.heap_setCell _ _ _ k hk) (Eq.trans (Below.heap_setCell _ _ _ k hk) (Eq.trans (Below.heap_setCell _ _ _ k hk) (Eq.trans (Below.heap_setCell _ _ _ k hk) (Below.heap_setCell _ _ _ k hk)))))))))⟩
    clear z0 z1 z2 z3 z4 z5 z6 z7 z8
    generalize (((((((((w5.setCell ⟨w.heap.size + 1, 0, none⟩ (.int .i64 r0)).setCell ⟨w.heap.size + 1, 1, none⟩ (.int .i64 r1)).setCell ⟨w.heap.size + 1, 2, none⟩ (.int .i64 r2)).setCell ⟨w.heap.size + 1, 3, none⟩ (.int .i64 r3)).setCell ⟨w.heap.size + 1, 4, none⟩ (.string r4)).setCell ⟨w.heap.size + 1, 5, none⟩ (.string r5)).setCell ⟨w.heap.size + 1, 6, none⟩ (.bool r6)).setCell ⟨w.heap.size + 1, 7, none⟩ (.slice B7 r7.length d7)).setCell ⟨w.heap.size + 1, 8, none⟩ (.slice B8 r8.length d8)) = w6 at *
    have Z7 := Aside0.mk (R_box (by decide) W7.out BY5.out HM.out)
    have Z8 := Aside0.mk (R_box (by decide) W8.out BY5.out HM.out)
    refine bodyPost_ret (results_cell_row rfl _ _ (w.heap.size + 1) 35 _ (0, 0) _ rfl BZ.out Try.underlying35 rfl (by kernel_rfl)) rfl ?_
    exact ⟨[.int .i64 r0, .int .i64 r1, .int .i64 r2, .int .i64 r3, .string r4, .string r5, .bool r6, .slice B7 r7.length d7, .slice B8 r8.length d8], rfl, k35_mkM _ _ _ (⟨r0, r1, r2, r3, r4, r5, r6, r7, r8⟩ : Rec) Z7.out Z8.out, B6.out⟩
end Go.Proofs.Ytaldfbmjmpkmmaa.PL
namespace Go.Proofs.Ytaldfbmjmpkmmaa.PL
open Go.RowKit Go.Proofs.YtaldfbmjmpkmmaaW.PrintWords Go.Proofs.YtaldfbmjmpkmmaaW.PrintLast Go.Proofs.YtaldfbmjmpkmmaaW.PrintMore Go.Shelf Go.Maps Go.WideMaps Go.Proofs.Ytaldfbmjmpkmmaa.Mk
set_option linter.unusedVariables false
set_option linter.unusedSimpArgs false
set_option linter.unusedSectionVars false

set_option maxRecDepth 100000 in
theorem new_walk (w : World) : Calls Try.prog 32 #[] w fun e w' => ∃ b, e = .returned (.pointer (some ⟨b, 0, none⟩)) ∧ ShAt w' (fun g => w.heap.size ≤ g) b 0 sh0 ∧ Below w.heap.size w w' := by
  have m1 := MapL.made Try.prog 9 w
  have m2 := MapL.made Try.prog 3 (w.alloc (.map #[] 0))
  have b1 := below_alloc (Below.refl _ (w.alloc (.map #[] 0))) (.map #[] 0)
  have b2 := below_alloc (Below.refl _ ((w.alloc (.map #[] 0)).alloc (.map #[] 0))) (.cells #[.map (some w.heap.size), .map (some (w.heap.size + 1)), .slice none 0 0, .int .i64 0] 78)
  have h1 := (m1.below b1).below b2
  have h2 := m2.below b2
  have hbx := blk_new ((w.alloc (.map #[] 0)).alloc (.map #[] 0)) (.cells #[.map (some w.heap.size), .map (some (w.heap.size + 1)), .slice none 0 0, .int .i64 0] 78)
  have hs : (w.alloc (.map #[] 0)).heap.size = w.heap.size + 1 := by simp
  have hs2 : ((w.alloc (.map #[] 0)).alloc (.map #[] 0)).heap.size = w.heap.size + 2 := by simp
  rw [hs] at h2
  rw [hs2] at hbx
  have H := Aside0.mk (And.intro h1 (And.intro h2 hbx))
  clear m1 m2 b1 b2 h1 h2 hbx hs hs2
  have hmm := @run_makeMap Try.prog
  go_enter Try.func32, Try.ntmps32
  go_wp2
  go_ret
  refine ⟨w.heap.size + 2, rfl, ⟨w.heap.size, w.heap.size + 1, .slice none 0 0, fun _ => none, fun _ => none, ?_⟩, below_alloc (below_alloc (below_alloc (Below.refl _ w) _) _) _⟩
  exact ⟨H.out.2.2, H.out.1, H.out.2.1, Kd.R_nil _ _ _ _ _, (fun q v hq => by cases hq), (fun k hk => by simp [sh0, keysK] at hk), (fun q v hq => by cases hq), (fun r hr => by simp [sh0] at hr), by omega, by omega, by omega, by omega, sh0_ok⟩
end Go.Proofs.Ytaldfbmjmpkmmaa.PL
