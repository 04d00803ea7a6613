/- Texts of this proof, one behind the other (merged by a program of this session). -/
import Derived.Test.YtaldfbmjmpkmmaaGreatM25eeeb
namespace Go.Proofs.YtaldfbmjmpkmmaaGreat.PL
open Go.RowKit Go.Proofs.YtaldfbmjmpkmmaaGreatW.PrintWords Go.Proofs.YtaldfbmjmpkmmaaGreatW.PrintLast Go.Proofs.YtaldfbmjmpkmmaaGreatW.PrintMore Go.Shelf Go.Maps Go.WideMaps Go.Proofs.YtaldfbmjmpkmmaaGreat.Mk
set_option linter.unusedVariables false
set_option linter.unusedSimpArgs false
set_option linter.unusedSectionVars false
set_option maxRecDepth 100000 in
theorem state1_walk (W : World) (bx : Nat) (t : Int) (hx : W.cell? ⟨bx, 0, none⟩ = some (.int .i64 t)) (x : Int × Int) :
 Calls Tryz.prog 64 (#[.agg #[.int .i64 x.1, .int .i64 x.2]] ++ #[.pointer (some ⟨bx, 0, none⟩)]) W fun e W' => e = .returned (.bool (decide (x.1 = t))) ∧ Below W.heap.size W W' := by
 have hlt := World.block_lt_of_cell? W _ hx
 have hne : bx ≠ W.heap.size := by simp only at hlt; omega
 show Calls Tryz.prog 64 #[.agg #[.int .i64 x.1, .int .i64 x.2], .pointer (some ⟨bx, 0, none⟩)] W _
 obtain ⟨a, d⟩ := x
 simp only
 have hx2 : (W.alloc (.cells #[.int .i64 a, .int .i64 d] 76)).cell? ⟨bx, 0, none⟩ = some (.int .i64 t) := pw_cell_below (below_alloc (Below.refl _ W) _) hx
 have HV : Aside0 ((a == t) = decide (a = t)) := ⟨rfl⟩
 go_enter Tryz.func64, Tryz.ntmps64
 go_wp2
 go_ret
 exact ⟨by rw [← HV.out]; rfl, below_alloc (Below.refl _ W) _⟩
theorem firstG_find {α : Type} (p : α → Bool) : ∀ (l : List α) (i : Int), (firstG p l i = -1 ∧ l.find? p = none) ∨ ∃ k e, k < l.length ∧ l[k]? = some e ∧ firstG p l i = i + (k : Int) ∧ l.find? p = some e
 | [], i => .inl ⟨rfl, rfl⟩
 | x :: r, i => by
  unfold firstG
  rw [List.find?_cons]
  cases hx : p x with
  | true => exact .inr ⟨0, x, by simp, rfl, by simp, rfl⟩
  | false =>
   rcases firstG_find p r (i + 1) with ⟨h1, h2⟩ | ⟨k, e, hk, he, h1, h2⟩
   ·exact .inl ⟨by simpa using h1, by simpa using h2⟩
   ·refine .inr ⟨k + 1, e, by simpa using hk, by simpa using he, ?_, by simpa using h2⟩
    simp only [Bool.false_eq_true, if_false]
    rw [h1]
    omega
/-- A prepared record, as a look-up gives it. -/
theorem Parts.prep_val {w : World} {ok : Nat → Prop} {b N : Nat} {s : Sh} {bk bp : Nat} {ve : Value} {fk fp : Lit → Option Value} (h : Parts w ok b N s bk bp ve fk fp) (t : Int) : ∃ a0 a1 a2 a3 a4 a5 a6 A7 n7 c7 A8 n8 c8,
 (fp (ik t)).getD (.agg #[.int .i64 0, .int .i64 0, .int .i64 0, .int .i64 0, .string ⟨#[]⟩, .string ⟨#[]⟩, .bool false, .slice none 0 0, .slice none 0 0]) = .agg #[.int .i64 a0, .int .i64 a1, .int .i64 a2, .int .i64 a3, .string a4, .string a5, .bool a6, .slice A7 n7 c7, .slice A8 n8 c8] := by
 cases hf : fp (ik t) with
 | none => exact ⟨0, 0, 0, 0, ⟨#[]⟩, ⟨#[]⟩, false, none, 0, 0, none, 0, 0, rfl⟩
 | some v =>
  obtain ⟨r, _, _, cs, rfl, hM⟩ := h.pf _ v hf
  obtain ⟨A7, c7, A8, c8, rfl, _⟩ := k26_open (k26.K_of_M hM)
  exact ⟨_, _, _, _, _, _, _, _, _, _, _, _, _, rfl⟩
set_option maxRecDepth 100000 in
set_option maxHeartbeats 4000000 in
theorem state_walk {w : World} {ok : Nat → Prop} {b N : Nat} {s : Sh} (h : ShAt w ok b N s) (t : Int) (ht : -9223372036854775808 ≤ t ∧ t ≤ 9223372036854775807) :
 Calls Tryz.prog 28 #[.pointer (some ⟨b, 0, none⟩), .int .i64 t] w fun e w' => e = .returned (.tuple #[.int .i64 (stateV s t).1, .int .i64 (stateV s t).2]) ∧ Below w.heap.size w w' := by
 obtain ⟨bk, bp, ve, fk, fp, hp⟩ := h
 have hb0 := below_alloc (Below.refl _ w) (.cells #[.int .i64 t] 3)
 have hbx := blk_new w (.cells #[.int .i64 t] 3)
 have HP := Aside0.mk (hp.below hb0)
 have HS := Aside0.mk (hp.prep_some t)
 have HT := Aside0.mk ht
 obtain ⟨a0, a1, a2, a3, a4, a5, a6, A7, n7, c7, A8, n8, c8, hval⟩ := hp.prep_val t
 have HV := Aside0.mk hval
 clear hval hp
 obtain ⟨c0, c1, c2, c3⟩ := HP.out.cells
 obtain ⟨w1, hw1⟩ : ∃ w1, w1 = w.alloc (.cells #[.int .i64 t] 3) := ⟨_, rfl⟩
 have HW := Aside0.mk hw1
 rw [← hw1] at c0 c1 c2 c3 HP hb0 hbx
 have HB0 := Aside0.mk hb0
 have HBX := Aside0.mk hbx
 clear hw1 hb0 hbx
 go_enter Tryz.func28, Tryz.ntmps28
 go_wp2_with fail
 rw [← HW.out]
 have x0 := blk_cell HBX.out 0
 go_cut [7] (fun v7 wc => v7 = .bool (s.P.any fun r => decide (r.f1 = t)) ∧ Aside0 (Below w1.heap.size w1 wc))
 case first =>
  have hlk : Sem.run Tryz.prog (Instr.lookup 66 (.map (some bp)) (.int .i64 t) true) ((w1.alloc (.cells #[.int .i64 0, .int .i64 0, .int .i64 0, .int .i64 0, .string ⟨#[]⟩, .string ⟨#[]⟩, .bool false, .slice none 0 0, .slice none 0 0] 26)).drew) = .ok (.tuple #[.agg #[.int .i64 a0, .int .i64 a1, .int .i64 a2, .int .i64 a3, .string a4, .string a5, .bool a6, .slice A7 n7 c7, .slice A8 n8 c8], .bool (s.P.any fun r => decide (r.f1 = t))]) ((w1.alloc (.cells #[.int .i64 0, .int .i64 0, .int .i64 0, .int .i64 0, .string ⟨#[]⟩, .string ⟨#[]⟩, .bool false, .slice none 0 0, .slice none 0 0] 26)).drew) := by
   have := (MapL.get_ (MapL.below HP.out.preps (below_drew1 (below_alloc (Below.refl _ _) _))) keyedI Tryz.underlying66 (zeroR ((w1.alloc (.cells #[.int .i64 0, .int .i64 0, .int .i64 0, .int .i64 0, .string ⟨#[]⟩, .string ⟨#[]⟩, .bool false, .slice none 0 0, .slice none 0 0] 26)).drew)) (key_ik HT.out)).2
   rw [HV.out, HS.out] at this
   exact this
  have hB2 := below_drew1 (below_alloc (Below.refl _ w1) (.cells #[.int .i64 0, .int .i64 0, .int .i64 0, .int .i64 0, .string ⟨#[]⟩, .string ⟨#[]⟩, .bool false, .slice none 0 0, .slice none 0 0] 26))
  have c1' := pw_cell_below hB2 c1
  have x0' := pw_cell_below hB2 x0
  have HB2 := Aside0.mk hB2
  clear hB2
  have hlk0 : Sem.run Tryz.prog (Instr.lookup 66 (.map (some bp)) (.int .i64 t) true) w1.drew = .ok (.tuple #[.agg #[.int .i64 a0, .int .i64 a1, .int .i64 a2, .int .i64 a3, .string a4, .string a5, .bool a6, .slice A7 n7 c7, .slice A8 n8 c8], .bool (s.P.any fun r => decide (r.f1 = t))]) w1.drew := by
   have := (MapL.get_ (MapL.below HP.out.preps (below_drew1 (Below.refl _ _))) keyedI Tryz.underlying66 (zeroR _) (key_ik HT.out)).2
   rw [HV.out, HS.out] at this
   exact this
  generalize (s.P.any fun r => decide (r.f1 = t)) = q at *
  go_region
  all_goals (try go_wp2_with fail)
  all_goals go_meet
  all_goals (case rel => exact ⟨rfl, ⟨below_drew1 (below_alloc (Below.refl _ _) _)⟩⟩)
 case rest =>
  obtain ⟨rfl, HB⟩ := hcut
  have HPC := Aside0.mk (HP.out.below HB.out)
  have HBC : Aside0 (Below w.heap.size w wc) := ⟨HB0.out.trans (HB.out.mono HB0.out.size)⟩
  have BXC := Aside0.mk (blk_below HBX.out HB.out)
  clear x0 c0 c1 c2 c3 HS HV
  obtain ⟨c0, c1, c2, c3⟩ := HPC.out.cells
  have x0 := blk_cell BXC.out 0
  have HSV : Aside0 (stateV s t = if (s.P.any fun r => decide (r.f1 = t)) = true then ((1, 0) : Int × Int) else match s.E.find? (fun e => decide (e.1 = t)) with | none => (0, 0) | some e => if e.2 = 0 then (3, 0) else (2, e.2)) := ⟨rfl⟩
  cases hq : s.P.any fun r => decide (r.f1 = t) with
  | true =>
   rw [hq, if_pos rfl] at HSV
   clear hq
   go_wp2_with fail
   go_ret2
   exact ⟨by rw [HSV.out]; rfl, HBC.out⟩
  | false =>
   rw [hq, if_neg (by simp)] at HSV
   clear hq
   obtain ⟨A, c, hve, hle, hC⟩ := Kd.R_reads HPC.out.ends
   subst hve
   have HC := Aside0.mk hC
   have HIX := Aside0.mk (index_endS wc A c s.E (.pointer (some ⟨w.heap.size, 0, none⟩)) (fun e => decide (e.1 = t)) hC (contains_enough fun W hW x => state1_walk W _ t (by rw [blk_cell (blk_below BXC.out hW) 0]; rfl) x))
   have hmx := HPC.out.good.ends
   clear hC hle
   go_wp2_with fail
   refine HIX.out.mono ?_
   rintro e w2 ⟨rfl, hb2⟩
   have HB2 : Aside0 (Below w.heap.size w w2) := ⟨HBC.out.trans (hb2.mono HBC.out.size)⟩
   have HP2 := Aside0.mk (HPC.out.below hb2)
   have HC2 := Aside0.mk (Kd.C_below HC.out hb2)
   clear c0 c1 c2 c3 x0 HIX hb2
   obtain ⟨c0, c1, c2, c3⟩ := HP2.out.cells
   rcases firstG_find (fun e : Int × Int => decide (e.1 = t)) s.E 0 with ⟨h1, h2⟩ | ⟨k, e, hk, he, h1, h2⟩
   ·rw [h2] at HSV
    rw [h1]
    clear h1 h2
    go_wp2_with fail
    go_ret2
    exact ⟨by rw [HSV.out]; rfl, HB2.out⟩
   ·rw [h2] at HSV
    rw [h1]
    obtain ⟨ad, cs, rfl, hlen, hK, hc0⟩ := Kd.C_get HC2.out ((0, 0) : Int × Int) (k : Int) (by omega) (by omega)
    rw [Int.toNat_natCast] at hK hc0
    have hget : s.E.getD k (0, 0) = e := by rw [List.getD_eq_getElem?_getD, he]; rfl
    rw [hget] at hK
    obtain rfl := kEnd_open hK
    have d1 : w2.cell? ⟨(ad.add (k * 2)).block, (ad.add (k * 2)).off + 1, none⟩ = some (.int .i64 e.2) := by rw [← add_field _ _ 1 (by omega)]; exact hc0 1 _ rfl
    have hzk : (0 : Int) + (k : Int) = (k : Int) := by omega
    rw [hzk]
    clear hget hK hc0 hlen h1 h2 he hzk
    obtain ⟨e1, e2⟩ := e
    simp only at d1 HSV
    by_cases hz : e2 = 0
    ·subst hz
     rw [if_pos rfl] at HSV
     go_wp2_with fail
     go_ret2
     exact ⟨by rw [HSV.out]; rfl, HB2.out⟩
    ·rw [if_neg hz] at HSV
     have hzb : (e2 == 0) = false := by simpa using hz
     go_wp2_with fail
     go_quiet (fail)
     all_goals (try go_wp2)
     go_ret2
     exact ⟨by rw [HSV.out]; rfl, by repeat (first | exact HB2.out | apply below_drew1 | apply pw_below_drewN)⟩
end Go.Proofs.YtaldfbmjmpkmmaaGreat.PL
namespace Go.Proofs.YtaldfbmjmpkmmaaGreat.PL
open Go.RowKit Go.Proofs.YtaldfbmjmpkmmaaGreatW.PrintWords Go.Proofs.YtaldfbmjmpkmmaaGreatW.PrintLast Go.Proofs.YtaldfbmjmpkmmaaGreatW.PrintMore Go.Shelf Go.Maps Go.WideMaps Go.Proofs.YtaldfbmjmpkmmaaGreat.Mk
set_option linter.unusedVariables false
set_option linter.unusedSimpArgs false
set_option linter.unusedSectionVars false
end Go.Proofs.YtaldfbmjmpkmmaaGreat.PL
