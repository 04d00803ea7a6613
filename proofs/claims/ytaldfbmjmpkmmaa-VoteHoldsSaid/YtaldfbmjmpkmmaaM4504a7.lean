/- Texts of this proof, one behind the other (merged by a program of this session). -/
import Derived.Shelf.SlGeneric
import Derived.Sort.KeysCollected
import Derived.Sort.Walk0
import Derived.Shelf.SlIter.Nil
import Derived.Shelf.SlIterI.Nil
import Derived.Shelf.SortM.Plain
import Derived.Shelf.SortM.SortNone
import Derived.Ground.GgzProg
import Derived.Ground.SlgmProg
import Derived.Test.YtaldfbmjmpkmmaaProg
import Derived.Test.YtaldfbmjmpkmmaaMbf983a
namespace Go.Proofs
open Go.Shelf
def Try.keysP_ren : Go.Shelf.Ren := ⟨fun | 7 => 66 | 10 => 107 | n => n, fun | 23 => 75 | 26 => 3 | 3 => 35 | 28 => 119 | 0 => 0 | 27 => 118 | 33 => 110 | 4 => 4 | n => n, fun | n => n⟩

def Try.sortedI_ren : Go.Shelf.Ren := ⟨fun | 6 => 65 | 8 => 105 | 9 => 106 | 11 => 135 | 13 => 137 | 12 => 136 | 23 => 151 | 24 => 152 | 14 => 142 | 15 => 143 | 16 => 144 | 17 => 145 | 18 => 146 | 19 => 147 | 20 => 148 | 21 => 149 | 22 => 150 | 25 => 162 | 26 => 163 | 27 => 164 | 28 => 165 | 29 => 166 | 30 => 167 | 31 => 172 | n => n, fun | 26 => 3 | 28 => 119 | 24 => 59 | 0 => 0 | 3 => 3 | 37 => 179 | 48 => 192 | 50 => 194 | 4 => 4 | 40 => 185 | 39 => 184 | 45 => 168 | 5 => 5 | 9 => 9 | 51 => 201 | 55 => 205 | 57 => 209 | 58 => 72 | 33 => 110 | n => n, fun | n => n⟩

def Try.sortI_ren : Go.Shelf.Ren := ⟨fun | 5 => 106 | 8 => 137 | 7 => 136 | 19 => 151 | 20 => 152 | 10 => 142 | 11 => 143 | 12 => 144 | 13 => 145 | 14 => 146 | 15 => 147 | 16 => 148 | 17 => 149 | 18 => 150 | 30 => 162 | 31 => 163 | 32 => 164 | 33 => 165 | 34 => 166 | 35 => 167 | 40 => 172 | n => n, fun | 23 => 59 | 25 => 3 | 3 => 3 | 32 => 179 | 22 => 59 | 0 => 0 | 44 => 192 | 46 => 194 | 4 => 4 | 36 => 185 | 35 => 184 | 41 => 168 | 5 => 5 | 9 => 9 | 53 => 201 | 57 => 205 | 63 => 209 | 64 => 72 | n => n, fun | n => n⟩
end Go.Proofs
namespace Go.Proofs
open Go.RowKit Go.Maps Go.Sort Go.Shelf


end Go.Proofs
namespace Go.Proofs.Ytaldfbmjmpkmmaa.PL
open Go.RowKit Go.Proofs.YtaldfbmjmpkmmaaW.PrintWords Go.Proofs.YtaldfbmjmpkmmaaW.PrintLast Go.Proofs.YtaldfbmjmpkmmaaW.PrintMore Go.Sort Go.Shelf Go.Maps Go.WideMaps Go.Proofs.Ytaldfbmjmpkmmaa.Mk
set_option linter.unusedVariables false
set_option linter.unusedSimpArgs false
set_option linter.unusedSectionVars false




def openV (s : Sh) : List Int := s.P.map (·.f1)

def prepOf (s : Sh) (t : Int) : Option Rec := s.P.find? (fun r => decide (r.f1 = t))
def zRec : Rec := ⟨0, 0, 0, 0, ⟨#[]⟩, ⟨#[]⟩, false, [], []⟩
theorem prep_find {w : World} {ok : Nat → Prop} {b N : Nat} {s : Sh} {bk bp : Nat} {ve : Value} {fk fp : Lit → Option Value} (h : Parts w ok b N s bk bp ve fk fp) (t : Int) : ∃ A7 c7 A8 c8,
    (fp (ik t)).getD (.agg #[.int .i64 0, .int .i64 0, .int .i64 0, .int .i64 0, .string ⟨#[]⟩, .string ⟨#[]⟩, .bool false, .slice none 0 0, .slice none 0 0]) = .agg #[.int .i64 ((prepOf s t).getD zRec).f0, .int .i64 ((prepOf s t).getD zRec).f1, .int .i64 ((prepOf s t).getD zRec).f2, .int .i64 ((prepOf s t).getD zRec).f3, .string ((prepOf s t).getD zRec).f4, .string ((prepOf s t).getD zRec).f5, .bool ((prepOf s t).getD zRec).f6, .slice A7 ((prepOf s t).getD zRec).f7.length c7, .slice A8 ((prepOf s t).getD zRec).f8.length c8] ∧
    k35.K w ((prepOf s t).getD zRec) [.int .i64 ((prepOf s t).getD zRec).f0, .int .i64 ((prepOf s t).getD zRec).f1, .int .i64 ((prepOf s t).getD zRec).f2, .int .i64 ((prepOf s t).getD zRec).f3, .string ((prepOf s t).getD zRec).f4, .string ((prepOf s t).getD zRec).f5, .bool ((prepOf s t).getD zRec).f6, .slice A7 ((prepOf s t).getD zRec).f7.length c7, .slice A8 ((prepOf s t).getD zRec).f8.length c8] ∧
    (fp (ik t)).isSome = (prepOf s t).isSome ∧ ((prepOf s t).getD zRec).f7.length ≤ 16 ∧ ((prepOf s t).getD zRec).f8.length ≤ 16 := by
  have hsome := h.prep_some t
  cases hf : prepOf s t with
  | none =>
    have h1 : s.P.any (fun r => decide (r.f1 = t)) = false := List.any_eq_false.2 (fun r hr => by simpa using List.find?_eq_none.1 hf r hr)
    rw [h1] at hsome
    cases hg : fp (ik t) with
    | some v => rw [hg] at hsome; cases hsome
    | none => exact ⟨none, 0, none, 0, rfl, k35_mk w zRec (Nat.le_refl _) (Kd.C_nil _ _) (Nat.le_refl _) (Kd.C_nil _ _), rfl, by simp [zRec], by simp [zRec]⟩
  | some r =>
    have hr : r ∈ s.P := List.mem_of_find?_eq_some hf
    have hrt : r.f1 = t := of_decide_eq_true (by simpa using List.find?_some hf)
    obtain ⟨v7, v8, e, h7, h8⟩ := h.prep_rec r hr
    obtain ⟨A7, c7, rfl, l7, g7⟩ := Kd.R_reads h7
    obtain ⟨A8, c8, rfl, l8, g8⟩ := Kd.R_reads h8
    have hl := (prep_lists (h.good.recs r hr).1 (h.good.recs r hr).2).1
    rw [hrt] at e
    refine ⟨A7, c7, A8, c8, by rw [e, ← hrt]; rfl, k35_mk w r l7 g7 l8 g8, by rw [e]; rfl, hl.few7, hl.few8⟩
set_option maxRecDepth 100000 in
set_option maxHeartbeats 4000000 in
theorem prep_walk {w : World} {ok : Nat → Prop} {b N : Nat} {s : Sh} (h : ShAt w ok b N s) (t : Int) (ht : -9223372036854775808 ≤ t ∧ t ≤ 9223372036854775807) :
    Calls Try.prog 24 #[.pointer (some ⟨b, 0, none⟩), .int .i64 t] w fun e w' => ∃ cs, e = .returned (.tuple #[.agg cs.toArray, .bool (prepOf s t).isSome]) ∧ k35.M w' w.heap.size (fun _ => True) ((prepOf s t).getD zRec) cs ∧ Below w.heap.size w w' := by
  obtain ⟨bk, bp, ve, fk, fp, hp⟩ := h
  obtain ⟨A7, c7, A8, c8, hv, hK, hs, l7, l8⟩ := prep_find hp t
  generalize (prepOf s t).isSome = q at *
  generalize (prepOf s t).getD zRec = r at *
  obtain ⟨w1, hw1⟩ : ∃ w1, w1 = w.alloc (.cells #[.int .i64 0, .int .i64 0, .int .i64 0, .int .i64 0, .string ⟨#[]⟩, .string ⟨#[]⟩, .bool false, .slice none 0 0, .slice none 0 0] 35) := ⟨_, rfl⟩
  have hb1 : Below w.heap.size w w1 := by rw [hw1]; exact below_alloc (Below.refl _ _) _
  have hP1 := hp.below hb1
  obtain ⟨c0, c1, c2, c3⟩ := hP1.cells
  rw [hw1] at c1
  obtain ⟨w2, hw2⟩ : ∃ w2, w2 = w.alloc (.cells #[.int .i64 r.f0, .int .i64 r.f1, .int .i64 r.f2, .int .i64 r.f3, .string r.f4, .string r.f5, .bool r.f6, .slice A7 r.f7.length c7, .slice A8 r.f8.length c8] 35) := ⟨_, rfl⟩
  have hb2 : Below w.heap.size w w2 := by rw [hw2]; exact below_alloc (Below.refl _ _) _
  have hx2 : w2.heap[w.heap.size]? = some (.cells #[.int .i64 r.f0, .int .i64 r.f1, .int .i64 r.f2, .int .i64 r.f3, .string r.f4, .string r.f5, .bool r.f6, .slice A7 r.f7.length c7, .slice A8 r.f8.length c8] 35 (0, 0)) := by rw [hw2]; exact blk_new _ _
  have HCP := Aside0.mk (copied_walk w2 r _ (k35.K_below hb2 hK) (by omega) (by omega))
  have HV := Aside0.mk hv
  have HQ := Aside0.mk hs
  have HP1 := Aside0.mk hP1
  have HW1 := Aside0.mk hw1
  have HW2 := Aside0.mk hw2
  have HB2 := Aside0.mk hb2
  have HX2 := Aside0.mk hx2
  have HT := Aside0.mk ht
  have hu := Try.underlying35
  clear hv hs hP1 hw1 hw2 hb1 hb2 hx2 hK hp l7 l8 c0 c2 c3 ht
  go_enter Try.func24, Try.ntmps24
  go_wp2_with (at_lookup; rw [← HW1.out]; refine MapL.look HP1.out.preps keyedI rfl _ _ 75 35 rfl Try.underlying75 (zeroR _) rfl rfl (key_ik HT.out) ?_; rw [HV.out, HQ.out, HW1.out])
  rw [← HW2.out]
  refine HCP.out.mono ?_
  rintro e w3 ⟨cs, rfl, hM, hb3⟩
  obtain ⟨v7, v8, rfl, h7, h8⟩ := k35_openM hM
  obtain ⟨B7, d7, rfl⟩ := Kd.R_slice h7
  obtain ⟨B8, d8, rfl⟩ := Kd.R_slice h8
  have HB3 : Aside0 (Below w.heap.size w w3) := ⟨HB2.out.trans (hb3.mono HB2.out.size)⟩
  have X3 := Aside0.mk (blk_below HX2.out hb3)
  have H7 := Aside0.mk (Kd.R_lower h7 HB2.out.size)
  have H8 := Aside0.mk (Kd.R_lower h8 HB2.out.size)
  clear hM hb3 HCP h7 h8 c1
  obtain ⟨r0, r1, r2, r3, r4, r5, r6, r7, r8⟩ := r
  simp only at *
  have f0 := blk_frozen X3.out 0
  have f1 := blk_frozen X3.out 1
  have f2 := blk_frozen X3.out 2
  have f3 := blk_frozen X3.out 3
  have f4 := blk_frozen X3.out 4
  have f5 := blk_frozen X3.out 5
  have f6 := blk_frozen X3.out 6
  have f7 := blk_frozen X3.out 7
  have f8 := blk_frozen X3.out 8
  have x0 := blk_cell X3.out 0
  have x1 := blk_cell X3.out 1
  have x2 := blk_cell X3.out 2
  have x3 := blk_cell X3.out 3
  have x4 := blk_cell X3.out 4
  have x5 := blk_cell X3.out 5
  have x6 := blk_cell X3.out 6
  have x7 := blk_cell X3.out 7
  have x8 := blk_cell X3.out 8
  go_wp2_with fail
  have z0 := blk_put (cs' := #[.int .i64 r0, .int .i64 r1, .int .i64 r2, .int .i64 r3, .string r4, .string r5, .bool r6, .slice A7 r7.length c7, .slice A8 r8.length c8]) X3.out 0 (.int .i64 r0) rfl
  have z1 := blk_put (cs' := #[.int .i64 r0, .int .i64 r1, .int .i64 r2, .int .i64 r3, .string r4, .string r5, .bool r6, .slice A7 r7.length c7, .slice A8 r8.length c8]) z0 1 (.int .i64 r1) rfl
  have z2 := blk_put (cs' := #[.int .i64 r0, .int .i64 r1, .int .i64 r2, .int .i64 r3, .string r4, .string r5, .bool r6, .slice A7 r7.length c7, .slice A8 r8.length c8]) z1 2 (.int .i64 r2) rfl
  have z3 := blk_put (cs' := #[.int .i64 r0, .int .i64 r1, .int .i64 r2, .int .i64 r3, .string r4, .string r5, .bool r6, .slice A7 r7.length c7, .slice A8 r8.length c8]) z2 3 (.int .i64 r3) rfl
  have z4 := blk_put (cs' := #[.int .i64 r0, .int .i64 r1, .int .i64 r2, .int .i64 r3, .string r4, .string r5, .bool r6, .slice A7 r7.length c7, .slice A8 r8.length c8]) z3 4 (.string r4) rfl
  have z5 := blk_put (cs' := #[.int .i64 r0, .int .i64 r1, .int .i64 r2, .int .i64 r3, .string r4, .string r5, .bool r6, .slice A7 r7.length c7, .slice A8 r8.length c8]) z4 5 (.string r5) rfl
  have z6 := blk_put (cs' := #[.int .i64 r0, .int .i64 r1, .int .i64 r2, .int .i64 r3, .string r4, .string r5, .bool r6, .slice A7 r7.length c7, .slice A8 r8.length c8]) z5 6 (.bool r6) rfl
  have z7 := blk_put (cs' := #[.int .i64 r0, .int .i64 r1, .int .i64 r2, .int .i64 r3, .string r4, .string r5, .bool r6, .slice B7 r7.length d7, .slice A8 r8.length c8]) z6 7 (.slice B7 r7.length d7) rfl
  have z8 := blk_put (cs' := #[.int .i64 r0, .int .i64 r1, .int .i64 r2, .int .i64 r3, .string r4, .string r5, .bool r6, .slice B7 r7.length d7, .slice B8 r8.length d8]) z7 8 (.slice B8 r8.length d8) rfl
  have BZ : Aside0 ((((((((((w3.setCell ⟨w.heap.size, 0, none⟩ (.int .i64 r0)).setCell ⟨w.heap.size, 1, none⟩ (.int .i64 r1)).setCell ⟨w.heap.size, 2, none⟩ (.int .i64 r2)).setCell ⟨w.heap.size, 3, none⟩ (.int .i64 r3)).setCell ⟨w.heap.size, 4, none⟩ (.string r4)).setCell ⟨w.heap.size, 5, none⟩ (.string r5)).setCell ⟨w.heap.size, 6, none⟩ (.bool r6)).setCell ⟨w.heap.size, 7, none⟩ (.slice B7 r7.length d7)).setCell ⟨w.heap.size, 8, none⟩ (.slice B8 r8.length d8)).heap[w.heap.size]? = some (.cells #[.int .i64 r0, .int .i64 r1, .int .i64 r2, .int .i64 r3, .string r4, .string r5, .bool r6, .slice B7 r7.length d7, .slice B8 r8.length d8] 35 (0, 0))) := ⟨z8⟩
  have B6 : Aside0 (Below w.heap.size w (((((((((w3.setCell ⟨w.heap.size, 0, none⟩ (.int .i64 r0)).setCell ⟨w.heap.size, 1, none⟩ (.int .i64 r1)).setCell ⟨w.heap.size, 2, none⟩ (.int .i64 r2)).setCell ⟨w.heap.size, 3, none⟩ (.int .i64 r3)).setCell ⟨w.heap.size, 4, none⟩ (.string r4)).setCell ⟨w.heap.size, 5, none⟩ (.string r5)).setCell ⟨w.heap.size, 6, none⟩ (.bool r6)).setCell ⟨w.heap.size, 7, none⟩ (.slice B7 r7.length d7)).setCell ⟨w.heap.size, 8, none⟩ (.slice B8 r8.length d8))) := ⟨(Below.setCell (Below.setCell (Below.setCell (Below.setCell (Below.setCell (Below.setCell (Below.setCell (Below.setCell (Below.setCell HB3.out (Nat.le_refl _) _) (Nat.le_refl _) _) (Nat.le_refl _) _) (Nat.le_refl _) _) (Nat.le_refl _) _) (Nat.le_refl _) _) (Nat.le_refl _) _) (Nat.le_refl _) _) (Nat.le_refl _) _)⟩
  have HM : Aside0 (∀ k, k ≠ w.heap.size → (((((((((w3.setCell ⟨w.heap.size, 0, none⟩ (.int .i64 r0)).setCell ⟨w.heap.size, 1, none⟩ (.int .i64 r1)).setCell ⟨w.heap.size, 2, none⟩ (.int .i64 r2)).setCell ⟨w.heap.size, 3, none⟩ (.int .i64 r3)).setCell ⟨w.heap.size, 4, none⟩ (.string r4)).setCell ⟨w.heap.size, 5, none⟩ (.string r5)).setCell ⟨w.heap.size, 6, none⟩ (.bool r6)).setCell ⟨w.heap.size, 7, none⟩ (.slice B7 r7.length d7)).setCell ⟨w.heap.size, 8, none⟩ (.slice B8 r8.length d8)).heap[k]? = w3.heap[k]?) := ⟨fun k hk => (Eq.trans (Below.heap_setCell _ _ _ k hk) (Eq.trans (Below.heap_setCell _ _ _ k hk) (Eq.trans (Below.heap_setCell _ _ _ k hk) (Eq.trans (Below.heap_setCell _ _ _ k hk) (Eq.trans (Below.heap_setCell _ _ _ k hk) (Eq.trans (Below.heap_setCell _ _ _ k hk) (Eq.trans (Below.heap_setCell _ _ _ k hk) (Eq.trans (Below.heap_setCell _ _ _ k hk) (Below.heap_setCell _ _ _ k hk)))))))))⟩
  clear z0 z1 z2 z3 z4 z5 z6 z7 z8
  generalize (((((((((w3.setCell ⟨w.heap.size, 0, none⟩ (.int .i64 r0)).setCell ⟨w.heap.size, 1, none⟩ (.int .i64 r1)).setCell ⟨w.heap.size, 2, none⟩ (.int .i64 r2)).setCell ⟨w.heap.size, 3, none⟩ (.int .i64 r3)).setCell ⟨w.heap.size, 4, none⟩ (.string r4)).setCell ⟨w.heap.size, 5, none⟩ (.string r5)).setCell ⟨w.heap.size, 6, none⟩ (.bool r6)).setCell ⟨w.heap.size, 7, none⟩ (.slice B7 r7.length d7)).setCell ⟨w.heap.size, 8, none⟩ (.slice B8 r8.length d8)) = w6 at *
  have Z7 := Aside0.mk (R_box (by decide) H7.out X3.out HM.out)
  have Z8 := Aside0.mk (R_box (by decide) H8.out X3.out HM.out)
  (try simp only [Exit.inBlock, Exit.then])
  refine bodyPost_ret (results_list (rs := [.cell 4 35, .tmp 5]) rfl (by simp) (Vals.cell w.heap.size 35 _ (0, 0) _ rfl BZ.out Try.underlying35 rfl (by kernel_rfl) (Vals.tmp Vals.nil))) rfl ?_
  exact ⟨[.int .i64 r0, .int .i64 r1, .int .i64 r2, .int .i64 r3, .string r4, .string r5, .bool r6, .slice B7 r7.length d7, .slice B8 r8.length d8], rfl, k35_mkM _ _ _ (⟨r0, r1, r2, r3, r4, r5, r6, r7, r8⟩ : Rec) Z7.out Z8.out, B6.out⟩
end Go.Proofs.Ytaldfbmjmpkmmaa.PL
