/- vote.Tell, walked. -/
import Derived.Test.YtaldfbmjmpkmmaaMbf983a
namespace Go.Proofs.Ytaldfbmjmpkmmaa.PL
open Go.RowKit Go.Proofs.YtaldfbmjmpkmmaaW.PrintWords Go.Proofs.YtaldfbmjmpkmmaaW.PrintLast Go.Proofs.YtaldfbmjmpkmmaaW.PrintMore
set_option linter.unusedVariables false
set_option linter.unusedSimpArgs false
set_option linter.unusedSectionVars false
theorem mine_zero {k fr tw tx ts cd : Int} {text : ByteArray} {l7 : List ByteArray} {l8 : List S56} {kind me : Int} (h : mineV k fr tw tx ts cd text l7 l8 kind me = 0) : letV k fr tw tx ts cd text l7 l8 = 0 ∧ k = kind ∧ tw = me := by
 unfold mineV at h
 by_cases hh : letV k fr tw tx ts cd text l7 l8 = 0 ∧ k = kind ∧ tw = me
 ·exact hh
 ·rw [if_neg hh] at h; cases h
theorem let_zero {k fr tw tx ts cd : Int} {text : ByteArray} {l7 : List ByteArray} {l8 : List S56} (h : letV k fr tw tx ts cd text l7 l8 = 0) : headB fr tw tx ts cd = true ∧ kindB k = true ∧ keysV k l7 = true := by
 unfold letV letB restB at h
 cases h1 : headB fr tw tx ts cd with
 | false => rw [h1] at h; simp at h
 | true =>
  cases h2 : kindB k with
  | false => rw [h1, h2] at h; simp at h
  | true =>
   cases h3 : keysV k l7 with
   | false => rw [h1, h2, h3] at h; simp at h
   | true => exact ⟨rfl, rfl, rfl⟩
theorem head_txn {fr tw tx ts cd : Int} (h : headB fr tw tx ts cd = true) : -9223372036854775808 ≤ tx ∧ tx ≤ 9223372036854775807 := by
 unfold headB at h
 simp only [Bool.and_eq_true, Bool.not_eq_true', decide_eq_false_iff_not] at h
 omega
theorem mine_two (k fr tw tx ts cd : Int) (text : ByteArray) (l7 : List ByteArray) (l8 : List S56) (kind me : Int) : mineV k fr tw tx ts cd text l7 l8 kind me = 0 ∨ mineV k fr tw tx ts cd text l7 l8 kind me = 70 := by
 unfold mineV
 split
 ·exact .inl rfl
 ·exact .inr rfl
def tellV (s : Sh) (t : Int) : Int × Int := if (stateV s t).1 = 1 then (2, 0) else if (stateV s t).1 = 2 then (1, (stateV s t).2) else (0, 0)
set_option maxRecDepth 100000 in
set_option maxHeartbeats 8000000 in
theorem tell_walk {w : World} {ok : Nat → Prop} {b N : Nat} {s : Sh} (h : ShAt w ok b N s) (me : Int) (k fr tw tx ts cd : Int) (text : ByteArray) (A7 : Option Addr) (c7 : Nat) (l7 : List ByteArray) (A8 : Option Addr) (c8 : Nat) (l8 : List S56) (hr7 : Kd.C Kd.string w A7 l7.length l7) (hc7 : l7.length ≤ c7) (hr8 : Kd.C k56 w A8 l8.length l8) (hc8 : l8.length ≤ c8) (h8 : l8.length < 8796093022208) :
 Calls Try.prog 21 #[.pointer (some ⟨b, 0, none⟩), .int .i64 me, .agg #[.int .i64 k, .int .i64 fr, .int .i64 tw, .int .i64 tx, .int .i64 ts, .int .i64 cd, .string text, .slice A7 l7.length c7, .slice A8 l8.length c8]] w fun e w' => e = .returned (.tuple #[.agg (if mineV k fr tw tx ts cd text l7 l8 7 me = 0 then #[.int .i64 8, .int .i64 tw, .int .i64 fr, .int .i64 tx, .int .i64 (tellV s tx).2, .int .i64 (tellV s tx).1, .string ⟨#[]⟩, .slice none 0 0, .slice none 0 0] else #[.int .i64 0, .int .i64 0, .int .i64 0, .int .i64 0, .int .i64 0, .int .i64 0, .string ⟨#[]⟩, .slice none 0 0, .slice none 0 0]), .int .i64 (mineV k fr tw tx ts cd text l7 l8 7 me)]) ∧ Below w.heap.size w w' := by
 obtain ⟨wy, hwy⟩ : ∃ wy, wy = ((w.alloc (.cells #[.int .i64 k, .int .i64 fr, .int .i64 tw, .int .i64 tx, .int .i64 ts, .int .i64 cd, .string text, .slice A7 l7.length c7, .slice A8 l8.length c8] 46)).alloc (.cells #[.int .i64 0, .int .i64 0, .int .i64 0, .int .i64 0, .int .i64 0, .int .i64 0, .string ⟨#[]⟩, .slice none 0 0, .slice none 0 0] 46)) := ⟨_, rfl⟩
 have hby : Below w.heap.size w wy := by rw [hwy]; exact below_alloc (below_alloc (Below.refl _ _) _) _
 have hyx : wy.heap[w.heap.size]? = some (.cells #[.int .i64 k, .int .i64 fr, .int .i64 tw, .int .i64 tx, .int .i64 ts, .int .i64 cd, .string text, .slice A7 l7.length c7, .slice A8 l8.length c8] 46 (0, 0)) := by rw [hwy]; exact blk_alloc (blk_new _ _) _
 have hyz : wy.heap[w.heap.size + 1]? = some (.cells #[.int .i64 0, .int .i64 0, .int .i64 0, .int .i64 0, .int .i64 0, .int .i64 0, .string ⟨#[]⟩, .slice none 0 0, .slice none 0 0] 46 (0, 0)) := by
  rw [hwy]
  have h := blk_new (w.alloc (.cells #[.int .i64 k, .int .i64 fr, .int .i64 tw, .int .i64 tx, .int .i64 ts, .int .i64 cd, .string text, .slice A7 l7.length c7, .slice A8 l8.length c8] 46)) (.cells #[.int .i64 0, .int .i64 0, .int .i64 0, .int .i64 0, .int .i64 0, .int .i64 0, .string ⟨#[]⟩, .slice none 0 0, .slice none 0 0] 46)
  rwa [show (w.alloc (.cells #[.int .i64 k, .int .i64 fr, .int .i64 tw, .int .i64 tx, .int .i64 ts, .int .i64 cd, .string text, .slice A7 l7.length c7, .slice A8 l8.length c8] 46)).heap.size = w.heap.size + 1 by simp] at h
 have HWY := Aside0.mk hwy
 have HBY := Aside0.mk hby
 have HYX := Aside0.mk hyx
 have HYZ := Aside0.mk hyz
 have HSH := Aside0.mk (h.below hby)
 have HMI := Aside0.mk (mine_walk wy b 7 me k fr tw tx ts cd text A7 c7 l7 A8 c8 l8 (Kd.C_below hr7 hby) hc7 (Kd.C_below hr8 hby) hc8 h8)
 have HBK : Aside0 (∀ W, Calls Try.prog 48 #[.agg #[.int .i64 k, .int .i64 fr, .int .i64 tw, .int .i64 tx, .int .i64 ts, .int .i64 cd, .string text, .slice A7 l7.length c7, .slice A8 l8.length c8], .int .i64 8] W fun e w' => e = .returned (.agg #[.int .i64 8, .int .i64 tw, .int .i64 fr, .int .i64 tx, .int .i64 0, .int .i64 0, .string ⟨#[]⟩, .slice none 0 0, .slice none 0 0]) ∧ Below W.heap.size W w') := ⟨fun W => back_walk W 8 k fr tw tx ts cd text A7 l7.length c7 A8 l8.length c8⟩
 have h7m := Kd.C_max hr7
 have h8m := Kd.C_max hr8
 have HTX : Aside0 (mineV k fr tw tx ts cd text l7 l8 7 me = 0 → -9223372036854775808 ≤ tx ∧ tx ≤ 9223372036854775807) := ⟨fun h => head_txn (let_zero (mine_zero h).1).1⟩
 have HTW := Aside0.mk (mine_two k fr tw tx ts cd text l7 l8 7 me)
 have hu := Try.underlying46
 clear hr7 hc7 hr8 hc8 h8 hby hyx hyz hwy h
 generalize mineV k fr tw tx ts cd text l7 l8 7 me = mv at *
 go_enter Try.func21, Try.ntmps21
 go_wp2_with fail
 rw [← HWY.out]
 refine HMI.out.mono ?_
 rintro e w1 ⟨rfl, hb1⟩
 have HB1 : Aside0 (Below w.heap.size w w1) := ⟨HBY.out.trans (hb1.mono HBY.out.size)⟩
 have hx1 := blk_below HYX.out hb1
 have hz1 := blk_below HYZ.out hb1
 have HX1 := Aside0.mk hx1
 have HZ1 := Aside0.mk hz1
 have HS1 := Aside0.mk (HSH.out.below hb1)
 obtain ⟨q0, q1, q2, q3, q4, q5, q6, q7, q8⟩ := rec_cells hx1
 have f0 := blk_frozen hz1 0
 have f1 := blk_frozen hz1 1
 have f2 := blk_frozen hz1 2
 have f3 := blk_frozen hz1 3
 have f4 := blk_frozen hz1 4
 have f5 := blk_frozen hz1 5
 have f6 := blk_frozen hz1 6
 have f7 := blk_frozen hz1 7
 have f8 := blk_frozen hz1 8
 obtain ⟨r0, r1, r2, r3, r4, r5, r6, r7, r8⟩ := rec_cells hz1
 clear hb1 HMI HYX HYZ HBY HWY HSH hx1 hz1
 rcases HTW.out with rfl | rfl
 ·have HTX1 := Aside0.mk (HTX.out rfl)
  clear HTX HTW
  go_wp2_with fail
  refine (HBK.out _).mono ?_
  rintro e w2 ⟨rfl, hb2⟩
  have HB2 : Aside0 (Below w.heap.size w w2) := ⟨HB1.out.trans (hb2.mono HB1.out.size)⟩
  obtain ⟨w3, hw3⟩ : ∃ w3, w3 = w2.alloc (.cells #[.int .i64 8, .int .i64 tw, .int .i64 fr, .int .i64 tx, .int .i64 0, .int .i64 0, .string ⟨#[]⟩, .slice none 0 0, .slice none 0 0] 46) := ⟨_, rfl⟩
  have hb3 : Below w2.heap.size w2 w3 := by rw [hw3]; exact below_alloc (Below.refl _ _) _
  have hy3 : w3.heap[w2.heap.size]? = some (.cells #[.int .i64 8, .int .i64 tw, .int .i64 fr, .int .i64 tx, .int .i64 0, .int .i64 0, .string ⟨#[]⟩, .slice none 0 0, .slice none 0 0] 46 (0, 0)) := by rw [hw3]; exact blk_new _ _
  have hx3 := blk_below (blk_below HX1.out hb2) hb3
  have hz3 := blk_below (blk_below HZ1.out hb2) hb3
  have HB3 : Aside0 (Below w.heap.size w w3) := ⟨HB2.out.trans (hb3.mono HB2.out.size)⟩
  have HG3 : Aside0 (w.heap.size + 1 < w2.heap.size) := ⟨blk_lt (blk_below HZ1.out hb2)⟩
  have HW3 := Aside0.mk hw3
  have HX3 := Aside0.mk hx3
  have HY3 := Aside0.mk hy3
  have HZ3 := Aside0.mk hz3
  have HST := Aside0.mk (state_walk ((HS1.out.below hb2).below hb3) tx HTX1.out)
  clear q0 q1 q2 q3 q4 q5 q6 q7 q8 f0 f1 f2 f3 f4 f5 f6 f7 f8 r0 r1 r2 r3 r4 r5 r6 r7 r8
  obtain ⟨q0, q1, q2, q3, q4, q5, q6, q7, q8⟩ := rec_cells hx3
  rw [hw3] at q0 q1 q2 q3 q4 q5 q6 q7 q8
  clear hb2 hb3 hw3 hx3 hy3 hz3 HB1 HB2 HX1 HZ1 HS1 HBK HTX1
  have HTV : Aside0 (tellV s tx = if (stateV s tx).1 = 1 then (2, 0) else if (stateV s tx).1 = 2 then (1, (stateV s tx).2) else (0, 0)) := ⟨rfl⟩
  generalize stateV s tx = st at *
  obtain ⟨sa, sb⟩ := st
  try simp only at HTV HST
  go_wp2_with fail
  rw [← HW3.out]
  refine HST.out.mono ?_
  rintro e w4 ⟨rfl, hb4⟩
  have hx4 := blk_below HY3.out hb4
  have hz4 := blk_below HZ3.out hb4
  have HB4 : Aside0 (Below w.heap.size w w4) := ⟨HB3.out.trans (hb4.mono HB3.out.size)⟩
  have HX4 := Aside0.mk hx4
  have HZ4 := Aside0.mk hz4
  clear hb4 HST HW3 HX3 HY3 HZ3 HB3 q0 q1 q2 q3 q4 q5 q6 q7 q8
  have hf4 := blk_frozen hx4 4
  have hf5 := blk_frozen hx4 5
  have hc4 := (blk_cell hx4 4).trans rfl
  have hc5 := (blk_cell hx4 5).trans rfl
  by_cases h1 : sa = 1
  ·rw [if_pos h1] at HTV
   subst h1
   have hy5 := blk_put (cs' := #[.int .i64 8, .int .i64 tw, .int .i64 fr, .int .i64 tx, .int .i64 0, .int .i64 2, .string ⟨#[]⟩, .slice none 0 0, .slice none 0 0]) hx4 5 (.int .i64 2) rfl
   have hz5 := (Below.heap_setCell w4 ⟨w2.heap.size, 5, none⟩ (.int .i64 2) (w.heap.size + 1) (by have := HG3.out; simp; omega)).trans hz4
   have HY5 := Aside0.mk hy5
   have HZ5 := Aside0.mk hz5
   obtain ⟨x0, x1, x2, x3, x4, x5, x6, x7, x8⟩ := rec_cells hy5
   have f0 := blk_frozen hz5 0
   have f1 := blk_frozen hz5 1
   have f2 := blk_frozen hz5 2
   have f3 := blk_frozen hz5 3
   have f4 := blk_frozen hz5 4
   have f5 := blk_frozen hz5 5
   have f6 := blk_frozen hz5 6
   have f7 := blk_frozen hz5 7
   have f8 := blk_frozen hz5 8
   obtain ⟨r0, r1, r2, r3, r4, r5, r6, r7, r8⟩ := rec_cells hz5
   clear hx4 hz4 hy5 hz5
   go_wp2_with fail
   obtain ⟨w6, hw6⟩ : ∃ w6, w6 = ((((((((((w4.setCell ⟨w2.heap.size, 5, none⟩ (.int .i64 2)).setCell ⟨w.heap.size + 1, 0, none⟩ (.int .i64 8)).setCell ⟨w.heap.size + 1, 1, none⟩ (.int .i64 tw)).setCell ⟨w.heap.size + 1, 2, none⟩ (.int .i64 fr)).setCell ⟨w.heap.size + 1, 3, none⟩ (.int .i64 tx)).setCell ⟨w.heap.size + 1, 4, none⟩ (.int .i64 0)).setCell ⟨w.heap.size + 1, 5, none⟩ (.int .i64 2)).setCell ⟨w.heap.size + 1, 6, none⟩ (.string ⟨#[]⟩)).setCell ⟨w.heap.size + 1, 7, none⟩ (.slice none 0 0)).setCell ⟨w.heap.size + 1, 8, none⟩ (.slice none 0 0)) := ⟨_, rfl⟩
   have hz : w6.heap[w.heap.size + 1]? = some (.cells #[.int .i64 8, .int .i64 tw, .int .i64 fr, .int .i64 tx, .int .i64 0, .int .i64 2, .string ⟨#[]⟩, .slice none 0 0, .slice none 0 0] 46 (0, 0)) := by rw [hw6]; exact put9_blk HZ5.out (.int .i64 8) (.int .i64 tw) (.int .i64 fr) (.int .i64 tx) (.int .i64 0) (.int .i64 2) (.string ⟨#[]⟩) (.slice none 0 0) (.slice none 0 0)
   have hzb : Below w.heap.size w w6 := by rw [hw6]; exact put9_below (Below.setCell HB4.out (show w.heap.size ≤ w2.heap.size by have := HG3.out; omega) _) (Nat.le_succ _) (.int .i64 8) (.int .i64 tw) (.int .i64 fr) (.int .i64 tx) (.int .i64 0) (.int .i64 2) (.string ⟨#[]⟩) (.slice none 0 0) (.slice none 0 0)
   rw [← hw6]
   clear hw6
   (try simp only [Exit.inBlock, Exit.then])
   refine bodyPost_ret (results_list (rs := [.cell 6 46, .tmp 7]) rfl (by simp) (Vals.cell (w.heap.size + 1) 46 _ (0, 0) _ rfl hz Try.underlying46 rfl (by kernel_rfl) (Vals.tmp Vals.nil))) rfl ?_
   exact ⟨by rw [HTV.out]; rfl, hzb⟩
  ·rw [if_neg h1] at HTV
   by_cases h2 : sa = 2
   ·rw [if_pos h2] at HTV
    subst h2
    have hy5 := blk_put (cs' := #[.int .i64 8, .int .i64 tw, .int .i64 fr, .int .i64 tx, .int .i64 0, .int .i64 1, .string ⟨#[]⟩, .slice none 0 0, .slice none 0 0]) hx4 5 (.int .i64 1) rfl
    have hy6 := blk_put (cs' := #[.int .i64 8, .int .i64 tw, .int .i64 fr, .int .i64 tx, .int .i64 sb, .int .i64 1, .string ⟨#[]⟩, .slice none 0 0, .slice none 0 0]) hy5 4 (.int .i64 sb) rfl
    have hz5 := (Below.heap_setCell w4 ⟨w2.heap.size, 5, none⟩ (.int .i64 1) (w.heap.size + 1) (by have := HG3.out; simp; omega)).trans hz4
    have hz6 := (Below.heap_setCell (w4.setCell ⟨w2.heap.size, 5, none⟩ (.int .i64 1)) ⟨w2.heap.size, 4, none⟩ (.int .i64 sb) (w.heap.size + 1) (by have := HG3.out; simp; omega)).trans hz5
    have HZ6 := Aside0.mk hz6
    have hf6 := blk_frozen hy5 4
    have hc6 := (blk_cell hy5 4).trans rfl
    obtain ⟨x0, x1, x2, x3, x4, x5, x6, x7, x8⟩ := rec_cells hy6
    have f0 := blk_frozen hz6 0
    have f1 := blk_frozen hz6 1
    have f2 := blk_frozen hz6 2
    have f3 := blk_frozen hz6 3
    have f4 := blk_frozen hz6 4
    have f5 := blk_frozen hz6 5
    have f6 := blk_frozen hz6 6
    have f7 := blk_frozen hz6 7
    have f8 := blk_frozen hz6 8
    obtain ⟨r0, r1, r2, r3, r4, r5, r6, r7, r8⟩ := rec_cells hz6
    clear hx4 hz4 hy5 hz5 hy6 hz6
    go_wp2_with fail
    obtain ⟨w6, hw6⟩ : ∃ w6, w6 = (((((((((((w4.setCell ⟨w2.heap.size, 5, none⟩ (.int .i64 1)).setCell ⟨w2.heap.size, 4, none⟩ (.int .i64 sb)).setCell ⟨w.heap.size + 1, 0, none⟩ (.int .i64 8)).setCell ⟨w.heap.size + 1, 1, none⟩ (.int .i64 tw)).setCell ⟨w.heap.size + 1, 2, none⟩ (.int .i64 fr)).setCell ⟨w.heap.size + 1, 3, none⟩ (.int .i64 tx)).setCell ⟨w.heap.size + 1, 4, none⟩ (.int .i64 sb)).setCell ⟨w.heap.size + 1, 5, none⟩ (.int .i64 1)).setCell ⟨w.heap.size + 1, 6, none⟩ (.string ⟨#[]⟩)).setCell ⟨w.heap.size + 1, 7, none⟩ (.slice none 0 0)).setCell ⟨w.heap.size + 1, 8, none⟩ (.slice none 0 0)) := ⟨_, rfl⟩
    have hz : w6.heap[w.heap.size + 1]? = some (.cells #[.int .i64 8, .int .i64 tw, .int .i64 fr, .int .i64 tx, .int .i64 sb, .int .i64 1, .string ⟨#[]⟩, .slice none 0 0, .slice none 0 0] 46 (0, 0)) := by rw [hw6]; exact put9_blk HZ6.out (.int .i64 8) (.int .i64 tw) (.int .i64 fr) (.int .i64 tx) (.int .i64 sb) (.int .i64 1) (.string ⟨#[]⟩) (.slice none 0 0) (.slice none 0 0)
    have hzb : Below w.heap.size w w6 := by rw [hw6]; exact put9_below (Below.setCell (Below.setCell HB4.out (show w.heap.size ≤ w2.heap.size by have := HG3.out; omega) _) (show w.heap.size ≤ w2.heap.size by have := HG3.out; omega) _) (Nat.le_succ _) (.int .i64 8) (.int .i64 tw) (.int .i64 fr) (.int .i64 tx) (.int .i64 sb) (.int .i64 1) (.string ⟨#[]⟩) (.slice none 0 0) (.slice none 0 0)
    rw [← hw6]
    clear hw6
    (try simp only [Exit.inBlock, Exit.then])
    refine bodyPost_ret (results_list (rs := [.cell 6 46, .tmp 7]) rfl (by simp) (Vals.cell (w.heap.size + 1) 46 _ (0, 0) _ rfl hz Try.underlying46 rfl (by kernel_rfl) (Vals.tmp Vals.nil))) rfl ?_
    exact ⟨by rw [HTV.out]; rfl, hzb⟩
   ·rw [if_neg h2] at HTV
    have d1 : (sa == 1) = false := by simpa using h1
    have d2 : (sa == 2) = false := by simpa using h2
    obtain ⟨x0, x1, x2, x3, x4, x5, x6, x7, x8⟩ := rec_cells hx4
    have f0 := blk_frozen hz4 0
    have f1 := blk_frozen hz4 1
    have f2 := blk_frozen hz4 2
    have f3 := blk_frozen hz4 3
    have f4 := blk_frozen hz4 4
    have f5 := blk_frozen hz4 5
    have f6 := blk_frozen hz4 6
    have f7 := blk_frozen hz4 7
    have f8 := blk_frozen hz4 8
    obtain ⟨r0, r1, r2, r3, r4, r5, r6, r7, r8⟩ := rec_cells hz4
    clear hx4 hz4 h1 h2
    go_wp2_with fail
    obtain ⟨w6, hw6⟩ : ∃ w6, w6 = (((((((((w4.setCell ⟨w.heap.size + 1, 0, none⟩ (.int .i64 8)).setCell ⟨w.heap.size + 1, 1, none⟩ (.int .i64 tw)).setCell ⟨w.heap.size + 1, 2, none⟩ (.int .i64 fr)).setCell ⟨w.heap.size + 1, 3, none⟩ (.int .i64 tx)).setCell ⟨w.heap.size + 1, 4, none⟩ (.int .i64 0)).setCell ⟨w.heap.size + 1, 5, none⟩ (.int .i64 0)).setCell ⟨w.heap.size + 1, 6, none⟩ (.string ⟨#[]⟩)).setCell ⟨w.heap.size + 1, 7, none⟩ (.slice none 0 0)).setCell ⟨w.heap.size + 1, 8, none⟩ (.slice none 0 0)) := ⟨_, rfl⟩
    have hz : w6.heap[w.heap.size + 1]? = some (.cells #[.int .i64 8, .int .i64 tw, .int .i64 fr, .int .i64 tx, .int .i64 0, .int .i64 0, .string ⟨#[]⟩, .slice none 0 0, .slice none 0 0] 46 (0, 0)) := by rw [hw6]; exact put9_blk HZ4.out (.int .i64 8) (.int .i64 tw) (.int .i64 fr) (.int .i64 tx) (.int .i64 0) (.int .i64 0) (.string ⟨#[]⟩) (.slice none 0 0) (.slice none 0 0)
    have hzb : Below w.heap.size w w6 := by rw [hw6]; exact put9_below (HB4.out) (Nat.le_succ _) (.int .i64 8) (.int .i64 tw) (.int .i64 fr) (.int .i64 tx) (.int .i64 0) (.int .i64 0) (.string ⟨#[]⟩) (.slice none 0 0) (.slice none 0 0)
    rw [← hw6]
    clear hw6
    (try simp only [Exit.inBlock, Exit.then])
    refine bodyPost_ret (results_list (rs := [.cell 6 46, .tmp 7]) rfl (by simp) (Vals.cell (w.heap.size + 1) 46 _ (0, 0) _ rfl hz Try.underlying46 rfl (by kernel_rfl) (Vals.tmp Vals.nil))) rfl ?_
    exact ⟨by rw [HTV.out]; rfl, hzb⟩
 ·go_wp2_with fail
  obtain ⟨w6, hw6⟩ : ∃ w6, w6 = (((((((((w1.setCell ⟨w.heap.size + 1, 0, none⟩ (.int .i64 0)).setCell ⟨w.heap.size + 1, 1, none⟩ (.int .i64 0)).setCell ⟨w.heap.size + 1, 2, none⟩ (.int .i64 0)).setCell ⟨w.heap.size + 1, 3, none⟩ (.int .i64 0)).setCell ⟨w.heap.size + 1, 4, none⟩ (.int .i64 0)).setCell ⟨w.heap.size + 1, 5, none⟩ (.int .i64 0)).setCell ⟨w.heap.size + 1, 6, none⟩ (.string ⟨#[]⟩)).setCell ⟨w.heap.size + 1, 7, none⟩ (.slice none 0 0)).setCell ⟨w.heap.size + 1, 8, none⟩ (.slice none 0 0)) := ⟨_, rfl⟩
  have hz : w6.heap[w.heap.size + 1]? = some (.cells #[.int .i64 0, .int .i64 0, .int .i64 0, .int .i64 0, .int .i64 0, .int .i64 0, .string ⟨#[]⟩, .slice none 0 0, .slice none 0 0] 46 (0, 0)) := by rw [hw6]; exact put9_blk HZ1.out (.int .i64 0) (.int .i64 0) (.int .i64 0) (.int .i64 0) (.int .i64 0) (.int .i64 0) (.string ⟨#[]⟩) (.slice none 0 0) (.slice none 0 0)
  have hzb : Below w.heap.size w w6 := by rw [hw6]; exact put9_below (HB1.out) (Nat.le_succ _) (.int .i64 0) (.int .i64 0) (.int .i64 0) (.int .i64 0) (.int .i64 0) (.int .i64 0) (.string ⟨#[]⟩) (.slice none 0 0) (.slice none 0 0)
  rw [← hw6]
  clear hw6
  (try simp only [Exit.inBlock, Exit.then])
  refine bodyPost_ret (results_list (rs := [.cell 6 46, .tmp 7]) rfl (by simp) (Vals.cell (w.heap.size + 1) 46 _ (0, 0) _ rfl hz Try.underlying46 rfl (by kernel_rfl) (Vals.tmp Vals.nil))) rfl ?_
  exact ⟨rfl, hzb⟩
end Go.Proofs.Ytaldfbmjmpkmmaa.PL
