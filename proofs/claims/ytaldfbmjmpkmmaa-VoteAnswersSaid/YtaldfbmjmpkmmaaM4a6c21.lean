/- Texts of this proof, one behind the other (merged by a program of this session). -/
import Derived.Test.YtaldfbmjmpkmmaaHLuB1
import Derived.Test.YtaldfbmjmpkmmaaHLuB2
import Derived.Test.YtaldfbmjmpkmmaaHLuB3
import Derived.Test.YtaldfbmjmpkmmaaHLtF
import Derived.Test.YtaldfbmjmpkmmaaHRfD
namespace Go.Proofs.Ytaldfbmjmpkmmaa.PL
open Go.RowKit Go.Proofs.YtaldfbmjmpkmmaaW.PrintWords Go.Proofs.YtaldfbmjmpkmmaaW.PrintLast Go.Proofs.YtaldfbmjmpkmmaaW.PrintMore
theorem let7_walk (w : World) (k fr tw tx ts cd : Int) (text : ByteArray) (A7 : Option Addr) (c7 : Nat) (l7 : List ByteArray) (A8 : Option Addr) (c8 : Nat) (l8 : List S56) (hr7 : Kd.C Kd.string w A7 l7.length l7) (hc7 : l7.length ≤ c7) (hr8 : Kd.C k56 w A8 l8.length l8) (hc8 : l8.length ≤ c8) (h8 : l8.length < 8796093022208) :
 Calls Try.prog 94 #[.agg #[.int .i64 k, .int .i64 fr, .int .i64 tw, .int .i64 tx, .int .i64 ts, .int .i64 cd, .string text, .slice A7 l7.length c7, .slice A8 l8.length c8]] w fun e w' => e = .returned (.int .i64 (letV k fr tw tx ts cd text l7 l8)) ∧ Below w.heap.size w w' := by
 by_cases h3 : k = 3
 ·exact let7_walk2 w k fr tw tx ts cd text A7 c7 l7 A8 c8 l8 hr7 hc7 hr8 hc8 h8 h3
 ·by_cases h1 : k = 1 ∨ k = 2
  ·exact let7_walk1 w k fr tw tx ts cd text A7 c7 l7 A8 c8 l8 hr7 hc7 hr8 hc8 h8 h1
  ·exact let7_walk3 w k fr tw tx ts cd text A7 c7 l7 A8 c8 l8 hr7 hc7 hr8 hc8 h8 ⟨fun h => h1 (.inl h), fun h => h1 (.inr h), h3⟩
end Go.Proofs.Ytaldfbmjmpkmmaa.PL
namespace Go.Proofs.Ytaldfbmjmpkmmaa.PL
open Go.RowKit Go.Proofs.YtaldfbmjmpkmmaaW.PrintWords Go.Proofs.YtaldfbmjmpkmmaaW.PrintLast Go.Proofs.YtaldfbmjmpkmmaaW.PrintMore
set_option linter.unusedVariables false
set_option linter.unusedSimpArgs false
set_option linter.unusedSectionVars false
set_option maxRecDepth 100000 in
set_option maxHeartbeats 4000000 in
theorem mine19_walk (w : World) (kind me : Int) (k fr tw tx ts cd : Int) (text : ByteArray) (A7 : Option Addr) (c7 : Nat) (l7 : List ByteArray) (A8 : Option Addr) (c8 : Nat) (l8 : List S56) (hr7 : Kd.C Kd.string w A7 l7.length l7) (hc7 : l7.length ≤ c7) (hr8 : Kd.C k56 w A8 l8.length l8) (hc8 : l8.length ≤ c8) (h8 : l8.length < 8796093022208) :
 Calls Try.prog 49 #[.agg #[.int .i64 k, .int .i64 fr, .int .i64 tw, .int .i64 tx, .int .i64 ts, .int .i64 cd, .string text, .slice A7 l7.length c7, .slice A8 l8.length c8], .int .i64 kind, .int .i64 me] w fun e w' => e = .returned (.bool (decide (mineV k fr tw tx ts cd text l7 l8 kind me = 0))) ∧ Below w.heap.size w w' := by
 obtain ⟨wy, hwy⟩ : ∃ wy, wy = w.alloc (.cells #[.int .i64 k, .int .i64 fr, .int .i64 tw, .int .i64 tx, .int .i64 ts, .int .i64 cd, .string text, .slice A7 l7.length c7, .slice A8 l8.length c8] 46) := ⟨_, rfl⟩
 have hby : Below w.heap.size w wy := by rw [hwy]; exact below_alloc (Below.refl _ _) _
 have hyx : wy.heap[w.heap.size]? = some (.cells #[.int .i64 k, .int .i64 fr, .int .i64 tw, .int .i64 tx, .int .i64 ts, .int .i64 cd, .string text, .slice A7 l7.length c7, .slice A8 l8.length c8] 46 (0, 0)) := by rw [hwy]; exact blk_new _ _
 have HWY := Aside0.mk hwy
 have HBY := Aside0.mk hby
 have HYX := Aside0.mk hyx
 have HLC := Aside0.mk (let7_walk wy k fr tw tx ts cd text A7 c7 l7 A8 c8 l8 (Kd.C_below hr7 hby) hc7 (Kd.C_below hr8 hby) hc8 h8)
 have h7m := Kd.C_max hr7
 have h8m := Kd.C_max hr8
 have HV : Aside0 (mineV k fr tw tx ts cd text l7 l8 kind me = if letV k fr tw tx ts cd text l7 l8 = 0 ∧ k = kind ∧ tw = me then 0 else 70) := ⟨rfl⟩
 obtain ⟨q0, q1, q2, q3, q4, q5, q6, q7, q8⟩ := rec_cells hyx
 clear hr7 hc7 hr8 hc8 h8 hwy hby hyx
 obtain ⟨mb, hmb⟩ : ∃ mb, decide (mineV k fr tw tx ts cd text l7 l8 kind me = 0) = mb := ⟨_, rfl⟩
 have HMB := Aside0.mk hmb
 rw [hmb]
 clear hmb
 generalize mineV k fr tw tx ts cd text l7 l8 kind me = mv at *
 generalize letV k fr tw tx ts cd text l7 l8 = lv at *
 go_enter Try.func49, Try.ntmps49
 go_wp2_with fail
 rw [← HWY.out]
 refine HLC.out.mono ?_
 rintro e w1 ⟨rfl, hb1⟩
 have HB1 : Aside0 (Below w.heap.size w w1) := ⟨HBY.out.trans (hb1.mono HBY.out.size)⟩
 have HX1 := Aside0.mk (blk_below HYX.out hb1)
 clear hb1 HLC HYX HBY HWY q0 q1 q2 q3 q4 q5 q6 q7 q8
 obtain ⟨q0, q1, q2, q3, q4, q5, q6, q7, q8⟩ := rec_cells HX1.out
 by_cases h1 : lv = 0
 ·subst h1
  by_cases h2 : k = kind
  ·have d2 : (k == kind) = true := by simpa using h2
   by_cases h3 : tw = me
   ·have d3 : (tw == me) = true := by simpa using h3
    rw [if_pos ⟨rfl, h2, h3⟩] at HV
    rw [HV.out] at HMB
    obtain rfl := HMB.out
    clear HV HMB h2 h3
    go_wp2_with fail
    go_ret
    exact ⟨rfl, HB1.out⟩
   ·have d3 : (tw == me) = false := by simpa using h3
    rw [if_neg (fun h => h3 h.2.2)] at HV
    rw [HV.out] at HMB
    obtain rfl := HMB.out
    clear HV HMB h2 h3
    go_wp2_with fail
    go_ret
    exact ⟨rfl, HB1.out⟩
  ·have d2 : (k == kind) = false := by simpa using h2
   rw [if_neg (fun h => h2 h.2.1)] at HV
   rw [HV.out] at HMB
   obtain rfl := HMB.out
   clear HV HMB h2
   go_wp2_with fail
   go_ret
   exact ⟨rfl, HB1.out⟩
 ·have d1 : (lv == 0) = false := by simpa using h1
  rw [if_neg (fun h => h1 h.1)] at HV
  rw [HV.out] at HMB
  obtain rfl := HMB.out
  clear HV HMB h1
  go_wp2_with fail
  go_ret
  exact ⟨rfl, HB1.out⟩
theorem state_ts {s : Sh} {t : Int} (h : (stateV s t).1 ≠ 2) : (stateV s t).2 = 0 := by
 rcases state_cases s t with ⟨-, h2⟩ | ⟨-, ⟨-, h2⟩ | ⟨e, -, ⟨-, h2⟩ | ⟨-, h2⟩⟩⟩
 ·rw [h2]
 ·rw [h2]
 ·rw [h2]
 ·rw [h2] at h; exact absurd rfl h
set_option maxRecDepth 100000 in
set_option maxHeartbeats 8000000 in
theorem rtell_walk {w : World} {ok : Nat → Prop} {b : Nat} {s : Sh} (h : RfAt w ok b s) (me : Int) (k fr tw tx ts cd : Int) (text : ByteArray) (A7 : Option Addr) (c7 : Nat) (l7 : List ByteArray) (A8 : Option Addr) (c8 : Nat) (l8 : List S56) (hr7 : Kd.C Kd.string w A7 l7.length l7) (hc7 : l7.length ≤ c7) (hr8 : Kd.C k56 w A8 l8.length l8) (hc8 : l8.length ≤ c8) (h8 : l8.length < 8796093022208) :
 Calls Try.prog 22 #[.pointer (some ⟨b, 0, none⟩), .int .i64 me, .agg #[.int .i64 k, .int .i64 fr, .int .i64 tw, .int .i64 tx, .int .i64 ts, .int .i64 cd, .string text, .slice A7 l7.length c7, .slice A8 l8.length c8]] w fun e w' => e = .returned (.tuple #[.agg (if mineV k fr tw tx ts cd text l7 l8 7 me = 0 then #[.int .i64 8, .int .i64 tw, .int .i64 fr, .int .i64 tx, .int .i64 (tellV s tx).2, .int .i64 (tellV s tx).1, .string ⟨#[]⟩, .slice none 0 0, .slice none 0 0] else #[.int .i64 0, .int .i64 0, .int .i64 0, .int .i64 0, .int .i64 0, .int .i64 0, .string ⟨#[]⟩, .slice none 0 0, .slice none 0 0]), .int .i64 (mineV k fr tw tx ts cd text l7 l8 7 me)]) ∧ Below w.heap.size w w' := by
 obtain ⟨wy, hwy⟩ : ∃ wy, wy = ((w.alloc (.cells #[.int .i64 k, .int .i64 fr, .int .i64 tw, .int .i64 tx, .int .i64 ts, .int .i64 cd, .string text, .slice A7 l7.length c7, .slice A8 l8.length c8] 46)).alloc (.cells #[.int .i64 0, .int .i64 0, .int .i64 0, .int .i64 0, .int .i64 0, .int .i64 0, .string ⟨#[]⟩, .slice none 0 0, .slice none 0 0] 46)) := ⟨_, rfl⟩
 have hby : Below w.heap.size w wy := by rw [hwy]; exact below_alloc (below_alloc (Below.refl _ _) _) _
 have hyx : wy.heap[w.heap.size]? = some (.cells #[.int .i64 k, .int .i64 fr, .int .i64 tw, .int .i64 tx, .int .i64 ts, .int .i64 cd, .string text, .slice A7 l7.length c7, .slice A8 l8.length c8] 46 (0, 0)) := by rw [hwy]; exact blk_alloc (blk_new _ _) _
 have hyz : wy.heap[w.heap.size + 1]? = some (.cells #[.int .i64 0, .int .i64 0, .int .i64 0, .int .i64 0, .int .i64 0, .int .i64 0, .string ⟨#[]⟩, .slice none 0 0, .slice none 0 0] 46 (0, 0)) := by
  rw [hwy]
  have h := blk_new (w.alloc (.cells #[.int .i64 k, .int .i64 fr, .int .i64 tw, .int .i64 tx, .int .i64 ts, .int .i64 cd, .string text, .slice A7 l7.length c7, .slice A8 l8.length c8] 46)) (.cells #[.int .i64 0, .int .i64 0, .int .i64 0, .int .i64 0, .int .i64 0, .int .i64 0, .string ⟨#[]⟩, .slice none 0 0, .slice none 0 0] 46)
  rwa [show (w.alloc (.cells #[.int .i64 k, .int .i64 fr, .int .i64 tw, .int .i64 tx, .int .i64 ts, .int .i64 cd, .string text, .slice A7 l7.length c7, .slice A8 l8.length c8] 46)).heap.size = w.heap.size + 1 by simp] at h
 have HWY := Aside0.mk hwy
 have HBY := Aside0.mk hby
 have HYX := Aside0.mk hyx
 have HYZ := Aside0.mk hyz
 have HSH := Aside0.mk (h.below hby)
 have HMI := Aside0.mk (mine19_walk wy 7 me k fr tw tx ts cd text A7 c7 l7 A8 c8 l8 (Kd.C_below hr7 hby) hc7 (Kd.C_below hr8 hby) hc8 h8)
 have h7m := Kd.C_max hr7
 have h8m := Kd.C_max hr8
 have HME : Aside0 (mineV k fr tw tx ts cd text l7 l8 7 me = 0 → tw = me) := ⟨fun h => (mine_zero h).2.2⟩
 have HTW := Aside0.mk (mine_two k fr tw tx ts cd text l7 l8 7 me)
 have hu := Try.underlying46
 clear hr7 hc7 hr8 hc8 h8 hby hyx hyz hwy h
 generalize mineV k fr tw tx ts cd text l7 l8 7 me = mv at *
 go_enter Try.func22, Try.ntmps22
 go_wp2_with fail
 rw [← HWY.out]
 refine HMI.out.mono ?_
 rintro e w1 ⟨rfl, hb1⟩
 have HB1 : Aside0 (Below w.heap.size w w1) := ⟨HBY.out.trans (hb1.mono HBY.out.size)⟩
 have hx1 := blk_below HYX.out hb1
 have hz1 := blk_below HYZ.out hb1
 have HX1 := Aside0.mk hx1
 have HZ1 := Aside0.mk hz1
 have HS1 := Aside0.mk (HSH.out.below hb1)
 obtain ⟨q0, q1, q2, q3, q4, q5, q6, q7, q8⟩ := rec_cells hx1
 have f0 := blk_frozen hz1 0
 have f1 := blk_frozen hz1 1
 have f2 := blk_frozen hz1 2
 have f3 := blk_frozen hz1 3
 have f4 := blk_frozen hz1 4
 have f5 := blk_frozen hz1 5
 have f6 := blk_frozen hz1 6
 have f7 := blk_frozen hz1 7
 have f8 := blk_frozen hz1 8
 obtain ⟨r0, r1, r2, r3, r4, r5, r6, r7, r8⟩ := rec_cells hz1
 clear hb1 HMI HYX HYZ HBY HWY HSH hx1 hz1
 rcases HTW.out with rfl | rfl
 ·obtain rfl := HME.out rfl
  clear HME HTW
  have HST := Aside0.mk (rstate_walk HS1.out tx)
  have HTV : Aside0 (tellV s tx = if (stateV s tx).1 = 1 then (2, 0) else if (stateV s tx).1 = 2 then (1, (stateV s tx).2) else (0, 0)) := ⟨rfl⟩
  have HTS := Aside0.mk (fun h => state_ts (s := s) (t := tx) h)
  generalize stateV s tx = st at *
  obtain ⟨sa, sb⟩ := st
  try simp only at HTV HST HTS
  go_wp2_with fail
  refine HST.out.mono ?_
  rintro e w4 ⟨rfl, hb4⟩
  have hx4 := blk_below HX1.out hb4
  have hz4 := blk_below HZ1.out hb4
  have HB4 : Aside0 (Below w.heap.size w w4) := ⟨HB1.out.trans (hb4.mono HB1.out.size)⟩
  have HZ4 := Aside0.mk hz4
  clear hb4 HST HX1 HZ1 HB1 HS1 q0 q1 q2 q3 q4 q5 q6 q7 q8 f0 f1 f2 f3 f4 f5 f6 f7 f8 r0 r1 r2 r3 r4 r5 r6 r7 r8
  obtain ⟨q0, q1, q2, q3, q4, q5, q6, q7, q8⟩ := rec_cells hx4
  have f0 := blk_frozen hz4 0
  have f1 := blk_frozen hz4 1
  have f2 := blk_frozen hz4 2
  have f3 := blk_frozen hz4 3
  have f4 := blk_frozen hz4 4
  have f5 := blk_frozen hz4 5
  have f6 := blk_frozen hz4 6
  have f7 := blk_frozen hz4 7
  have f8 := blk_frozen hz4 8
  obtain ⟨r0, r1, r2, r3, r4, r5, r6, r7, r8⟩ := rec_cells hz4
  clear hx4 hz4
  by_cases h1 : sa = 1
  ·rw [if_pos h1] at HTV
   subst h1
   obtain rfl := HTS.out (by decide)
   go_wp2_with fail
   obtain ⟨w6, hw6⟩ : ∃ w6, w6 = (((((((((w4.setCell ⟨w.heap.size + 1, 0, none⟩ (.int .i64 8)).setCell ⟨w.heap.size + 1, 1, none⟩ (.int .i64 tw)).setCell ⟨w.heap.size + 1, 2, none⟩ (.int .i64 fr)).setCell ⟨w.heap.size + 1, 3, none⟩ (.int .i64 tx)).setCell ⟨w.heap.size + 1, 4, none⟩ (.int .i64 0)).setCell ⟨w.heap.size + 1, 5, none⟩ (.int .i64 2)).setCell ⟨w.heap.size + 1, 6, none⟩ (.string ⟨#[]⟩)).setCell ⟨w.heap.size + 1, 7, none⟩ (.slice none 0 0)).setCell ⟨w.heap.size + 1, 8, none⟩ (.slice none 0 0)) := ⟨_, rfl⟩
   have hz : w6.heap[w.heap.size + 1]? = some (.cells #[.int .i64 8, .int .i64 tw, .int .i64 fr, .int .i64 tx, .int .i64 0, .int .i64 2, .string ⟨#[]⟩, .slice none 0 0, .slice none 0 0] 46 (0, 0)) := by rw [hw6]; exact put9_blk HZ4.out (.int .i64 8) (.int .i64 tw) (.int .i64 fr) (.int .i64 tx) (.int .i64 0) (.int .i64 2) (.string ⟨#[]⟩) (.slice none 0 0) (.slice none 0 0)
   have hzb : Below w.heap.size w w6 := by rw [hw6]; exact put9_below (HB4.out) (Nat.le_succ _) (.int .i64 8) (.int .i64 tw) (.int .i64 fr) (.int .i64 tx) (.int .i64 0) (.int .i64 2) (.string ⟨#[]⟩) (.slice none 0 0) (.slice none 0 0)
   rw [← hw6]
   clear hw6
   (try simp only [Exit.inBlock, Exit.then])
   refine bodyPost_ret (results_list (rs := [.cell 6 46, .tmp 7]) rfl (by simp) (Vals.cell (w.heap.size + 1) 46 _ (0, 0) _ rfl hz Try.underlying46 rfl (by kernel_rfl) (Vals.tmp Vals.nil))) rfl ?_
   exact ⟨by rw [HTV.out]; rfl, hzb⟩
  ·rw [if_neg h1] at HTV
   by_cases h2 : sa = 2
   ·rw [if_pos h2] at HTV
    subst h2
    go_wp2_with fail
    obtain ⟨w6, hw6⟩ : ∃ w6, w6 = (((((((((w4.setCell ⟨w.heap.size + 1, 0, none⟩ (.int .i64 8)).setCell ⟨w.heap.size + 1, 1, none⟩ (.int .i64 tw)).setCell ⟨w.heap.size + 1, 2, none⟩ (.int .i64 fr)).setCell ⟨w.heap.size + 1, 3, none⟩ (.int .i64 tx)).setCell ⟨w.heap.size + 1, 4, none⟩ (.int .i64 sb)).setCell ⟨w.heap.size + 1, 5, none⟩ (.int .i64 1)).setCell ⟨w.heap.size + 1, 6, none⟩ (.string ⟨#[]⟩)).setCell ⟨w.heap.size + 1, 7, none⟩ (.slice none 0 0)).setCell ⟨w.heap.size + 1, 8, none⟩ (.slice none 0 0)) := ⟨_, rfl⟩
    have hz : w6.heap[w.heap.size + 1]? = some (.cells #[.int .i64 8, .int .i64 tw, .int .i64 fr, .int .i64 tx, .int .i64 sb, .int .i64 1, .string ⟨#[]⟩, .slice none 0 0, .slice none 0 0] 46 (0, 0)) := by rw [hw6]; exact put9_blk HZ4.out (.int .i64 8) (.int .i64 tw) (.int .i64 fr) (.int .i64 tx) (.int .i64 sb) (.int .i64 1) (.string ⟨#[]⟩) (.slice none 0 0) (.slice none 0 0)
    have hzb : Below w.heap.size w w6 := by rw [hw6]; exact put9_below (HB4.out) (Nat.le_succ _) (.int .i64 8) (.int .i64 tw) (.int .i64 fr) (.int .i64 tx) (.int .i64 sb) (.int .i64 1) (.string ⟨#[]⟩) (.slice none 0 0) (.slice none 0 0)
    rw [← hw6]
    clear hw6
    (try simp only [Exit.inBlock, Exit.then])
    refine bodyPost_ret (results_list (rs := [.cell 6 46, .tmp 7]) rfl (by simp) (Vals.cell (w.heap.size + 1) 46 _ (0, 0) _ rfl hz Try.underlying46 rfl (by kernel_rfl) (Vals.tmp Vals.nil))) rfl ?_
    exact ⟨by rw [HTV.out]; rfl, hzb⟩
   ·rw [if_neg h2] at HTV
    obtain rfl := HTS.out h2
    have d1 : (sa == 1) = false := by simpa using h1
    have d2 : (sa == 2) = false := by simpa using h2
    clear h1 h2
    go_wp2_with fail
    obtain ⟨w6, hw6⟩ : ∃ w6, w6 = (((((((((w4.setCell ⟨w.heap.size + 1, 0, none⟩ (.int .i64 8)).setCell ⟨w.heap.size + 1, 1, none⟩ (.int .i64 tw)).setCell ⟨w.heap.size + 1, 2, none⟩ (.int .i64 fr)).setCell ⟨w.heap.size + 1, 3, none⟩ (.int .i64 tx)).setCell ⟨w.heap.size + 1, 4, none⟩ (.int .i64 0)).setCell ⟨w.heap.size + 1, 5, none⟩ (.int .i64 0)).setCell ⟨w.heap.size + 1, 6, none⟩ (.string ⟨#[]⟩)).setCell ⟨w.heap.size + 1, 7, none⟩ (.slice none 0 0)).setCell ⟨w.heap.size + 1, 8, none⟩ (.slice none 0 0)) := ⟨_, rfl⟩
    have hz : w6.heap[w.heap.size + 1]? = some (.cells #[.int .i64 8, .int .i64 tw, .int .i64 fr, .int .i64 tx, .int .i64 0, .int .i64 0, .string ⟨#[]⟩, .slice none 0 0, .slice none 0 0] 46 (0, 0)) := by rw [hw6]; exact put9_blk HZ4.out (.int .i64 8) (.int .i64 tw) (.int .i64 fr) (.int .i64 tx) (.int .i64 0) (.int .i64 0) (.string ⟨#[]⟩) (.slice none 0 0) (.slice none 0 0)
    have hzb : Below w.heap.size w w6 := by rw [hw6]; exact put9_below (HB4.out) (Nat.le_succ _) (.int .i64 8) (.int .i64 tw) (.int .i64 fr) (.int .i64 tx) (.int .i64 0) (.int .i64 0) (.string ⟨#[]⟩) (.slice none 0 0) (.slice none 0 0)
    rw [← hw6]
    clear hw6
    (try simp only [Exit.inBlock, Exit.then])
    refine bodyPost_ret (results_list (rs := [.cell 6 46, .tmp 7]) rfl (by simp) (Vals.cell (w.heap.size + 1) 46 _ (0, 0) _ rfl hz Try.underlying46 rfl (by kernel_rfl) (Vals.tmp Vals.nil))) rfl ?_
    exact ⟨by rw [HTV.out]; rfl, hzb⟩
 ·go_wp2_with fail
  obtain ⟨w6, hw6⟩ : ∃ w6, w6 = (((((((((w1.setCell ⟨w.heap.size + 1, 0, none⟩ (.int .i64 0)).setCell ⟨w.heap.size + 1, 1, none⟩ (.int .i64 0)).setCell ⟨w.heap.size + 1, 2, none⟩ (.int .i64 0)).setCell ⟨w.heap.size + 1, 3, none⟩ (.int .i64 0)).setCell ⟨w.heap.size + 1, 4, none⟩ (.int .i64 0)).setCell ⟨w.heap.size + 1, 5, none⟩ (.int .i64 0)).setCell ⟨w.heap.size + 1, 6, none⟩ (.string ⟨#[]⟩)).setCell ⟨w.heap.size + 1, 7, none⟩ (.slice none 0 0)).setCell ⟨w.heap.size + 1, 8, none⟩ (.slice none 0 0)) := ⟨_, rfl⟩
  have hz : w6.heap[w.heap.size + 1]? = some (.cells #[.int .i64 0, .int .i64 0, .int .i64 0, .int .i64 0, .int .i64 0, .int .i64 0, .string ⟨#[]⟩, .slice none 0 0, .slice none 0 0] 46 (0, 0)) := by rw [hw6]; exact put9_blk HZ1.out (.int .i64 0) (.int .i64 0) (.int .i64 0) (.int .i64 0) (.int .i64 0) (.int .i64 0) (.string ⟨#[]⟩) (.slice none 0 0) (.slice none 0 0)
  have hzb : Below w.heap.size w w6 := by rw [hw6]; exact put9_below (HB1.out) (Nat.le_succ _) (.int .i64 0) (.int .i64 0) (.int .i64 0) (.int .i64 0) (.int .i64 0) (.int .i64 0) (.string ⟨#[]⟩) (.slice none 0 0) (.slice none 0 0)
  rw [← hw6]
  clear hw6
  (try simp only [Exit.inBlock, Exit.then])
  refine bodyPost_ret (results_list (rs := [.cell 6 46, .tmp 7]) rfl (by simp) (Vals.cell (w.heap.size + 1) 46 _ (0, 0) _ rfl hz Try.underlying46 rfl (by kernel_rfl) (Vals.tmp Vals.nil))) rfl ?_
  exact ⟨rfl, hzb⟩
end Go.Proofs.Ytaldfbmjmpkmmaa.PL
