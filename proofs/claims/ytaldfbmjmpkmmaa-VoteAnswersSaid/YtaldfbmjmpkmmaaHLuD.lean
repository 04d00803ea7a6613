/- SameTexts, SameWrites, SameLetter: equal lists and letters are told the same. -/
import Derived.Test.YtaldfbmjmpkmmaaHRfD
namespace Go.Proofs.Ytaldfbmjmpkmmaa.PL
open Go.RowKit Go.Proofs.YtaldfbmjmpkmmaaW.PrintWords Go.Proofs.YtaldfbmjmpkmmaaW.PrintLast Go.Proofs.YtaldfbmjmpkmmaaW.PrintMore
set_option linter.unusedVariables false
set_option linter.unusedSimpArgs false
set_option linter.unusedSectionVars false
theorem eqWr (d : Nat) (w : World) (x0 y0 : ByteArray) (x1 y1 : ByteArray) (x2 y2 : Bool) :
 (Op.equalIn (d + 2) 56 (.agg #[.string x0, .string x1, .bool x2]) (.agg #[.string y0, .string y1, .bool y2])).run Try.prog w = .ok (x0.toList == y0.toList && (x1.toList == y1.toList && (x2 == y2))) w := by
 refine eqA_of Try.underlying56 (by kernel_rfl) ?_
 refine eqf_cons (by rfl) (by go_simp; rfl) (by go_simp; rfl) (by go_simp) ?_
 refine eqf_cons (by rfl) (by go_simp; rfl) (by go_simp; rfl) (by go_simp) ?_
 exact eqf_last (by rfl) (by go_simp; rfl) (by go_simp; rfl) (by go_simp)
attribute [local go_sem high] eqWr
set_option maxRecDepth 100000 in
set_option maxHeartbeats 4000000 in
theorem sameTexts_eq (w : World) (A B : Option Addr) (c d : Nat) (l : List ByteArray) (ha : Kd.C Kd.string w A l.length l) (hb : Kd.C Kd.string w B l.length l) :
 Calls Try.prog 52 #[.slice A l.length c, .slice B l.length d] w fun e w' => e = .returned (.bool true) ∧ Below w.heap.size w w' := by
 have HA := Aside0.mk ha
 have HB := Aside0.mk hb
 have hm := Kd.C_max ha
 have hu := Try.underlying56
 clear ha hb
 go_enter Try.func52, Try.ntmps52
 go_wp2_with fail
 go_loopw [5] (fun v wz => ∃ k : Nat, k ≤ l.length ∧ v = .int .i64 (k : Int) ∧ Aside0 (Below w.heap.size w wz)) (fun i _ => l.length - (intOf i).toNat)
 case atStart => exact ⟨0, Nat.zero_le _, rfl, ⟨Below.refl _ _⟩⟩
 case round =>
  obtain ⟨k, hk, rfl, HW⟩ := hrel
  by_cases hlt : k < l.length
  ·obtain ⟨ad, rfl, z0⟩ := strK_at (Kd.C_below HA.out HW.out) k hlt
   obtain ⟨bd, rfl, y0⟩ := strK_at (Kd.C_below HB.out HW.out) k hlt
   generalize l[k] = x at z0 y0
   have d1 : (x.toList == x.toList) = true := by simp
   have d2 : (x.toList != x.toList) = false := by simp
   go_wp2_with fail
   go_quiet (fail)
   all_goals (try go_wp2_with fail)
   go_roundw
   case rel => exact ⟨k + 1, by omega, by go_num, ⟨pw_below_drewN HW.out _⟩⟩
   case measure => simp [intOf]; omega
  ·obtain rfl : k = l.length := by omega
   go_wp2_with fail
   go_ret
   exact ⟨rfl, HW.out⟩
set_option maxRecDepth 100000 in
set_option maxHeartbeats 4000000 in
theorem sameWrites_eq (w : World) (A B : Option Addr) (c d : Nat) (l : List Wr) (ha : Kd.C k56 w A l.length l) (hb : Kd.C k56 w B l.length l) :
 Calls Try.prog 53 #[.slice A l.length c, .slice B l.length d] w fun e w' => e = .returned (.bool true) ∧ Below w.heap.size w w' := by
 have HA := Aside0.mk ha
 have HB := Aside0.mk hb
 have hm := Kd.C_max ha
 have hu := Try.underlying56
 clear ha hb
 go_enter Try.func53, Try.ntmps53
 go_wp2_with fail
 go_loopw [5] (fun v wz => ∃ k : Nat, k ≤ l.length ∧ v = .int .i64 (k : Int) ∧ Aside0 (Below w.heap.size w wz)) (fun i _ => l.length - (intOf i).toNat)
 case atStart => exact ⟨0, Nat.zero_le _, rfl, ⟨Below.refl _ _⟩⟩
 case round =>
  obtain ⟨k, hk, rfl, HW⟩ := hrel
  by_cases hlt : k < l.length
  ·obtain ⟨ad, rfl, z0, z1, z2⟩ := wrK_at (Kd.C_below HA.out HW.out) k hlt
   obtain ⟨bd, rfl, y0, y1, y2⟩ := wrK_at (Kd.C_below HB.out HW.out) k hlt
   generalize l[k] = x at z0 y0 z1 y1 z2 y2
   obtain ⟨x0, x1, x2⟩ := x
   simp only at z0 z1 z2 y0 y1 y2
   have d1 : (x0.toList == x0.toList) = true := by simp
   have d2 : (x1.toList == x1.toList) = true := by simp
   have d3 : (x2 == x2) = true := by simp
   go_wp2_with fail
   go_quiet (fail)
   all_goals (try go_wp2_with fail)
   go_roundw
   case rel => exact ⟨k + 1, by omega, by go_num, ⟨pw_below_drewN HW.out _⟩⟩
   case measure => simp [intOf]; omega
  ·obtain rfl : k = l.length := by omega
   go_wp2_with fail
   go_ret
   exact ⟨rfl, HW.out⟩
set_option maxRecDepth 100000 in
set_option maxHeartbeats 8000000 in
theorem sameLet_eq (w : World) (k fr tw tx ts cd : Int) (text : ByteArray) (A7 B7 : Option Addr) (c7 d7 : Nat) (l7 : List ByteArray) (A8 B8 : Option Addr) (c8 d8 : Nat) (l8 : List S56) (h7 : Kd.C Kd.string w A7 l7.length l7) (g7 : Kd.C Kd.string w B7 l7.length l7) (h8 : Kd.C k56 w A8 l8.length l8) (g8 : Kd.C k56 w B8 l8.length l8) :
 Calls Try.prog 23 #[.agg #[.int .i64 k, .int .i64 fr, .int .i64 tw, .int .i64 tx, .int .i64 ts, .int .i64 cd, .string text, .slice A7 l7.length c7, .slice A8 l8.length c8], .agg #[.int .i64 k, .int .i64 fr, .int .i64 tw, .int .i64 tx, .int .i64 ts, .int .i64 cd, .string text, .slice B7 l7.length d7, .slice B8 l8.length d8]] w fun e w' => e = .returned (.bool true) ∧ Below w.heap.size w w' := by
 obtain ⟨wy, hwy⟩ : ∃ wy, wy = ((w.alloc (.cells #[.int .i64 k, .int .i64 fr, .int .i64 tw, .int .i64 tx, .int .i64 ts, .int .i64 cd, .string text, .slice A7 l7.length c7, .slice A8 l8.length c8] 46)).alloc (.cells #[.int .i64 k, .int .i64 fr, .int .i64 tw, .int .i64 tx, .int .i64 ts, .int .i64 cd, .string text, .slice B7 l7.length d7, .slice B8 l8.length d8] 46)) := ⟨_, rfl⟩
 have hby : Below w.heap.size w wy := by rw [hwy]; exact below_alloc (below_alloc (Below.refl _ _) _) _
 have hyx : wy.heap[w.heap.size]? = some (.cells #[.int .i64 k, .int .i64 fr, .int .i64 tw, .int .i64 tx, .int .i64 ts, .int .i64 cd, .string text, .slice A7 l7.length c7, .slice A8 l8.length c8] 46 (0, 0)) := by rw [hwy]; exact blk_alloc (blk_new _ _) _
 have hyz : wy.heap[w.heap.size + 1]? = some (.cells #[.int .i64 k, .int .i64 fr, .int .i64 tw, .int .i64 tx, .int .i64 ts, .int .i64 cd, .string text, .slice B7 l7.length d7, .slice B8 l8.length d8] 46 (0, 0)) := by
  rw [hwy]
  have h := blk_new (w.alloc (.cells #[.int .i64 k, .int .i64 fr, .int .i64 tw, .int .i64 tx, .int .i64 ts, .int .i64 cd, .string text, .slice A7 l7.length c7, .slice A8 l8.length c8] 46)) (.cells #[.int .i64 k, .int .i64 fr, .int .i64 tw, .int .i64 tx, .int .i64 ts, .int .i64 cd, .string text, .slice B7 l7.length d7, .slice B8 l8.length d8] 46)
  rwa [show (w.alloc (.cells #[.int .i64 k, .int .i64 fr, .int .i64 tw, .int .i64 tx, .int .i64 ts, .int .i64 cd, .string text, .slice A7 l7.length c7, .slice A8 l8.length c8] 46)).heap.size = w.heap.size + 1 by simp] at h
 have HWY := Aside0.mk hwy
 have HT := Aside0.mk (sameTexts_eq wy A7 B7 c7 d7 l7 (Kd.C_below h7 hby) (Kd.C_below g7 hby))
 have HR8 := Aside0.mk (Kd.C_below h8 hby)
 have HS8 := Aside0.mk (Kd.C_below g8 hby)
 have HBY := Aside0.mk hby
 have HX := Aside0.mk hyx
 have HZ := Aside0.mk hyz
 have h7m := Kd.C_max h7
 have h8m := Kd.C_max h8
 have d1 : (text.toList == text.toList) = true := by simp
 obtain ⟨q0, q1, q2, q3, q4, q5, q6, q7, q8⟩ := rec_cells hyx
 obtain ⟨r0, r1, r2, r3, r4, r5, r6, r7, r8⟩ := rec_cells hyz
 rw [hwy] at q0 q1 q2 q3 q4 q5 q6 q7 q8 r0 r1 r2 r3 r4 r5 r6 r7 r8
 clear h7 g7 h8 g8 hwy hby hyx hyz
 go_enter Try.func23, Try.ntmps23
 go_wp2_with fail
 rw [← HWY.out]
 refine HT.out.mono ?_
 rintro e w1 ⟨rfl, hb1⟩
 have HB1 : Aside0 (Below w.heap.size w w1) := ⟨HBY.out.trans (hb1.mono HBY.out.size)⟩
 have HW := Aside0.mk (sameWrites_eq w1 A8 B8 c8 d8 l8 (Kd.C_below HR8.out hb1) (Kd.C_below HS8.out hb1))
 have hx1 := blk_below HX.out hb1
 have hz1 := blk_below HZ.out hb1
 clear q0 q1 q2 q3 q4 q5 q6 q7 q8 r0 r1 r2 r3 r4 r5 r6 r7 r8 HX HZ HT HWY HBY HR8 HS8 hb1
 obtain ⟨q0, q1, q2, q3, q4, q5, q6, q7, q8⟩ := rec_cells hx1
 obtain ⟨r0, r1, r2, r3, r4, r5, r6, r7, r8⟩ := rec_cells hz1
 clear hx1 hz1
 go_wp2_with fail
 refine HW.out.mono ?_
 rintro e w2 ⟨rfl, hb2⟩
 have HB2 : Aside0 (Below w.heap.size w w2) := ⟨HB1.out.trans (hb2.mono HB1.out.size)⟩
 clear HW hb2
 go_wp2_with fail
 go_ret
 exact ⟨rfl, HB2.out⟩
end Go.Proofs.Ytaldfbmjmpkmmaa.PL
