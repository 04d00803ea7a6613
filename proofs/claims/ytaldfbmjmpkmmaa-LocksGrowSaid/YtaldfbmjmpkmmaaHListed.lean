/- record.listed: letter.Check, walked for the one kind of letter that record.listed makes. -/
-- IMPORTS
-- END IMPORTS
import Derived.Test.YtaldfbmjmpkmmaaPL0
import Derived.Test.YtaldfbmjmpkmmaaPLf126
import Derived.Test.YtaldfbmjmpkmmaaPLf127
import Derived.Test.YtaldfbmjmpkmmaaPLf128
import Derived.Test.YtaldfbmjmpkmmaaHPure
import Derived.Test.YtaldfbmjmpkmmaaHOpen
namespace Go.Proofs.Ytaldfbmjmpkmmaa.PL
open Go.RowKit Go.Proofs.YtaldfbmjmpkmmaaW.PrintWords Go.Proofs.YtaldfbmjmpkmmaaW.PrintLast Go.Proofs.YtaldfbmjmpkmmaaW.PrintMore
attribute [local go_sem] Mk.str_leq Mk.str_gtr Mk.str_geq
set_option linter.unusedVariables false
set_option linter.unusedSimpArgs false
set_option maxRecDepth 100000 in
set_option maxHeartbeats 4000000 in
theorem check3 (w : World) (A7 : Option Addr) (c7 : Nat) (l7 : List ByteArray) (A8 : Option Addr) (c8 : Nat) (l8 : List S56) (hr7 : Kd.C Kd.string w A7 l7.length l7) (hc7 : l7.length ≤ c7) (hr8 : Kd.C k56 w A8 l8.length l8) (hc8 : l8.length ≤ c8) (h8 : l8.length < 8796093022208) :
 Calls Try.prog 93 #[.agg #[.int .i64 3, .int .i64 0, .int .i64 0, .int .i64 1, .int .i64 0, .int .i64 0, .string ⟨#[]⟩, .slice A7 l7.length c7, .slice A8 l8.length c8]] w fun e w' => e = .returned (.int .i64 (if listedB l7 l8 = true then 0 else 70)) ∧ Below w.heap.size w w' := by
 have h7m := Kd.C_max hr7
 have h8m := Kd.C_max hr8
 have HR7 := Aside0.mk (And.intro hr7 hc7)
 have HR8 := Aside0.mk (And.intro hr8 hc8)
 have HF7 := Aside0.mk (rising_f l7 h7m (l7.length + 1) (by omega))
 have HF8 := Aside0.mk (writes_f l8 h8 (l8.length + l8.length + 2) (by omega))
 have HL : Aside0 ((if listedB l7 l8 = true then (0 : Int) else 70) = if l7.length ≤ 16 then (if risingB l7 = true then (if writesB l8 = true then 0 else 70) else 70) else 70) := ⟨by
  unfold listedB
  by_cases h : l7.length ≤ 16 <;> cases risingB l7 <;> cases writesB l8 <;> simp [h]⟩
 generalize (if listedB l7 l8 = true then (0 : Int) else 70) = v at *
 clear hr7 hc7 hr8 hc8 h8
 generalize risingB l7 = b7 at *
 generalize writesB l8 = b8 at *
 have hu46 := Try.underlying46
 go_enter Try.func93, Try.ntmps93
 go_wp2_with fail
 have hbk := blk_new w (.cells #[.int .i64 3, .int .i64 0, .int .i64 0, .int .i64 1, .int .i64 0, .int .i64 0, .string (⟨#[]⟩ : ByteArray), .slice A7 l7.length c7, .slice A8 l8.length c8] 46)
 have hb0 := below_alloc (Below.refl _ w) (.cells #[.int .i64 3, .int .i64 0, .int .i64 0, .int .i64 1, .int .i64 0, .int .i64 0, .string (⟨#[]⟩ : ByteArray), .slice A7 l7.length c7, .slice A8 l8.length c8] 46)
 refine (letter_address.calls 0 true _ rfl).mono ?_
 rintro e w1 ⟨rfl, ⟨nd, rfl⟩⟩
 obtain ⟨w2, hw2⟩ : ∃ w2, w2 = (w.alloc (.cells #[.int .i64 3, .int .i64 0, .int .i64 0, .int .i64 1, .int .i64 0, .int .i64 0, .string (⟨#[]⟩ : ByteArray), .slice A7 l7.length c7, .slice A8 l8.length c8] 46)).drewN nd := ⟨_, rfl⟩
 rw [← hw2]
 have HB1 : Aside0 (Below w.heap.size w w2) := ⟨by rw [hw2]; exact pw_below_drewN hb0 _⟩
 have BK1 : Aside0 (w2.heap[w.heap.size]? = some (.cells #[.int .i64 3, .int .i64 0, .int .i64 0, .int .i64 1, .int .i64 0, .int .i64 0, .string (⟨#[]⟩ : ByteArray), .slice A7 l7.length c7, .slice A8 l8.length c8] 46)) := ⟨by rw [hw2]; exact blk_drewN hbk _⟩
 clear hw2 hbk hb0
 obtain ⟨p0, p1, p2, p3, p4, p5, p6, p7, p8⟩ := rec_cells BK1.out
 go_wp2_with fail
 refine (letter_address.calls 0 true _ rfl).mono ?_
 rintro e w3 ⟨rfl, ⟨nd, rfl⟩⟩
 obtain ⟨w4, hw4⟩ : ∃ w4, w4 = w2.drewN nd := ⟨_, rfl⟩
 rw [← hw4]
 have HB2 : Aside0 (Below w.heap.size w w4) := ⟨by rw [hw4]; exact pw_below_drewN HB1.out _⟩
 have BK2 : Aside0 (w4.heap[w.heap.size]? = some (.cells #[.int .i64 3, .int .i64 0, .int .i64 0, .int .i64 1, .int .i64 0, .int .i64 0, .string (⟨#[]⟩ : ByteArray), .slice A7 l7.length c7, .slice A8 l8.length c8] 46)) := ⟨by rw [hw4]; exact blk_drewN BK1.out _⟩
 clear hw4 p0 p1 p2 p3 p4 p5 p6 p7 p8 BK1 HB1
 obtain ⟨p0, p1, p2, p3, p4, p5, p6, p7, p8⟩ := rec_cells BK2.out
 go_wp2_with fail
 go_quiet (fail)
 by_cases h16 : l7.length ≤ 16
 ·go_wp2_with fail
  refine (letter_Rising.calls _ A7 c7 l7 b7 _ (Kd.C_below HR7.out.1 (pw_below_drewN HB2.out _)) HR7.out.2 HF7.out).mono ?_
  rintro e w5 ⟨rfl, ⟨nd, rfl⟩⟩
  rw [World.drewN_drewN]
  cases b7 with
  | true =>
   go_wp2_with fail
   refine (letter_writes.calls _ A8 c8 l8 b8 _ (Kd.C_below HR8.out.1 (pw_below_drewN HB2.out _)) HR8.out.2 HF8.out).mono ?_
   rintro e w8 ⟨rfl, hb8⟩
   have HB8 : Aside0 (Below w.heap.size w w8) := ⟨(pw_below_drewN HB2.out _).trans (hb8.mono (pw_below_drewN HB2.out _).size)⟩
   have BK8 := Aside0.mk (blk_below (blk_drewN BK2.out _) hb8)
   clear hb8 p0 p1 p2 p3 p4 p5 p6 p7 p8
   obtain ⟨p0, p1, p2, p3, p4, p5, p6, p7, p8⟩ := rec_cells BK8.out
   cases b8 <;> go_wp2 <;> go_ret <;> exact ⟨by rw [HL.out]; simp [h16], HB8.out⟩
  | false =>
   go_wp2_with fail
   refine (letter_writes.calls _ A8 c8 l8 b8 _ (Kd.C_below HR8.out.1 (pw_below_drewN HB2.out _)) HR8.out.2 HF8.out).mono ?_
   rintro e w8 ⟨rfl, hb8⟩
   have HB8 : Aside0 (Below w.heap.size w w8) := ⟨(pw_below_drewN HB2.out _).trans (hb8.mono (pw_below_drewN HB2.out _).size)⟩
   have BK8 := Aside0.mk (blk_below (blk_drewN BK2.out _) hb8)
   clear hb8 p0 p1 p2 p3 p4 p5 p6 p7 p8
   obtain ⟨p0, p1, p2, p3, p4, p5, p6, p7, p8⟩ := rec_cells BK8.out
   go_wp2
   go_ret
   exact ⟨by rw [HL.out]; simp [h16], HB8.out⟩
 ·go_wp2_with fail
  refine (letter_writes.calls _ A8 c8 l8 b8 _ (Kd.C_below HR8.out.1 (pw_below_drewN HB2.out _)) HR8.out.2 HF8.out).mono ?_
  rintro e w8 ⟨rfl, hb8⟩
  have HB8 : Aside0 (Below w.heap.size w w8) := ⟨(pw_below_drewN HB2.out _).trans (hb8.mono (pw_below_drewN HB2.out _).size)⟩
  have BK8 := Aside0.mk (blk_below (blk_drewN BK2.out _) hb8)
  clear hb8 p0 p1 p2 p3 p4 p5 p6 p7 p8
  obtain ⟨p0, p1, p2, p3, p4, p5, p6, p7, p8⟩ := rec_cells BK8.out
  go_wp2
  go_ret
  exact ⟨by rw [HL.out]; simp [h16], HB8.out⟩
def record_listed.f (k : Nat) (a0_0 : Int) (a0_1 : Int) (a0_2 : Int) (a0_3 : Int) (a0_4 : ByteArray) (a0_5 : ByteArray) (a0_6 : Bool) (l0_7 : List ByteArray) (l0_8 : List (S56)) : Option (Bool) := if l0_8.length < 8796093022208 then some (listedB l0_7 l0_8) else none
theorem listed_f (a0 a1 a2 a3 : Int) (a4 a5 : ByteArray) (a6 : Bool) (l7 : List ByteArray) (l8 : List S56) (h7 : l7.length ≤ 9223372036854775807) (h8 : l8.length < 8796093022208) (k : Nat) (hk : l7.length + l8.length + l8.length + 1 < k) :
 record_listed.f (k + 1) a0 a1 a2 a3 a4 a5 a6 l7 l8 = some (listedB l7 l8) := by
 unfold record_listed.f
 rw [if_pos h8]
set_option maxRecDepth 100000 in
set_option maxHeartbeats 2000000 in
theorem record_listed.calls (k : Nat) (a0_0 : Int) (a0_1 : Int) (a0_2 : Int) (a0_3 : Int) (a0_4 : ByteArray) (a0_5 : ByteArray) (a0_6 : Bool) (A0_7 : Option Addr) (c0_7 : Nat) (l0_7 : List ByteArray) (A0_8 : Option Addr) (c0_8 : Nat) (l0_8 : List (S56)) (r : Bool) (w : World) (hr0_7 : Kd.C Kd.string w A0_7 l0_7.length l0_7) (hc0_7 : l0_7.length ≤ c0_7) (hr0_8 : Kd.C k56 w A0_8 l0_8.length l0_8) (hc0_8 : l0_8.length ≤ c0_8) (h : record_listed.f k a0_0 a0_1 a0_2 a0_3 a0_4 a0_5 a0_6 l0_7 l0_8 = some r) :
 Calls Try.prog 74 #[.agg #[.int .i64 a0_0, .int .i64 a0_1, .int .i64 a0_2, .int .i64 a0_3, .string a0_4, .string a0_5, .bool a0_6, .slice A0_7 l0_7.length c0_7, .slice A0_8 l0_8.length c0_8]] w fun e w' => e = .returned (.bool r) ∧ Below w.heap.size w w' := by
 unfold record_listed.f at h
 split at h
 ·rename_i h8
  obtain rfl := Option.some.inj h
  have h7m := Kd.C_max hr0_7
  have h8m := Kd.C_max hr0_8
  have HR := Aside0.mk (And.intro hr0_7 (And.intro hc0_7 (And.intro hr0_8 (And.intro hc0_8 h8))))
  clear hr0_7 hc0_7 hr0_8 hc0_8 h8 h
  have hu35 := Try.underlying35
  have hu46 := Try.underlying46
  have HV : Aside0 (((if listedB l0_7 l0_8 = true then (0 : Int) else 70) == 0) = listedB l0_7 l0_8) := ⟨by cases listedB l0_7 l0_8 <;> rfl⟩
  have hb0 := below_alloc (below_alloc (Below.refl _ w) (.cells #[.int .i64 a0_0, .int .i64 a0_1, .int .i64 a0_2, .int .i64 a0_3, .string a0_4, .string a0_5, .bool a0_6, .slice A0_7 l0_7.length c0_7, .slice A0_8 l0_8.length c0_8] 35)) (.cells #[.int .i64 3, .int .i64 0, .int .i64 0, .int .i64 1, .int .i64 0, .int .i64 0, .string (⟨#[]⟩ : ByteArray), .slice A0_7 l0_7.length c0_7, .slice A0_8 l0_8.length c0_8] 46)
  have HK := Aside0.mk (check3 ((w.alloc (.cells #[.int .i64 a0_0, .int .i64 a0_1, .int .i64 a0_2, .int .i64 a0_3, .string a0_4, .string a0_5, .bool a0_6, .slice A0_7 l0_7.length c0_7, .slice A0_8 l0_8.length c0_8] 35)).alloc (.cells #[.int .i64 3, .int .i64 0, .int .i64 0, .int .i64 1, .int .i64 0, .int .i64 0, .string (⟨#[]⟩ : ByteArray), .slice A0_7 l0_7.length c0_7, .slice A0_8 l0_8.length c0_8] 46)) A0_7 c0_7 l0_7 A0_8 c0_8 l0_8 (Kd.C_below HR.out.1 hb0) HR.out.2.1 (Kd.C_below HR.out.2.2.1 hb0) HR.out.2.2.2.1 HR.out.2.2.2.2)
  have HB0 := Aside0.mk hb0
  clear hb0
  generalize (if listedB l0_7 l0_8 = true then (0 : Int) else 70) = v at *
  generalize listedB l0_7 l0_8 = r at *
  go_enter Try.func74, Try.ntmps74
  go_wp2_with fail
  refine HK.out.mono ?_
  rintro e w1 ⟨rfl, hb⟩
  have HB1 : Aside0 (Below w.heap.size w w1) := ⟨HB0.out.trans (hb.mono HB0.out.size)⟩
  clear hb
  go_wp2
  go_ret
  refine ⟨?_, HB1.out⟩
  show Ending.returned (.bool (v == 0)) = _
  rw [HV.out]
 ·cases h
end Go.Proofs.Ytaldfbmjmpkmmaa.PL
