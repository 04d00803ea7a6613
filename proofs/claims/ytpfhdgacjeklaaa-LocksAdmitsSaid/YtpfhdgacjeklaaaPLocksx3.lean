-- WRITTEN BY A PROGRAM (mk.py of this session, over the kit's print.py, some functions given by hand). Lean checks it.
import Derived.Test.YtpfhdgacjeklaaaPLocksx0
import Derived.Test.YtpfhdgacjeklaaaPLocksx2
namespace Go.Proofs.Ytpfhdgacjeklaaa.PLocks
open Go.RowKit Go.Proofs.YtpfhdgacjeklaaaW.PrintWords Go.Proofs.YtpfhdgacjeklaaaW.PrintLast Go.Proofs.YtpfhdgacjeklaaaW.PrintMore
attribute [local go_sem] Mk.str_leq Mk.str_gtr Mk.str_geq max2_int min2_int max_two min_two max_three min_three max_four min_four   -- for this text's walks alone
set_option linter.unusedVariables false
set_option linter.unusedSimpArgs false

/-! ### letter_Check: function 100 -/
def letter_Check.j0 : Nat → Bool → Int → Int → Int → Int → Int → Int → ByteArray → List ByteArray → List (S62) → Option (Int)
 | 0, _, _, _, _, _, _, _, _, _, _ => none
 | k + 1, x41, x114000, x114001, x114002, x114003, x114004, x114005, x114006, x114007, x114008 => if x41 = true then (some 70) else (if x114000 = 2 then (if (x114006.size : Int) ≤ 2052 then (if x114006.toList = ([] : List UInt8) then (if (x114007.length : Int) = 1 then (if 0 < (x114007.length : Int) then ((letter_Key.f (rdOf ByteArray.empty x114007 0)).bind fun t117 => (if x114005 > 4 then (some 70) else (if t117 = true then (if (x114008.length : Int) = 0 then (some 0) else (some 70)) else (some 70)))) else (none)) else (if x114005 > 4 then (some 70) else (some 70))) else (if (x114007.length : Int) = 1 then (if 0 < (x114007.length : Int) then ((letter_Key.f (rdOf ByteArray.empty x114007 0)).bind fun t119 => (if x114005 > 4 then (some 70) else (if t119 = true then (if (x114008.length : Int) = 0 then (if x114005 = 1 then (some 0) else (some 70)) else (some 70)) else (some 70)))) else (none)) else (if x114005 > 4 then (some 70) else (some 70)))) else (if (x114007.length : Int) = 1 then (if 0 < (x114007.length : Int) then ((letter_Key.f (rdOf ByteArray.empty x114007 0)).bind fun t121 => (if x114005 > 4 then (some 70) else (if t121 = true then (if (x114008.length : Int) = 0 then (some 70) else (some 70)) else (some 70)))) else (none)) else (if x114005 > 4 then (some 70) else (some 70)))) else (if x114000 = 1 then (if (x114007.length : Int) = 1 then (if 0 < (x114007.length : Int) then ((letter_Key.f (rdOf ByteArray.empty x114007 0)).bind fun t123 => (if x114005 > 0 then (some 70) else (if t123 = true then (if (x114008.length : Int) = 0 then (if x114006.toList = ([] : List UInt8) then (some 0) else (some 70)) else (some 70)) else (some 70)))) else (none)) else (if x114005 > 0 then (some 70) else (some 70))) else (if x114000 = 3 then (if (x114007.length : Int) ≤ 16 then ((letter_Rising.f k x114007).bind fun t124 => ((letter_writes.f k x114008).bind fun t125 => (if x114005 > 0 then (some 70) else (if t124 = true then (if t125 = true then (if x114006.toList = ([] : List UInt8) then (some 0) else (some 70)) else (some 70)) else (some 70))))) else ((letter_writes.f k x114008).bind fun t126 => (if x114005 > 0 then (some 70) else (some 70)))) else (if x114000 = 8 then (if x114005 > 2 then (some 70) else (if (x114007.length : Int) = 0 then (if (x114008.length : Int) = 0 then (if x114006.toList = ([] : List UInt8) then (some 0) else (some 70)) else (some 70)) else (some 70))) else (if x114000 = 4 then (if x114005 > 1 then (some 70) else (if (x114007.length : Int) = 0 then (if (x114008.length : Int) = 0 then (if x114006.toList = ([] : List UInt8) then (some 0) else (some 70)) else (some 70)) else (some 70))) else (if x114000 = 5 then (if x114005 > 0 then (some 70) else (if (x114007.length : Int) = 0 then (if (x114008.length : Int) = 0 then (if x114006.toList = ([] : List UInt8) then (some 0) else (some 70)) else (some 70)) else (some 70))) else (if x114000 = 6 then (if x114005 > 0 then (some 70) else (if (x114007.length : Int) = 0 then (if (x114008.length : Int) = 0 then (if x114006.toList = ([] : List UInt8) then (some 0) else (some 70)) else (some 70)) else (some 70))) else (if x114000 = 7 then (if x114005 > 0 then (some 70) else (if (x114007.length : Int) = 0 then (if (x114008.length : Int) = 0 then (if x114006.toList = ([] : List UInt8) then (some 0) else (some 70)) else (some 70)) else (some 70))) else (some 70)))))))))
def letter_Check.f (k : Nat) (a0_0 : Int) (a0_1 : Int) (a0_2 : Int) (a0_3 : Int) (a0_4 : Int) (a0_5 : Int) (a0_6 : ByteArray) (l0_7 : List ByteArray) (l0_8 : List (S62)) : Option (Int) := (letter_address.f a0_1).bind fun t114 => (if t114 = true then ((letter_address.f a0_2).bind fun t115 => (if t115 = true then (if a0_3 < 1 then (letter_Check.j0 k true a0_0 a0_1 a0_2 a0_3 a0_4 a0_5 a0_6 l0_7 l0_8) else (if a0_3 > 1125899906842623 then (letter_Check.j0 k true a0_0 a0_1 a0_2 a0_3 a0_4 a0_5 a0_6 l0_7 l0_8) else (if a0_4 < 0 then (letter_Check.j0 k true a0_0 a0_1 a0_2 a0_3 a0_4 a0_5 a0_6 l0_7 l0_8) else (if a0_4 > 1125899906842624 then (letter_Check.j0 k true a0_0 a0_1 a0_2 a0_3 a0_4 a0_5 a0_6 l0_7 l0_8) else (letter_Check.j0 k (decide (a0_5 < 0)) a0_0 a0_1 a0_2 a0_3 a0_4 a0_5 a0_6 l0_7 l0_8))))) else (letter_Check.j0 k true a0_0 a0_1 a0_2 a0_3 a0_4 a0_5 a0_6 l0_7 l0_8))) else (letter_Check.j0 k true a0_0 a0_1 a0_2 a0_3 a0_4 a0_5 a0_6 l0_7 l0_8))
theorem letter_Check.mono_l : ∀ k, (∀ y0 y1 y2 y3 y4 y5 y6 y7 y8 y9, LeO (letter_Check.j0 k y0 y1 y2 y3 y4 y5 y6 y7 y8 y9) (letter_Check.j0 (k + 1) y0 y1 y2 y3 y4 y5 y6 y7 y8 y9))
 | 0 => fun _ _ _ _ _ _ _ _ _ _ r h => by simp [letter_Check.j0] at h
 | k + 1 => by
  have ih0 := letter_Check.mono_l k
  ·intro y0 y1 y2 y3 y4 y5 y6 y7 y8 y9
   unfold letter_Check.j0
   repeat' first
   | (with_reducible exact ih0 _ _ _ _ _ _ _ _ _ _)
   | (with_reducible exact letter_Rising.mono _ _)
   | (with_reducible exact letter_writes.mono _ _)
   | (with_reducible exact LeO.refl _)
   | (with_reducible exact LeO.none _)
   | (with_reducible refine LeO.ite ?_ ?_)
   | (with_reducible refine LeO.bind ?_ (fun _ => ?_))
   | exact ih0 _ _ _ _ _ _ _ _ _ _
   | exact letter_Rising.mono _ _
   | exact letter_writes.mono _ _
   | exact LeO.none _
   | refine LeO.ite ?_ ?_
   | refine LeO.bind ?_ (fun _ => ?_)
theorem letter_Check.mono : ∀ a0 a1 a2 a3 a4 a5 a6 a7 a8 k, LeO (letter_Check.f k a0 a1 a2 a3 a4 a5 a6 a7 a8) (letter_Check.f (k + 1) a0 a1 a2 a3 a4 a5 a6 a7 a8) := by
 intro a0 a1 a2 a3 a4 a5 a6 a7 a8 k
 have ih0 := letter_Check.mono_l k
 unfold letter_Check.f
 repeat' first
   | (with_reducible exact ih0 _ _ _ _ _ _ _ _ _ _)
   | (with_reducible exact letter_Rising.mono _ _)
   | (with_reducible exact letter_writes.mono _ _)
   | (with_reducible exact LeO.refl _)
   | (with_reducible exact LeO.none _)
   | (with_reducible refine LeO.ite ?_ ?_)
   | (with_reducible refine LeO.bind ?_ (fun _ => ?_))
   | exact ih0 _ _ _ _ _ _ _ _ _ _
   | exact letter_Rising.mono _ _
   | exact letter_writes.mono _ _
   | exact LeO.none _
   | refine LeO.ite ?_ ?_
   | refine LeO.bind ?_ (fun _ => ?_)
set_option maxHeartbeats 8000000 in
set_option maxRecDepth 100000 in
theorem letter_Check.calls (k : Nat) (a0_0 : Int) (a0_1 : Int) (a0_2 : Int) (a0_3 : Int) (a0_4 : Int) (a0_5 : Int) (a0_6 : ByteArray) (A0_7 : Option Addr) (c0_7 : Nat) (l0_7 : List ByteArray) (A0_8 : Option Addr) (c0_8 : Nat) (l0_8 : List (S62)) (r : Int) (w : World) (hr0_7 : Kd.C Kd.string w A0_7 l0_7.length l0_7) (hc0_7 : l0_7.length ≤ c0_7) (hr0_8 : Kd.C k62 w A0_8 l0_8.length l0_8) (hc0_8 : l0_8.length ≤ c0_8) (h : letter_Check.f k a0_0 a0_1 a0_2 a0_3 a0_4 a0_5 a0_6 l0_7 l0_8 = some r) :
  Calls Try.prog 100 #[.agg #[.int .i64 a0_0, .int .i64 a0_1, .int .i64 a0_2, .int .i64 a0_3, .int .i64 a0_4, .int .i64 a0_5, .string a0_6, .slice A0_7 l0_7.length c0_7, .slice A0_8 l0_8.length c0_8]] w fun e w' => e = .returned (.int .i64 r) ∧ Below w.heap.size w w' := by
 have hu138 := Try.underlying138
 have HR0_7 := Aside0.mk hr0_7
 have HC0_7 := Aside0.mk hc0_7
 clear hr0_7 hc0_7
 have HR0_8 := Aside0.mk hr0_8
 have HC0_8 := Aside0.mk hc0_8
 clear hr0_8 hc0_8
 have HB := Aside0.mk (Below.refl w.heap.size w)
 have H : ((letter_address.f a0_1).bind fun t114 => (if t114 = true then ((letter_address.f a0_2).bind fun t115 => (if t115 = true then (if a0_3 < 1 then (letter_Check.j0 k true a0_0 a0_1 a0_2 a0_3 a0_4 a0_5 a0_6 l0_7 l0_8) else (if a0_3 > 1125899906842623 then (letter_Check.j0 k true a0_0 a0_1 a0_2 a0_3 a0_4 a0_5 a0_6 l0_7 l0_8) else (if a0_4 < 0 then (letter_Check.j0 k true a0_0 a0_1 a0_2 a0_3 a0_4 a0_5 a0_6 l0_7 l0_8) else (if a0_4 > 1125899906842624 then (letter_Check.j0 k true a0_0 a0_1 a0_2 a0_3 a0_4 a0_5 a0_6 l0_7 l0_8) else (letter_Check.j0 k (decide (a0_5 < 0)) a0_0 a0_1 a0_2 a0_3 a0_4 a0_5 a0_6 l0_7 l0_8))))) else (letter_Check.j0 k true a0_0 a0_1 a0_2 a0_3 a0_4 a0_5 a0_6 l0_7 l0_8))) else (letter_Check.j0 k true a0_0 a0_1 a0_2 a0_3 a0_4 a0_5 a0_6 l0_7 l0_8))) = some r := h
 clear h
 have HC2 := Aside0.mk H
 clear H
 go_enter Try.func100, Try.ntmps100
 go_upto_region 1 with (first | ((with_reducible refine gate_dst (N := 1) rfl ?_); refine box_event ?hg (N := 1) ?hd (cs := #[.int .i64 a0_0, .int .i64 a0_1, .int .i64 a0_2, .int .i64 a0_3, .int .i64 a0_4, .int .i64 a0_5, .string a0_6, .slice A0_7 l0_7.length c0_7, .slice A0_8 l0_8.length c0_8]) (t := 138) ?hr ?_; (case hd => rfl); (case hg => rfl); (case hr => first | (go_simp; done) | (go_simp; rfl)); intro gb113 hg w3 hbox hb; have n0_ := Aside0.mk (below_step (by repeat (first | (with_reducible first | exact HB.out | apply below_alloc | apply pw_below_drewN | apply below_drew1) | exact HB.out)) hb); have n1_ := Aside0.mk (hbox); have n2_ := Aside0.mk ((by rw [hg]; exact (below_size (by repeat (first | (with_reducible first | exact HB.out | apply below_alloc | apply pw_below_drewN | apply below_drew1) | exact HB.out))) : w.heap.size ≤ gb113)); have n3_ := Aside0.mk ((by rw [hg]; exact (below_size (by repeat (first | (with_reducible first | exact HB.out | apply below_alloc | apply pw_below_drewN | apply below_drew1) | exact HB.out))) : w.heap.size ≤ gb113)); clear HB; have HB := n0_; have BK113 := n1_; have GW113 := n2_; have GE113 := n3_; clear n0_ n1_ n2_ n3_; clear hb hbox hg))
 repeat (go_quiet (first | ((with_reducible refine gate_dst (N := 1) rfl ?_); refine box_event ?hg (N := 1) ?hd (cs := #[.int .i64 a0_0, .int .i64 a0_1, .int .i64 a0_2, .int .i64 a0_3, .int .i64 a0_4, .int .i64 a0_5, .string a0_6, .slice A0_7 l0_7.length c0_7, .slice A0_8 l0_8.length c0_8]) (t := 138) ?hr ?_; (case hd => rfl); (case hg => rfl); (case hr => first | (go_simp; done) | (go_simp; rfl)); intro gb113 hg w3 hbox hb; have n0_ := Aside0.mk (below_step (by repeat (first | (with_reducible first | exact HB.out | apply below_alloc | apply pw_below_drewN | apply below_drew1) | exact HB.out)) hb); have n1_ := Aside0.mk (hbox); have n2_ := Aside0.mk ((by rw [hg]; exact (below_size (by repeat (first | (with_reducible first | exact HB.out | apply below_alloc | apply pw_below_drewN | apply below_drew1) | exact HB.out))) : w.heap.size ≤ gb113)); have n3_ := Aside0.mk ((by rw [hg]; exact (below_size (by repeat (first | (with_reducible first | exact HB.out | apply below_alloc | apply pw_below_drewN | apply below_drew1) | exact HB.out))) : w.heap.size ≤ gb113)); clear HB; have HB := n0_; have BK113 := n1_; have GW113 := n2_; have GE113 := n3_; clear n0_ n1_ n2_ n3_; clear hb hbox hg)); go_upto_region 1 with (first | ((with_reducible refine gate_dst (N := 1) rfl ?_); refine box_event ?hg (N := 1) ?hd (cs := #[.int .i64 a0_0, .int .i64 a0_1, .int .i64 a0_2, .int .i64 a0_3, .int .i64 a0_4, .int .i64 a0_5, .string a0_6, .slice A0_7 l0_7.length c0_7, .slice A0_8 l0_8.length c0_8]) (t := 138) ?hr ?_; (case hd => rfl); (case hg => rfl); (case hr => first | (go_simp; done) | (go_simp; rfl)); intro gb113 hg w3 hbox hb; have n0_ := Aside0.mk (below_step (by repeat (first | (with_reducible first | exact HB.out | apply below_alloc | apply pw_below_drewN | apply below_drew1) | exact HB.out)) hb); have n1_ := Aside0.mk (hbox); have n2_ := Aside0.mk ((by rw [hg]; exact (below_size (by repeat (first | (with_reducible first | exact HB.out | apply below_alloc | apply pw_below_drewN | apply below_drew1) | exact HB.out))) : w.heap.size ≤ gb113)); have n3_ := Aside0.mk ((by rw [hg]; exact (below_size (by repeat (first | (with_reducible first | exact HB.out | apply below_alloc | apply pw_below_drewN | apply below_drew1) | exact HB.out))) : w.heap.size ≤ gb113)); clear HB; have HB := n0_; have BK113 := n1_; have GW113 := n2_; have GE113 := n3_; clear n0_ n1_ n2_ n3_; clear hb hbox hg)))
 (try simp only [Act.put, List.setIfInBounds_toArray, List.set_cons_zero, List.set_cons_succ])
 go_cut [41] (fun v41 wc => ∃ (kq : Nat) (x41_1 : Bool), v41 = .bool x41_1 ∧ Aside0 (letter_Check.j0 kq x41_1 a0_0 a0_1 a0_2 a0_3 a0_4 a0_5 a0_6 l0_7 l0_8 = some r) ∧ Aside0 (kq ≤ k) ∧ Aside0 (wc.heap[gb113]? = some (.cells #[.int .i64 a0_0, .int .i64 a0_1, .int .i64 a0_2, .int .i64 a0_3, .int .i64 a0_4, .int .i64 a0_5, .string a0_6, (.slice A0_7 l0_7.length c0_7), (.slice A0_8 l0_8.length c0_8)] 138 (0, 0))) ∧ Aside0 (Below w.heap.size w wc))
 case first =>
  have H := HC2.out
  clear HC2
  replace H := Option.bind_eq_some_iff.mp H
  obtain ⟨t114, A40, H⟩ := H
  replace H : (if t114 = true then ((letter_address.f a0_2).bind fun t115 => (if t115 = true then (if a0_3 < 1 then (letter_Check.j0 k true a0_0 a0_1 a0_2 a0_3 a0_4 a0_5 a0_6 l0_7 l0_8) else (if a0_3 > 1125899906842623 then (letter_Check.j0 k true a0_0 a0_1 a0_2 a0_3 a0_4 a0_5 a0_6 l0_7 l0_8) else (if a0_4 < 0 then (letter_Check.j0 k true a0_0 a0_1 a0_2 a0_3 a0_4 a0_5 a0_6 l0_7 l0_8) else (if a0_4 > 1125899906842624 then (letter_Check.j0 k true a0_0 a0_1 a0_2 a0_3 a0_4 a0_5 a0_6 l0_7 l0_8) else (letter_Check.j0 k (decide (a0_5 < 0)) a0_0 a0_1 a0_2 a0_3 a0_4 a0_5 a0_6 l0_7 l0_8))))) else (letter_Check.j0 k true a0_0 a0_1 a0_2 a0_3 a0_4 a0_5 a0_6 l0_7 l0_8))) else (letter_Check.j0 k true a0_0 a0_1 a0_2 a0_3 a0_4 a0_5 a0_6 l0_7 l0_8)) = some r := H
  have A4 := Aside0.mk A40
  clear A40
  by_cases c5 : t114 = true
  ·subst c5
   have H1 : ((letter_address.f a0_2).bind fun t115 => (if t115 = true then (if a0_3 < 1 then (letter_Check.j0 k true a0_0 a0_1 a0_2 a0_3 a0_4 a0_5 a0_6 l0_7 l0_8) else (if a0_3 > 1125899906842623 then (letter_Check.j0 k true a0_0 a0_1 a0_2 a0_3 a0_4 a0_5 a0_6 l0_7 l0_8) else (if a0_4 < 0 then (letter_Check.j0 k true a0_0 a0_1 a0_2 a0_3 a0_4 a0_5 a0_6 l0_7 l0_8) else (if a0_4 > 1125899906842624 then (letter_Check.j0 k true a0_0 a0_1 a0_2 a0_3 a0_4 a0_5 a0_6 l0_7 l0_8) else (letter_Check.j0 k (decide (a0_5 < 0)) a0_0 a0_1 a0_2 a0_3 a0_4 a0_5 a0_6 l0_7 l0_8))))) else (letter_Check.j0 k true a0_0 a0_1 a0_2 a0_3 a0_4 a0_5 a0_6 l0_7 l0_8))) = some r := by rw [if_pos rfl] at H; exact H
   clear H
   have H := H1
   clear H1
   replace H := Option.bind_eq_some_iff.mp H
   obtain ⟨t115, A60, H⟩ := H
   replace H : (if t115 = true then (if a0_3 < 1 then (letter_Check.j0 k true a0_0 a0_1 a0_2 a0_3 a0_4 a0_5 a0_6 l0_7 l0_8) else (if a0_3 > 1125899906842623 then (letter_Check.j0 k true a0_0 a0_1 a0_2 a0_3 a0_4 a0_5 a0_6 l0_7 l0_8) else (if a0_4 < 0 then (letter_Check.j0 k true a0_0 a0_1 a0_2 a0_3 a0_4 a0_5 a0_6 l0_7 l0_8) else (if a0_4 > 1125899906842624 then (letter_Check.j0 k true a0_0 a0_1 a0_2 a0_3 a0_4 a0_5 a0_6 l0_7 l0_8) else (letter_Check.j0 k (decide (a0_5 < 0)) a0_0 a0_1 a0_2 a0_3 a0_4 a0_5 a0_6 l0_7 l0_8))))) else (letter_Check.j0 k true a0_0 a0_1 a0_2 a0_3 a0_4 a0_5 a0_6 l0_7 l0_8)) = some r := H
   have A6 := Aside0.mk A60
   clear A60
   by_cases c7 : t115 = true
   ·subst c7
    have H1 : (if a0_3 < 1 then (letter_Check.j0 k true a0_0 a0_1 a0_2 a0_3 a0_4 a0_5 a0_6 l0_7 l0_8) else (if a0_3 > 1125899906842623 then (letter_Check.j0 k true a0_0 a0_1 a0_2 a0_3 a0_4 a0_5 a0_6 l0_7 l0_8) else (if a0_4 < 0 then (letter_Check.j0 k true a0_0 a0_1 a0_2 a0_3 a0_4 a0_5 a0_6 l0_7 l0_8) else (if a0_4 > 1125899906842624 then (letter_Check.j0 k true a0_0 a0_1 a0_2 a0_3 a0_4 a0_5 a0_6 l0_7 l0_8) else (letter_Check.j0 k (decide (a0_5 < 0)) a0_0 a0_1 a0_2 a0_3 a0_4 a0_5 a0_6 l0_7 l0_8))))) = some r := by rw [if_pos rfl] at H; exact H
    clear H
    have H := H1
    clear H1
    by_cases c8 : a0_3 < 1
    ·rw [if_pos c8] at H
     have c8b0 : decide (a0_3 < 1) = true := decide_eq_true c8
     clear c8
     (first | rw [c8b0] | (simp only [i64_w, i32_w]; rw [c8b0]) | skip)
     have H' := Aside0.mk H
     clear H
     have hcz9_0 : w3.cell? ⟨gb113, 0, none⟩ = some (.int .i64 a0_0) := (blk_cell BK113.out 0).trans rfl
     have hcz9_1 : w3.cell? ⟨gb113, 1, none⟩ = some (.int .i64 a0_1) := (blk_cell BK113.out 1).trans rfl
     have hcz9_2 : w3.cell? ⟨gb113, 2, none⟩ = some (.int .i64 a0_2) := (blk_cell BK113.out 2).trans rfl
     have hcz9_3 : w3.cell? ⟨gb113, 3, none⟩ = some (.int .i64 a0_3) := (blk_cell BK113.out 3).trans rfl
     have hcz9_4 : w3.cell? ⟨gb113, 4, none⟩ = some (.int .i64 a0_4) := (blk_cell BK113.out 4).trans rfl
     have hcz9_5 : w3.cell? ⟨gb113, 5, none⟩ = some (.int .i64 a0_5) := (blk_cell BK113.out 5).trans rfl
     have hcz9_6 : w3.cell? ⟨gb113, 6, none⟩ = some (.string a0_6) := (blk_cell BK113.out 6).trans rfl
     have hcz9_7 : w3.cell? ⟨gb113, 7, none⟩ = some (.slice A0_7 l0_7.length c0_7) := (blk_cell BK113.out 7).trans rfl
     have hcz9_8 : w3.cell? ⟨gb113, 8, none⟩ = some (.slice A0_8 l0_8.length c0_8) := (blk_cell BK113.out 8).trans rfl
     have hfz9_0 := blk_frozen BK113.out 0
     have hfz9_1 := blk_frozen BK113.out 1
     have hfz9_2 := blk_frozen BK113.out 2
     have hfz9_3 := blk_frozen BK113.out 3
     have hfz9_4 := blk_frozen BK113.out 4
     have hfz9_5 := blk_frozen BK113.out 5
     have hfz9_6 := blk_frozen BK113.out 6
     have hfz9_7 := blk_frozen BK113.out 7
     have hfz9_8 := blk_frozen BK113.out 8
     go_wp2_with (first | (go_at_call 112; (with_reducible refine (letter_address.calls a0_1 true _ A4.out).mono ?_); rintro e w' ⟨rfl, ⟨nd, rfl⟩⟩; (try first | exact ⟨rfl, _, World.drewN_drewN _ _ _⟩ | exact ⟨rfl, _, Eq.trans (World.drewN_drewN _ _ _) (congrArg (World.drewN _) (Nat.add_assoc _ _ _))⟩)) | (go_at_call 112; (with_reducible refine (letter_address.calls a0_2 true _ A6.out).mono ?_); rintro e w' ⟨rfl, ⟨nd, rfl⟩⟩; (try first | exact ⟨rfl, _, World.drewN_drewN _ _ _⟩ | exact ⟨rfl, _, Eq.trans (World.drewN_drewN _ _ _) (congrArg (World.drewN _) (Nat.add_assoc _ _ _))⟩)))
     repeat (go_quiet (first | (go_at_call 112; (with_reducible refine (letter_address.calls a0_1 true _ A4.out).mono ?_); rintro e w' ⟨rfl, ⟨nd, rfl⟩⟩; (try first | exact ⟨rfl, _, World.drewN_drewN _ _ _⟩ | exact ⟨rfl, _, Eq.trans (World.drewN_drewN _ _ _) (congrArg (World.drewN _) (Nat.add_assoc _ _ _))⟩)) | (go_at_call 112; (with_reducible refine (letter_address.calls a0_2 true _ A6.out).mono ?_); rintro e w' ⟨rfl, ⟨nd, rfl⟩⟩; (try first | exact ⟨rfl, _, World.drewN_drewN _ _ _⟩ | exact ⟨rfl, _, Eq.trans (World.drewN_drewN _ _ _) (congrArg (World.drewN _) (Nat.add_assoc _ _ _))⟩))); try go_wp2_with (first | (go_at_call 112; (with_reducible refine (letter_address.calls a0_1 true _ A4.out).mono ?_); rintro e w' ⟨rfl, ⟨nd, rfl⟩⟩; (try first | exact ⟨rfl, _, World.drewN_drewN _ _ _⟩ | exact ⟨rfl, _, Eq.trans (World.drewN_drewN _ _ _) (congrArg (World.drewN _) (Nat.add_assoc _ _ _))⟩)) | (go_at_call 112; (with_reducible refine (letter_address.calls a0_2 true _ A6.out).mono ?_); rintro e w' ⟨rfl, ⟨nd, rfl⟩⟩; (try first | exact ⟨rfl, _, World.drewN_drewN _ _ _⟩ | exact ⟨rfl, _, Eq.trans (World.drewN_drewN _ _ _) (congrArg (World.drewN _) (Nat.add_assoc _ _ _))⟩))))
     go_meet
     case rel => exact ⟨_, (true), (by first | rfl | (simp; done) | (simp [*]; done)), H', ⟨by first | omega | exact Nat.le_refl _⟩, ⟨by (with_reducible repeat (first | refine blk_drewN ?_ _ | refine blk_drew ?_ | refine blk_alloc ?_ _)); exact BK113.out⟩, ⟨by repeat (first | (with_reducible first | exact HB.out | apply below_alloc | apply pw_below_drewN | apply below_drew1 | refine below_set ?_ GE113.out) | exact HB.out)⟩⟩
    ·rw [if_neg c8] at H
     have c8b0 : decide (a0_3 < 1) = false := decide_eq_false c8
     clear c8
     (first | rw [c8b0] | (simp only [i64_w, i32_w]; rw [c8b0]) | skip)
     by_cases c10 : a0_3 > 1125899906842623
     ·rw [if_pos c10] at H
      have c10b0 : decide (1125899906842623 < a0_3) = true := decide_eq_true c10
      clear c10
      have H' := Aside0.mk H
      clear H
      have hcz11_0 : w3.cell? ⟨gb113, 0, none⟩ = some (.int .i64 a0_0) := (blk_cell BK113.out 0).trans rfl
      have hcz11_1 : w3.cell? ⟨gb113, 1, none⟩ = some (.int .i64 a0_1) := (blk_cell BK113.out 1).trans rfl
      have hcz11_2 : w3.cell? ⟨gb113, 2, none⟩ = some (.int .i64 a0_2) := (blk_cell BK113.out 2).trans rfl
      have hcz11_3 : w3.cell? ⟨gb113, 3, none⟩ = some (.int .i64 a0_3) := (blk_cell BK113.out 3).trans rfl
      have hcz11_4 : w3.cell? ⟨gb113, 4, none⟩ = some (.int .i64 a0_4) := (blk_cell BK113.out 4).trans rfl
      have hcz11_5 : w3.cell? ⟨gb113, 5, none⟩ = some (.int .i64 a0_5) := (blk_cell BK113.out 5).trans rfl
      have hcz11_6 : w3.cell? ⟨gb113, 6, none⟩ = some (.string a0_6) := (blk_cell BK113.out 6).trans rfl
      have hcz11_7 : w3.cell? ⟨gb113, 7, none⟩ = some (.slice A0_7 l0_7.length c0_7) := (blk_cell BK113.out 7).trans rfl
      have hcz11_8 : w3.cell? ⟨gb113, 8, none⟩ = some (.slice A0_8 l0_8.length c0_8) := (blk_cell BK113.out 8).trans rfl
      have hfz11_0 := blk_frozen BK113.out 0
      have hfz11_1 := blk_frozen BK113.out 1
      have hfz11_2 := blk_frozen BK113.out 2
      have hfz11_3 := blk_frozen BK113.out 3
      have hfz11_4 := blk_frozen BK113.out 4
      have hfz11_5 := blk_frozen BK113.out 5
      have hfz11_6 := blk_frozen BK113.out 6
      have hfz11_7 := blk_frozen BK113.out 7
      have hfz11_8 := blk_frozen BK113.out 8
      go_wp2_with (first | (go_at_call 112; (with_reducible refine (letter_address.calls a0_1 true _ A4.out).mono ?_); rintro e w' ⟨rfl, ⟨nd, rfl⟩⟩; (try first | exact ⟨rfl, _, World.drewN_drewN _ _ _⟩ | exact ⟨rfl, _, Eq.trans (World.drewN_drewN _ _ _) (congrArg (World.drewN _) (Nat.add_assoc _ _ _))⟩)) | (go_at_call 112; (with_reducible refine (letter_address.calls a0_2 true _ A6.out).mono ?_); rintro e w' ⟨rfl, ⟨nd, rfl⟩⟩; (try first | exact ⟨rfl, _, World.drewN_drewN _ _ _⟩ | exact ⟨rfl, _, Eq.trans (World.drewN_drewN _ _ _) (congrArg (World.drewN _) (Nat.add_assoc _ _ _))⟩)))
      repeat (go_quiet (first | (go_at_call 112; (with_reducible refine (letter_address.calls a0_1 true _ A4.out).mono ?_); rintro e w' ⟨rfl, ⟨nd, rfl⟩⟩; (try first | exact ⟨rfl, _, World.drewN_drewN _ _ _⟩ | exact ⟨rfl, _, Eq.trans (World.drewN_drewN _ _ _) (congrArg (World.drewN _) (Nat.add_assoc _ _ _))⟩)) | (go_at_call 112; (with_reducible refine (letter_address.calls a0_2 true _ A6.out).mono ?_); rintro e w' ⟨rfl, ⟨nd, rfl⟩⟩; (try first | exact ⟨rfl, _, World.drewN_drewN _ _ _⟩ | exact ⟨rfl, _, Eq.trans (World.drewN_drewN _ _ _) (congrArg (World.drewN _) (Nat.add_assoc _ _ _))⟩))); try go_wp2_with (first | (go_at_call 112; (with_reducible refine (letter_address.calls a0_1 true _ A4.out).mono ?_); rintro e w' ⟨rfl, ⟨nd, rfl⟩⟩; (try first | exact ⟨rfl, _, World.drewN_drewN _ _ _⟩ | exact ⟨rfl, _, Eq.trans (World.drewN_drewN _ _ _) (congrArg (World.drewN _) (Nat.add_assoc _ _ _))⟩)) | (go_at_call 112; (with_reducible refine (letter_address.calls a0_2 true _ A6.out).mono ?_); rintro e w' ⟨rfl, ⟨nd, rfl⟩⟩; (try first | exact ⟨rfl, _, World.drewN_drewN _ _ _⟩ | exact ⟨rfl, _, Eq.trans (World.drewN_drewN _ _ _) (congrArg (World.drewN _) (Nat.add_assoc _ _ _))⟩))))
      go_meet
      case rel => exact ⟨_, (true), (by first | rfl | (simp; done) | (simp [*]; done)), H', ⟨by first | omega | exact Nat.le_refl _⟩, ⟨by (with_reducible repeat (first | refine blk_drewN ?_ _ | refine blk_drew ?_ | refine blk_alloc ?_ _)); exact BK113.out⟩, ⟨by repeat (first | (with_reducible first | exact HB.out | apply below_alloc | apply pw_below_drewN | apply below_drew1 | refine below_set ?_ GE113.out) | exact HB.out)⟩⟩
     ·rw [if_neg c10] at H
      have c10b0 : decide (1125899906842623 < a0_3) = false := decide_eq_false c10
      clear c10
      by_cases c12 : a0_4 < 0
      ·rw [if_pos c12] at H
       have c12b0 : decide (a0_4 < 0) = true := decide_eq_true c12
       clear c12
       have H' := Aside0.mk H
       clear H
       have hcz13_0 : w3.cell? ⟨gb113, 0, none⟩ = some (.int .i64 a0_0) := (blk_cell BK113.out 0).trans rfl
       have hcz13_1 : w3.cell? ⟨gb113, 1, none⟩ = some (.int .i64 a0_1) := (blk_cell BK113.out 1).trans rfl
       have hcz13_2 : w3.cell? ⟨gb113, 2, none⟩ = some (.int .i64 a0_2) := (blk_cell BK113.out 2).trans rfl
       have hcz13_3 : w3.cell? ⟨gb113, 3, none⟩ = some (.int .i64 a0_3) := (blk_cell BK113.out 3).trans rfl
       have hcz13_4 : w3.cell? ⟨gb113, 4, none⟩ = some (.int .i64 a0_4) := (blk_cell BK113.out 4).trans rfl
       have hcz13_5 : w3.cell? ⟨gb113, 5, none⟩ = some (.int .i64 a0_5) := (blk_cell BK113.out 5).trans rfl
       have hcz13_6 : w3.cell? ⟨gb113, 6, none⟩ = some (.string a0_6) := (blk_cell BK113.out 6).trans rfl
       have hcz13_7 : w3.cell? ⟨gb113, 7, none⟩ = some (.slice A0_7 l0_7.length c0_7) := (blk_cell BK113.out 7).trans rfl
       have hcz13_8 : w3.cell? ⟨gb113, 8, none⟩ = some (.slice A0_8 l0_8.length c0_8) := (blk_cell BK113.out 8).trans rfl
       have hfz13_0 := blk_frozen BK113.out 0
       have hfz13_1 := blk_frozen BK113.out 1
       have hfz13_2 := blk_frozen BK113.out 2
       have hfz13_3 := blk_frozen BK113.out 3
       have hfz13_4 := blk_frozen BK113.out 4
       have hfz13_5 := blk_frozen BK113.out 5
       have hfz13_6 := blk_frozen BK113.out 6
       have hfz13_7 := blk_frozen BK113.out 7
       have hfz13_8 := blk_frozen BK113.out 8
       go_wp2_with (first | (go_at_call 112; (with_reducible refine (letter_address.calls a0_1 true _ A4.out).mono ?_); rintro e w' ⟨rfl, ⟨nd, rfl⟩⟩; (try first | exact ⟨rfl, _, World.drewN_drewN _ _ _⟩ | exact ⟨rfl, _, Eq.trans (World.drewN_drewN _ _ _) (congrArg (World.drewN _) (Nat.add_assoc _ _ _))⟩)) | (go_at_call 112; (with_reducible refine (letter_address.calls a0_2 true _ A6.out).mono ?_); rintro e w' ⟨rfl, ⟨nd, rfl⟩⟩; (try first | exact ⟨rfl, _, World.drewN_drewN _ _ _⟩ | exact ⟨rfl, _, Eq.trans (World.drewN_drewN _ _ _) (congrArg (World.drewN _) (Nat.add_assoc _ _ _))⟩)))
       repeat (go_quiet (first | (go_at_call 112; (with_reducible refine (letter_address.calls a0_1 true _ A4.out).mono ?_); rintro e w' ⟨rfl, ⟨nd, rfl⟩⟩; (try first | exact ⟨rfl, _, World.drewN_drewN _ _ _⟩ | exact ⟨rfl, _, Eq.trans (World.drewN_drewN _ _ _) (congrArg (World.drewN _) (Nat.add_assoc _ _ _))⟩)) | (go_at_call 112; (with_reducible refine (letter_address.calls a0_2 true _ A6.out).mono ?_); rintro e w' ⟨rfl, ⟨nd, rfl⟩⟩; (try first | exact ⟨rfl, _, World.drewN_drewN _ _ _⟩ | exact ⟨rfl, _, Eq.trans (World.drewN_drewN _ _ _) (congrArg (World.drewN _) (Nat.add_assoc _ _ _))⟩))); try go_wp2_with (first | (go_at_call 112; (with_reducible refine (letter_address.calls a0_1 true _ A4.out).mono ?_); rintro e w' ⟨rfl, ⟨nd, rfl⟩⟩; (try first | exact ⟨rfl, _, World.drewN_drewN _ _ _⟩ | exact ⟨rfl, _, Eq.trans (World.drewN_drewN _ _ _) (congrArg (World.drewN _) (Nat.add_assoc _ _ _))⟩)) | (go_at_call 112; (with_reducible refine (letter_address.calls a0_2 true _ A6.out).mono ?_); rintro e w' ⟨rfl, ⟨nd, rfl⟩⟩; (try first | exact ⟨rfl, _, World.drewN_drewN _ _ _⟩ | exact ⟨rfl, _, Eq.trans (World.drewN_drewN _ _ _) (congrArg (World.drewN _) (Nat.add_assoc _ _ _))⟩))))
       go_meet
       case rel => exact ⟨_, (true), (by first | rfl | (simp; done) | (simp [*]; done)), H', ⟨by first | omega | exact Nat.le_refl _⟩, ⟨by (with_reducible repeat (first | refine blk_drewN ?_ _ | refine blk_drew ?_ | refine blk_alloc ?_ _)); exact BK113.out⟩, ⟨by repeat (first | (with_reducible first | exact HB.out | apply below_alloc | apply pw_below_drewN | apply below_drew1 | refine below_set ?_ GE113.out) | exact HB.out)⟩⟩
      ·rw [if_neg c12] at H
       have c12b0 : decide (a0_4 < 0) = false := decide_eq_false c12
       clear c12
       by_cases c14 : a0_4 > 1125899906842624
       ·rw [if_pos c14] at H
        have c14b0 : decide (1125899906842624 < a0_4) = true := decide_eq_true c14
        clear c14
        have H' := Aside0.mk H
        clear H
        have hcz15_0 : w3.cell? ⟨gb113, 0, none⟩ = some (.int .i64 a0_0) := (blk_cell BK113.out 0).trans rfl
        have hcz15_1 : w3.cell? ⟨gb113, 1, none⟩ = some (.int .i64 a0_1) := (blk_cell BK113.out 1).trans rfl
        have hcz15_2 : w3.cell? ⟨gb113, 2, none⟩ = some (.int .i64 a0_2) := (blk_cell BK113.out 2).trans rfl
        have hcz15_3 : w3.cell? ⟨gb113, 3, none⟩ = some (.int .i64 a0_3) := (blk_cell BK113.out 3).trans rfl
        have hcz15_4 : w3.cell? ⟨gb113, 4, none⟩ = some (.int .i64 a0_4) := (blk_cell BK113.out 4).trans rfl
        have hcz15_5 : w3.cell? ⟨gb113, 5, none⟩ = some (.int .i64 a0_5) := (blk_cell BK113.out 5).trans rfl
        have hcz15_6 : w3.cell? ⟨gb113, 6, none⟩ = some (.string a0_6) := (blk_cell BK113.out 6).trans rfl
        have hcz15_7 : w3.cell? ⟨gb113, 7, none⟩ = some (.slice A0_7 l0_7.length c0_7) := (blk_cell BK113.out 7).trans rfl
        have hcz15_8 : w3.cell? ⟨gb113, 8, none⟩ = some (.slice A0_8 l0_8.length c0_8) := (blk_cell BK113.out 8).trans rfl
        have hfz15_0 := blk_frozen BK113.out 0
        have hfz15_1 := blk_frozen BK113.out 1
        have hfz15_2 := blk_frozen BK113.out 2
        have hfz15_3 := blk_frozen BK113.out 3
        have hfz15_4 := blk_frozen BK113.out 4
        have hfz15_5 := blk_frozen BK113.out 5
        have hfz15_6 := blk_frozen BK113.out 6
        have hfz15_7 := blk_frozen BK113.out 7
        have hfz15_8 := blk_frozen BK113.out 8
        go_wp2_with (first | (go_at_call 112; (with_reducible refine (letter_address.calls a0_1 true _ A4.out).mono ?_); rintro e w' ⟨rfl, ⟨nd, rfl⟩⟩; (try first | exact ⟨rfl, _, World.drewN_drewN _ _ _⟩ | exact ⟨rfl, _, Eq.trans (World.drewN_drewN _ _ _) (congrArg (World.drewN _) (Nat.add_assoc _ _ _))⟩)) | (go_at_call 112; (with_reducible refine (letter_address.calls a0_2 true _ A6.out).mono ?_); rintro e w' ⟨rfl, ⟨nd, rfl⟩⟩; (try first | exact ⟨rfl, _, World.drewN_drewN _ _ _⟩ | exact ⟨rfl, _, Eq.trans (World.drewN_drewN _ _ _) (congrArg (World.drewN _) (Nat.add_assoc _ _ _))⟩)))
        repeat (go_quiet (first | (go_at_call 112; (with_reducible refine (letter_address.calls a0_1 true _ A4.out).mono ?_); rintro e w' ⟨rfl, ⟨nd, rfl⟩⟩; (try first | exact ⟨rfl, _, World.drewN_drewN _ _ _⟩ | exact ⟨rfl, _, Eq.trans (World.drewN_drewN _ _ _) (congrArg (World.drewN _) (Nat.add_assoc _ _ _))⟩)) | (go_at_call 112; (with_reducible refine (letter_address.calls a0_2 true _ A6.out).mono ?_); rintro e w' ⟨rfl, ⟨nd, rfl⟩⟩; (try first | exact ⟨rfl, _, World.drewN_drewN _ _ _⟩ | exact ⟨rfl, _, Eq.trans (World.drewN_drewN _ _ _) (congrArg (World.drewN _) (Nat.add_assoc _ _ _))⟩))); try go_wp2_with (first | (go_at_call 112; (with_reducible refine (letter_address.calls a0_1 true _ A4.out).mono ?_); rintro e w' ⟨rfl, ⟨nd, rfl⟩⟩; (try first | exact ⟨rfl, _, World.drewN_drewN _ _ _⟩ | exact ⟨rfl, _, Eq.trans (World.drewN_drewN _ _ _) (congrArg (World.drewN _) (Nat.add_assoc _ _ _))⟩)) | (go_at_call 112; (with_reducible refine (letter_address.calls a0_2 true _ A6.out).mono ?_); rintro e w' ⟨rfl, ⟨nd, rfl⟩⟩; (try first | exact ⟨rfl, _, World.drewN_drewN _ _ _⟩ | exact ⟨rfl, _, Eq.trans (World.drewN_drewN _ _ _) (congrArg (World.drewN _) (Nat.add_assoc _ _ _))⟩))))
        go_meet
        case rel => exact ⟨_, (true), (by first | rfl | (simp; done) | (simp [*]; done)), H', ⟨by first | omega | exact Nat.le_refl _⟩, ⟨by (with_reducible repeat (first | refine blk_drewN ?_ _ | refine blk_drew ?_ | refine blk_alloc ?_ _)); exact BK113.out⟩, ⟨by repeat (first | (with_reducible first | exact HB.out | apply below_alloc | apply pw_below_drewN | apply below_drew1 | refine below_set ?_ GE113.out) | exact HB.out)⟩⟩
       ·rw [if_neg c14] at H
        have c14b0 : decide (1125899906842624 < a0_4) = false := decide_eq_false c14
        clear c14
        have H' := Aside0.mk H
        clear H
        have hcz16_0 : w3.cell? ⟨gb113, 0, none⟩ = some (.int .i64 a0_0) := (blk_cell BK113.out 0).trans rfl
        have hcz16_1 : w3.cell? ⟨gb113, 1, none⟩ = some (.int .i64 a0_1) := (blk_cell BK113.out 1).trans rfl
        have hcz16_2 : w3.cell? ⟨gb113, 2, none⟩ = some (.int .i64 a0_2) := (blk_cell BK113.out 2).trans rfl
        have hcz16_3 : w3.cell? ⟨gb113, 3, none⟩ = some (.int .i64 a0_3) := (blk_cell BK113.out 3).trans rfl
        have hcz16_4 : w3.cell? ⟨gb113, 4, none⟩ = some (.int .i64 a0_4) := (blk_cell BK113.out 4).trans rfl
        have hcz16_5 : w3.cell? ⟨gb113, 5, none⟩ = some (.int .i64 a0_5) := (blk_cell BK113.out 5).trans rfl
        have hcz16_6 : w3.cell? ⟨gb113, 6, none⟩ = some (.string a0_6) := (blk_cell BK113.out 6).trans rfl
        have hcz16_7 : w3.cell? ⟨gb113, 7, none⟩ = some (.slice A0_7 l0_7.length c0_7) := (blk_cell BK113.out 7).trans rfl
        have hcz16_8 : w3.cell? ⟨gb113, 8, none⟩ = some (.slice A0_8 l0_8.length c0_8) := (blk_cell BK113.out 8).trans rfl
        have hfz16_0 := blk_frozen BK113.out 0
        have hfz16_1 := blk_frozen BK113.out 1
        have hfz16_2 := blk_frozen BK113.out 2
        have hfz16_3 := blk_frozen BK113.out 3
        have hfz16_4 := blk_frozen BK113.out 4
        have hfz16_5 := blk_frozen BK113.out 5
        have hfz16_6 := blk_frozen BK113.out 6
        have hfz16_7 := blk_frozen BK113.out 7
        have hfz16_8 := blk_frozen BK113.out 8
        go_wp2_with (first | (go_at_call 112; (with_reducible refine (letter_address.calls a0_1 true _ A4.out).mono ?_); rintro e w' ⟨rfl, ⟨nd, rfl⟩⟩; (try first | exact ⟨rfl, _, World.drewN_drewN _ _ _⟩ | exact ⟨rfl, _, Eq.trans (World.drewN_drewN _ _ _) (congrArg (World.drewN _) (Nat.add_assoc _ _ _))⟩)) | (go_at_call 112; (with_reducible refine (letter_address.calls a0_2 true _ A6.out).mono ?_); rintro e w' ⟨rfl, ⟨nd, rfl⟩⟩; (try first | exact ⟨rfl, _, World.drewN_drewN _ _ _⟩ | exact ⟨rfl, _, Eq.trans (World.drewN_drewN _ _ _) (congrArg (World.drewN _) (Nat.add_assoc _ _ _))⟩)))
        repeat (go_quiet (first | (go_at_call 112; (with_reducible refine (letter_address.calls a0_1 true _ A4.out).mono ?_); rintro e w' ⟨rfl, ⟨nd, rfl⟩⟩; (try first | exact ⟨rfl, _, World.drewN_drewN _ _ _⟩ | exact ⟨rfl, _, Eq.trans (World.drewN_drewN _ _ _) (congrArg (World.drewN _) (Nat.add_assoc _ _ _))⟩)) | (go_at_call 112; (with_reducible refine (letter_address.calls a0_2 true _ A6.out).mono ?_); rintro e w' ⟨rfl, ⟨nd, rfl⟩⟩; (try first | exact ⟨rfl, _, World.drewN_drewN _ _ _⟩ | exact ⟨rfl, _, Eq.trans (World.drewN_drewN _ _ _) (congrArg (World.drewN _) (Nat.add_assoc _ _ _))⟩))); try go_wp2_with (first | (go_at_call 112; (with_reducible refine (letter_address.calls a0_1 true _ A4.out).mono ?_); rintro e w' ⟨rfl, ⟨nd, rfl⟩⟩; (try first | exact ⟨rfl, _, World.drewN_drewN _ _ _⟩ | exact ⟨rfl, _, Eq.trans (World.drewN_drewN _ _ _) (congrArg (World.drewN _) (Nat.add_assoc _ _ _))⟩)) | (go_at_call 112; (with_reducible refine (letter_address.calls a0_2 true _ A6.out).mono ?_); rintro e w' ⟨rfl, ⟨nd, rfl⟩⟩; (try first | exact ⟨rfl, _, World.drewN_drewN _ _ _⟩ | exact ⟨rfl, _, Eq.trans (World.drewN_drewN _ _ _) (congrArg (World.drewN _) (Nat.add_assoc _ _ _))⟩))))
        go_meet
        case rel => exact ⟨_, (decide (a0_5 < 0)), (by first | rfl | (simp; done) | (simp [*]; done)), H', ⟨by first | omega | exact Nat.le_refl _⟩, ⟨by (with_reducible repeat (first | refine blk_drewN ?_ _ | refine blk_drew ?_ | refine blk_alloc ?_ _)); exact BK113.out⟩, ⟨by repeat (first | (with_reducible first | exact HB.out | apply below_alloc | apply pw_below_drewN | apply below_drew1 | refine below_set ?_ GE113.out) | exact HB.out)⟩⟩
   ·replace c7 := Bool.eq_false_iff.mpr c7
    subst c7
    have H1 : (letter_Check.j0 k true a0_0 a0_1 a0_2 a0_3 a0_4 a0_5 a0_6 l0_7 l0_8) = some r := by rw [if_neg (show ¬ (false = true) by decide)] at H; exact H
    clear H
    have H := H1
    clear H1
    have H' := Aside0.mk H
    clear H
    have hcz17_0 : w3.cell? ⟨gb113, 0, none⟩ = some (.int .i64 a0_0) := (blk_cell BK113.out 0).trans rfl
    have hcz17_1 : w3.cell? ⟨gb113, 1, none⟩ = some (.int .i64 a0_1) := (blk_cell BK113.out 1).trans rfl
    have hcz17_2 : w3.cell? ⟨gb113, 2, none⟩ = some (.int .i64 a0_2) := (blk_cell BK113.out 2).trans rfl
    have hcz17_3 : w3.cell? ⟨gb113, 3, none⟩ = some (.int .i64 a0_3) := (blk_cell BK113.out 3).trans rfl
    have hcz17_4 : w3.cell? ⟨gb113, 4, none⟩ = some (.int .i64 a0_4) := (blk_cell BK113.out 4).trans rfl
    have hcz17_5 : w3.cell? ⟨gb113, 5, none⟩ = some (.int .i64 a0_5) := (blk_cell BK113.out 5).trans rfl
    have hcz17_6 : w3.cell? ⟨gb113, 6, none⟩ = some (.string a0_6) := (blk_cell BK113.out 6).trans rfl
    have hcz17_7 : w3.cell? ⟨gb113, 7, none⟩ = some (.slice A0_7 l0_7.length c0_7) := (blk_cell BK113.out 7).trans rfl
    have hcz17_8 : w3.cell? ⟨gb113, 8, none⟩ = some (.slice A0_8 l0_8.length c0_8) := (blk_cell BK113.out 8).trans rfl
    have hfz17_0 := blk_frozen BK113.out 0
    have hfz17_1 := blk_frozen BK113.out 1
    have hfz17_2 := blk_frozen BK113.out 2
    have hfz17_3 := blk_frozen BK113.out 3
    have hfz17_4 := blk_frozen BK113.out 4
    have hfz17_5 := blk_frozen BK113.out 5
    have hfz17_6 := blk_frozen BK113.out 6
    have hfz17_7 := blk_frozen BK113.out 7
    have hfz17_8 := blk_frozen BK113.out 8
    go_wp2_with (first | (go_at_call 112; (with_reducible refine (letter_address.calls a0_1 true _ A4.out).mono ?_); rintro e w' ⟨rfl, ⟨nd, rfl⟩⟩; (try first | exact ⟨rfl, _, World.drewN_drewN _ _ _⟩ | exact ⟨rfl, _, Eq.trans (World.drewN_drewN _ _ _) (congrArg (World.drewN _) (Nat.add_assoc _ _ _))⟩)) | (go_at_call 112; (with_reducible refine (letter_address.calls a0_2 false _ A6.out).mono ?_); rintro e w' ⟨rfl, ⟨nd, rfl⟩⟩; (try first | exact ⟨rfl, _, World.drewN_drewN _ _ _⟩ | exact ⟨rfl, _, Eq.trans (World.drewN_drewN _ _ _) (congrArg (World.drewN _) (Nat.add_assoc _ _ _))⟩)))
    repeat (go_quiet (first | (go_at_call 112; (with_reducible refine (letter_address.calls a0_1 true _ A4.out).mono ?_); rintro e w' ⟨rfl, ⟨nd, rfl⟩⟩; (try first | exact ⟨rfl, _, World.drewN_drewN _ _ _⟩ | exact ⟨rfl, _, Eq.trans (World.drewN_drewN _ _ _) (congrArg (World.drewN _) (Nat.add_assoc _ _ _))⟩)) | (go_at_call 112; (with_reducible refine (letter_address.calls a0_2 false _ A6.out).mono ?_); rintro e w' ⟨rfl, ⟨nd, rfl⟩⟩; (try first | exact ⟨rfl, _, World.drewN_drewN _ _ _⟩ | exact ⟨rfl, _, Eq.trans (World.drewN_drewN _ _ _) (congrArg (World.drewN _) (Nat.add_assoc _ _ _))⟩))); try go_wp2_with (first | (go_at_call 112; (with_reducible refine (letter_address.calls a0_1 true _ A4.out).mono ?_); rintro e w' ⟨rfl, ⟨nd, rfl⟩⟩; (try first | exact ⟨rfl, _, World.drewN_drewN _ _ _⟩ | exact ⟨rfl, _, Eq.trans (World.drewN_drewN _ _ _) (congrArg (World.drewN _) (Nat.add_assoc _ _ _))⟩)) | (go_at_call 112; (with_reducible refine (letter_address.calls a0_2 false _ A6.out).mono ?_); rintro e w' ⟨rfl, ⟨nd, rfl⟩⟩; (try first | exact ⟨rfl, _, World.drewN_drewN _ _ _⟩ | exact ⟨rfl, _, Eq.trans (World.drewN_drewN _ _ _) (congrArg (World.drewN _) (Nat.add_assoc _ _ _))⟩))))
    go_meet
    case rel => exact ⟨_, (true), (by first | rfl | (simp; done) | (simp [*]; done)), H', ⟨by first | omega | exact Nat.le_refl _⟩, ⟨by (with_reducible repeat (first | refine blk_drewN ?_ _ | refine blk_drew ?_ | refine blk_alloc ?_ _)); exact BK113.out⟩, ⟨by repeat (first | (with_reducible first | exact HB.out | apply below_alloc | apply pw_below_drewN | apply below_drew1 | refine below_set ?_ GE113.out) | exact HB.out)⟩⟩
  ·replace c5 := Bool.eq_false_iff.mpr c5
   subst c5
   have H1 : (letter_Check.j0 k true a0_0 a0_1 a0_2 a0_3 a0_4 a0_5 a0_6 l0_7 l0_8) = some r := by rw [if_neg (show ¬ (false = true) by decide)] at H; exact H
   clear H
   have H := H1
   clear H1
   have H' := Aside0.mk H
   clear H
   have hcz18_0 : w3.cell? ⟨gb113, 0, none⟩ = some (.int .i64 a0_0) := (blk_cell BK113.out 0).trans rfl
   have hcz18_1 : w3.cell? ⟨gb113, 1, none⟩ = some (.int .i64 a0_1) := (blk_cell BK113.out 1).trans rfl
   have hcz18_2 : w3.cell? ⟨gb113, 2, none⟩ = some (.int .i64 a0_2) := (blk_cell BK113.out 2).trans rfl
   have hcz18_3 : w3.cell? ⟨gb113, 3, none⟩ = some (.int .i64 a0_3) := (blk_cell BK113.out 3).trans rfl
   have hcz18_4 : w3.cell? ⟨gb113, 4, none⟩ = some (.int .i64 a0_4) := (blk_cell BK113.out 4).trans rfl
   have hcz18_5 : w3.cell? ⟨gb113, 5, none⟩ = some (.int .i64 a0_5) := (blk_cell BK113.out 5).trans rfl
   have hcz18_6 : w3.cell? ⟨gb113, 6, none⟩ = some (.string a0_6) := (blk_cell BK113.out 6).trans rfl
   have hcz18_7 : w3.cell? ⟨gb113, 7, none⟩ = some (.slice A0_7 l0_7.length c0_7) := (blk_cell BK113.out 7).trans rfl
   have hcz18_8 : w3.cell? ⟨gb113, 8, none⟩ = some (.slice A0_8 l0_8.length c0_8) := (blk_cell BK113.out 8).trans rfl
   have hfz18_0 := blk_frozen BK113.out 0
   have hfz18_1 := blk_frozen BK113.out 1
   have hfz18_2 := blk_frozen BK113.out 2
   have hfz18_3 := blk_frozen BK113.out 3
   have hfz18_4 := blk_frozen BK113.out 4
   have hfz18_5 := blk_frozen BK113.out 5
   have hfz18_6 := blk_frozen BK113.out 6
   have hfz18_7 := blk_frozen BK113.out 7
   have hfz18_8 := blk_frozen BK113.out 8
   go_wp2_with (first | (go_at_call 112; (with_reducible refine (letter_address.calls a0_1 false _ A4.out).mono ?_); rintro e w' ⟨rfl, ⟨nd, rfl⟩⟩; (try first | exact ⟨rfl, _, World.drewN_drewN _ _ _⟩ | exact ⟨rfl, _, Eq.trans (World.drewN_drewN _ _ _) (congrArg (World.drewN _) (Nat.add_assoc _ _ _))⟩)))
   repeat (go_quiet (first | (go_at_call 112; (with_reducible refine (letter_address.calls a0_1 false _ A4.out).mono ?_); rintro e w' ⟨rfl, ⟨nd, rfl⟩⟩; (try first | exact ⟨rfl, _, World.drewN_drewN _ _ _⟩ | exact ⟨rfl, _, Eq.trans (World.drewN_drewN _ _ _) (congrArg (World.drewN _) (Nat.add_assoc _ _ _))⟩))); try go_wp2_with (first | (go_at_call 112; (with_reducible refine (letter_address.calls a0_1 false _ A4.out).mono ?_); rintro e w' ⟨rfl, ⟨nd, rfl⟩⟩; (try first | exact ⟨rfl, _, World.drewN_drewN _ _ _⟩ | exact ⟨rfl, _, Eq.trans (World.drewN_drewN _ _ _) (congrArg (World.drewN _) (Nat.add_assoc _ _ _))⟩))))
   go_meet
   case rel => exact ⟨_, (true), (by first | rfl | (simp; done) | (simp [*]; done)), H', ⟨by first | omega | exact Nat.le_refl _⟩, ⟨by (with_reducible repeat (first | refine blk_drewN ?_ _ | refine blk_drew ?_ | refine blk_alloc ?_ _)); exact BK113.out⟩, ⟨by repeat (first | (with_reducible first | exact HB.out | apply below_alloc | apply pw_below_drewN | apply below_drew1 | refine below_set ?_ GE113.out) | exact HB.out)⟩⟩
 case rest =>
  clear HC2
  try clear c1
  try clear p2
  try clear c5
  try clear c7
  try clear c8
  try clear c8b0
  try clear c10
  try clear c10b0
  try clear c12
  try clear c12b0
  try clear c14
  try clear c14b0
  try clear hcz11_0
  try clear hcz11_1
  try clear hcz11_2
  try clear hcz11_3
  try clear hcz11_4
  try clear hcz11_5
  try clear hcz11_6
  try clear hcz11_7
  try clear hcz11_8
  try clear hcz13_0
  try clear hcz13_1
  try clear hcz13_2
  try clear hcz13_3
  try clear hcz13_4
  try clear hcz13_5
  try clear hcz13_6
  try clear hcz13_7
  try clear hcz13_8
  try clear hcz15_0
  try clear hcz15_1
  try clear hcz15_2
  try clear hcz15_3
  try clear hcz15_4
  try clear hcz15_5
  try clear hcz15_6
  try clear hcz15_7
  try clear hcz15_8
  try clear hcz16_0
  try clear hcz16_1
  try clear hcz16_2
  try clear hcz16_3
  try clear hcz16_4
  try clear hcz16_5
  try clear hcz16_6
  try clear hcz16_7
  try clear hcz16_8
  try clear hcz17_0
  try clear hcz17_1
  try clear hcz17_2
  try clear hcz17_3
  try clear hcz17_4
  try clear hcz17_5
  try clear hcz17_6
  try clear hcz17_7
  try clear hcz17_8
  try clear hcz18_0
  try clear hcz18_1
  try clear hcz18_2
  try clear hcz18_3
  try clear hcz18_4
  try clear hcz18_5
  try clear hcz18_6
  try clear hcz18_7
  try clear hcz18_8
  try clear hcz9_0
  try clear hcz9_1
  try clear hcz9_2
  try clear hcz9_3
  try clear hcz9_4
  try clear hcz9_5
  try clear hcz9_6
  try clear hcz9_7
  try clear hcz9_8
  try clear hfz11_0
  try clear hfz11_1
  try clear hfz11_2
  try clear hfz11_3
  try clear hfz11_4
  try clear hfz11_5
  try clear hfz11_6
  try clear hfz11_7
  try clear hfz11_8
  try clear hfz13_0
  try clear hfz13_1
  try clear hfz13_2
  try clear hfz13_3
  try clear hfz13_4
  try clear hfz13_5
  try clear hfz13_6
  try clear hfz13_7
  try clear hfz13_8
  try clear hfz15_0
  try clear hfz15_1
  try clear hfz15_2
  try clear hfz15_3
  try clear hfz15_4
  try clear hfz15_5
  try clear hfz15_6
  try clear hfz15_7
  try clear hfz15_8
  try clear hfz16_0
  try clear hfz16_1
  try clear hfz16_2
  try clear hfz16_3
  try clear hfz16_4
  try clear hfz16_5
  try clear hfz16_6
  try clear hfz16_7
  try clear hfz16_8
  try clear hfz17_0
  try clear hfz17_1
  try clear hfz17_2
  try clear hfz17_3
  try clear hfz17_4
  try clear hfz17_5
  try clear hfz17_6
  try clear hfz17_7
  try clear hfz17_8
  try clear hfz18_0
  try clear hfz18_1
  try clear hfz18_2
  try clear hfz18_3
  try clear hfz18_4
  try clear hfz18_5
  try clear hfz18_6
  try clear hfz18_7
  try clear hfz18_8
  try clear hfz9_0
  try clear hfz9_1
  try clear hfz9_2
  try clear hfz9_3
  try clear hfz9_4
  try clear hfz9_5
  try clear hfz9_6
  try clear hfz9_7
  try clear hfz9_8
  obtain ⟨kq, x41_1, rfl, HA, HJ1, BK113, HB⟩ := hcut
  cases kq with
  | zero => exact absurd HA.out (by simp [letter_Check.j0])
  | succ kj1 =>
   have H := HA.out
   clear HA
   simp only [letter_Check.j0] at H
   by_cases c19 : x41_1 = true
   ·subst c19
    have H1 : (some 70) = some r := by rw [if_pos rfl] at H; exact H
    clear H
    have H := H1
    clear H1
    obtain rfl := Option.some.inj H
    go_wp2
    repeat (go_quiet (fail); try go_wp2)
    go_ret
    exact ⟨by first | rfl | (simp [errW_none, errW_some] <;> rfl) | (simp [*, errW_none, errW_some] <;> rfl), by repeat (first | (with_reducible first | exact HB.out | apply below_alloc | apply pw_below_drewN | apply below_drew1 | refine below_set ?_ GE113.out) | exact HB.out)⟩
   ·replace c19 := Bool.eq_false_iff.mpr c19
    subst c19
    have H1 : (if a0_0 = 2 then (if (a0_6.size : Int) ≤ 2052 then (if a0_6.toList = ([] : List UInt8) then (if (l0_7.length : Int) = 1 then (if 0 < (l0_7.length : Int) then ((letter_Key.f (rdOf ByteArray.empty l0_7 0)).bind fun t117 => (if a0_5 > 4 then (some 70) else (if t117 = true then (if (l0_8.length : Int) = 0 then (some 0) else (some 70)) else (some 70)))) else (none)) else (if a0_5 > 4 then (some 70) else (some 70))) else (if (l0_7.length : Int) = 1 then (if 0 < (l0_7.length : Int) then ((letter_Key.f (rdOf ByteArray.empty l0_7 0)).bind fun t119 => (if a0_5 > 4 then (some 70) else (if t119 = true then (if (l0_8.length : Int) = 0 then (if a0_5 = 1 then (some 0) else (some 70)) else (some 70)) else (some 70)))) else (none)) else (if a0_5 > 4 then (some 70) else (some 70)))) else (if (l0_7.length : Int) = 1 then (if 0 < (l0_7.length : Int) then ((letter_Key.f (rdOf ByteArray.empty l0_7 0)).bind fun t121 => (if a0_5 > 4 then (some 70) else (if t121 = true then (if (l0_8.length : Int) = 0 then (some 70) else (some 70)) else (some 70)))) else (none)) else (if a0_5 > 4 then (some 70) else (some 70)))) else (if a0_0 = 1 then (if (l0_7.length : Int) = 1 then (if 0 < (l0_7.length : Int) then ((letter_Key.f (rdOf ByteArray.empty l0_7 0)).bind fun t123 => (if a0_5 > 0 then (some 70) else (if t123 = true then (if (l0_8.length : Int) = 0 then (if a0_6.toList = ([] : List UInt8) then (some 0) else (some 70)) else (some 70)) else (some 70)))) else (none)) else (if a0_5 > 0 then (some 70) else (some 70))) else (if a0_0 = 3 then (if (l0_7.length : Int) ≤ 16 then ((letter_Rising.f kj1 l0_7).bind fun t124 => ((letter_writes.f kj1 l0_8).bind fun t125 => (if a0_5 > 0 then (some 70) else (if t124 = true then (if t125 = true then (if a0_6.toList = ([] : List UInt8) then (some 0) else (some 70)) else (some 70)) else (some 70))))) else ((letter_writes.f kj1 l0_8).bind fun t126 => (if a0_5 > 0 then (some 70) else (some 70)))) else (if a0_0 = 8 then (if a0_5 > 2 then (some 70) else (if (l0_7.length : Int) = 0 then (if (l0_8.length : Int) = 0 then (if a0_6.toList = ([] : List UInt8) then (some 0) else (some 70)) else (some 70)) else (some 70))) else (if a0_0 = 4 then (if a0_5 > 1 then (some 70) else (if (l0_7.length : Int) = 0 then (if (l0_8.length : Int) = 0 then (if a0_6.toList = ([] : List UInt8) then (some 0) else (some 70)) else (some 70)) else (some 70))) else (if a0_0 = 5 then (if a0_5 > 0 then (some 70) else (if (l0_7.length : Int) = 0 then (if (l0_8.length : Int) = 0 then (if a0_6.toList = ([] : List UInt8) then (some 0) else (some 70)) else (some 70)) else (some 70))) else (if a0_0 = 6 then (if a0_5 > 0 then (some 70) else (if (l0_7.length : Int) = 0 then (if (l0_8.length : Int) = 0 then (if a0_6.toList = ([] : List UInt8) then (some 0) else (some 70)) else (some 70)) else (some 70))) else (if a0_0 = 7 then (if a0_5 > 0 then (some 70) else (if (l0_7.length : Int) = 0 then (if (l0_8.length : Int) = 0 then (if a0_6.toList = ([] : List UInt8) then (some 0) else (some 70)) else (some 70)) else (some 70))) else (some 70))))))))) = some r := by rw [if_neg (show ¬ (false = true) by decide)] at H; exact H
    clear H
    have H := H1
    clear H1
    by_cases c20 : a0_0 = 2
    ·rw [if_pos c20] at H
     have c20b0 : (a0_0 == 2) = true := beq_iff_eq.mpr c20
     have c20b1 : (a0_0 != 2) = false := bne_eq_false_iff_eq.mpr c20
     clear c20
     by_cases c21 : (a0_6.size : Int) ≤ 2052
     ·rw [if_pos c21] at H
      have c21b0 : decide ((a0_6.size : Int) ≤ 2052) = true := decide_eq_true c21
      have c21b1 : decide (a0_6.size ≤ 2052) = true := decide_eq_true (by omega)
      clear c21
      by_cases c22 : a0_6.toList = ([] : List UInt8)
      ·rw [if_pos c22] at H
       have c22b0 : (a0_6.toList == ([] : List UInt8)) = true := beq_iff_eq.mpr c22
       have c22b1 : (a0_6.toList != ([] : List UInt8)) = false := bne_eq_false_iff_eq.mpr c22
       clear c22
       by_cases c23 : (l0_7.length : Int) = 1
       ·rw [if_pos c23] at H
        have c23b0 : ((l0_7.length : Int) == 1) = true := beq_iff_eq.mpr c23
        have c23b1 : ((l0_7.length : Int) != 1) = false := bne_eq_false_iff_eq.mpr c23
        clear c23
        by_cases c24 : 0 < (l0_7.length : Int)
        ·rw [if_pos c24] at H
         have c24b0 : decide (0 < (l0_7.length : Int)) = true := decide_eq_true c24
         have c24b1 : decide (0 < l0_7.length) = true := decide_eq_true (by omega)
         clear c24
         replace H := Option.bind_eq_some_iff.mp H
         obtain ⟨t117, A250, H⟩ := H
         replace H : (if a0_5 > 4 then (some 70) else (if t117 = true then (if (l0_8.length : Int) = 0 then (some 0) else (some 70)) else (some 70))) = some r := H
         have A25 := Aside0.mk A250
         clear A250
         by_cases c26 : a0_5 > 4
         ·rw [if_pos c26] at H
          have c26b0 : decide (4 < a0_5) = true := decide_eq_true c26
          clear c26
          obtain rfl := Option.some.inj H
          have hcz27_0 : wc.cell? ⟨gb113, 0, none⟩ = some (.int .i64 a0_0) := (blk_cell BK113.out 0).trans rfl
          have hcz27_1 : wc.cell? ⟨gb113, 1, none⟩ = some (.int .i64 a0_1) := (blk_cell BK113.out 1).trans rfl
          have hcz27_2 : wc.cell? ⟨gb113, 2, none⟩ = some (.int .i64 a0_2) := (blk_cell BK113.out 2).trans rfl
          have hcz27_3 : wc.cell? ⟨gb113, 3, none⟩ = some (.int .i64 a0_3) := (blk_cell BK113.out 3).trans rfl
          have hcz27_4 : wc.cell? ⟨gb113, 4, none⟩ = some (.int .i64 a0_4) := (blk_cell BK113.out 4).trans rfl
          have hcz27_5 : wc.cell? ⟨gb113, 5, none⟩ = some (.int .i64 a0_5) := (blk_cell BK113.out 5).trans rfl
          have hcz27_6 : wc.cell? ⟨gb113, 6, none⟩ = some (.string a0_6) := (blk_cell BK113.out 6).trans rfl
          have hcz27_7 : wc.cell? ⟨gb113, 7, none⟩ = some (.slice A0_7 l0_7.length c0_7) := (blk_cell BK113.out 7).trans rfl
          have hcz27_8 : wc.cell? ⟨gb113, 8, none⟩ = some (.slice A0_8 l0_8.length c0_8) := (blk_cell BK113.out 8).trans rfl
          have hfz27_0 := blk_frozen BK113.out 0
          have hfz27_1 := blk_frozen BK113.out 1
          have hfz27_2 := blk_frozen BK113.out 2
          have hfz27_3 := blk_frozen BK113.out 3
          have hfz27_4 := blk_frozen BK113.out 4
          have hfz27_5 := blk_frozen BK113.out 5
          have hfz27_6 := blk_frozen BK113.out 6
          have hfz27_7 := blk_frozen BK113.out 7
          have hfz27_8 := blk_frozen BK113.out 8
          have p116 : 0 ≤ (0 : Int) := (by omega)
          have q116 : 0 < (l0_7.length : Int) := of_decide_eq_true (by first | (with_reducible assumption) | assumption)
          obtain ⟨ad116, e116, hx116_0⟩ := Kd.at_string HR0_7.out 0 p116 q116
          cases e116
          have qi116 : (0 < l0_7.length) = True := eq_true (by omega)
          (try rw [show ((0 : Int)).toNat = 0 from rfl] at hx116_0)
          (try rw [Addr.add_zero'] at hx116_0)
          replace hx116_0 := (HB.out.cell (World.block_lt_of_cell? w _ hx116_0)).trans hx116_0
          replace p116 := eq_true p116
          replace q116 := eq_true q116
          go_wp2_with (first | (go_at_call 72; (with_reducible refine (letter_Key.calls (rdOf ByteArray.empty l0_7 0) t117 _ A25.out).mono ?_); rintro e w' ⟨rfl, ⟨nd, rfl⟩⟩; (try first | exact ⟨rfl, _, World.drewN_drewN _ _ _⟩ | exact ⟨rfl, _, Eq.trans (World.drewN_drewN _ _ _) (congrArg (World.drewN _) (Nat.add_assoc _ _ _))⟩)))
          repeat (go_quiet (first | (go_at_call 72; (with_reducible refine (letter_Key.calls (rdOf ByteArray.empty l0_7 0) t117 _ A25.out).mono ?_); rintro e w' ⟨rfl, ⟨nd, rfl⟩⟩; (try first | exact ⟨rfl, _, World.drewN_drewN _ _ _⟩ | exact ⟨rfl, _, Eq.trans (World.drewN_drewN _ _ _) (congrArg (World.drewN _) (Nat.add_assoc _ _ _))⟩))); try go_wp2_with (first | (go_at_call 72; (with_reducible refine (letter_Key.calls (rdOf ByteArray.empty l0_7 0) t117 _ A25.out).mono ?_); rintro e w' ⟨rfl, ⟨nd, rfl⟩⟩; (try first | exact ⟨rfl, _, World.drewN_drewN _ _ _⟩ | exact ⟨rfl, _, Eq.trans (World.drewN_drewN _ _ _) (congrArg (World.drewN _) (Nat.add_assoc _ _ _))⟩))))
          go_ret
          exact ⟨by first | rfl | (simp [errW_none, errW_some] <;> rfl) | (simp [*, errW_none, errW_some] <;> rfl), by repeat (first | (with_reducible first | exact HB.out | apply below_alloc | apply pw_below_drewN | apply below_drew1 | refine below_set ?_ GE113.out) | exact HB.out)⟩
         ·rw [if_neg c26] at H
          have c26b0 : decide (4 < a0_5) = false := decide_eq_false c26
          clear c26
          by_cases c28 : t117 = true
          ·subst c28
           have H1 : (if (l0_8.length : Int) = 0 then (some 0) else (some 70)) = some r := by rw [if_pos rfl] at H; exact H
           clear H
           have H := H1
           clear H1
           by_cases c29 : (l0_8.length : Int) = 0
           ·rw [if_pos c29] at H
            have c29b0 : ((l0_8.length : Int) == 0) = true := beq_iff_eq.mpr c29
            have c29b1 : ((l0_8.length : Int) != 0) = false := bne_eq_false_iff_eq.mpr c29
            clear c29
            obtain rfl := Option.some.inj H
            have hcz30_0 : wc.cell? ⟨gb113, 0, none⟩ = some (.int .i64 a0_0) := (blk_cell BK113.out 0).trans rfl
            have hcz30_1 : wc.cell? ⟨gb113, 1, none⟩ = some (.int .i64 a0_1) := (blk_cell BK113.out 1).trans rfl
            have hcz30_2 : wc.cell? ⟨gb113, 2, none⟩ = some (.int .i64 a0_2) := (blk_cell BK113.out 2).trans rfl
            have hcz30_3 : wc.cell? ⟨gb113, 3, none⟩ = some (.int .i64 a0_3) := (blk_cell BK113.out 3).trans rfl
            have hcz30_4 : wc.cell? ⟨gb113, 4, none⟩ = some (.int .i64 a0_4) := (blk_cell BK113.out 4).trans rfl
            have hcz30_5 : wc.cell? ⟨gb113, 5, none⟩ = some (.int .i64 a0_5) := (blk_cell BK113.out 5).trans rfl
            have hcz30_6 : wc.cell? ⟨gb113, 6, none⟩ = some (.string a0_6) := (blk_cell BK113.out 6).trans rfl
            have hcz30_7 : wc.cell? ⟨gb113, 7, none⟩ = some (.slice A0_7 l0_7.length c0_7) := (blk_cell BK113.out 7).trans rfl
            have hcz30_8 : wc.cell? ⟨gb113, 8, none⟩ = some (.slice A0_8 l0_8.length c0_8) := (blk_cell BK113.out 8).trans rfl
            have hfz30_0 := blk_frozen BK113.out 0
            have hfz30_1 := blk_frozen BK113.out 1
            have hfz30_2 := blk_frozen BK113.out 2
            have hfz30_3 := blk_frozen BK113.out 3
            have hfz30_4 := blk_frozen BK113.out 4
            have hfz30_5 := blk_frozen BK113.out 5
            have hfz30_6 := blk_frozen BK113.out 6
            have hfz30_7 := blk_frozen BK113.out 7
            have hfz30_8 := blk_frozen BK113.out 8
            have p116 : 0 ≤ (0 : Int) := (by omega)
            have q116 : 0 < (l0_7.length : Int) := of_decide_eq_true (by first | (with_reducible assumption) | assumption)
            obtain ⟨ad116, e116, hx116_0⟩ := Kd.at_string HR0_7.out 0 p116 q116
            cases e116
            have qi116 : (0 < l0_7.length) = True := eq_true (by omega)
            (try rw [show ((0 : Int)).toNat = 0 from rfl] at hx116_0)
            (try rw [Addr.add_zero'] at hx116_0)
            replace hx116_0 := (HB.out.cell (World.block_lt_of_cell? w _ hx116_0)).trans hx116_0
            replace p116 := eq_true p116
            replace q116 := eq_true q116
            go_wp2_with (first | (go_at_call 72; (with_reducible refine (letter_Key.calls (rdOf ByteArray.empty l0_7 0) true _ A25.out).mono ?_); rintro e w' ⟨rfl, ⟨nd, rfl⟩⟩; (try first | exact ⟨rfl, _, World.drewN_drewN _ _ _⟩ | exact ⟨rfl, _, Eq.trans (World.drewN_drewN _ _ _) (congrArg (World.drewN _) (Nat.add_assoc _ _ _))⟩)))
            repeat (go_quiet (first | (go_at_call 72; (with_reducible refine (letter_Key.calls (rdOf ByteArray.empty l0_7 0) true _ A25.out).mono ?_); rintro e w' ⟨rfl, ⟨nd, rfl⟩⟩; (try first | exact ⟨rfl, _, World.drewN_drewN _ _ _⟩ | exact ⟨rfl, _, Eq.trans (World.drewN_drewN _ _ _) (congrArg (World.drewN _) (Nat.add_assoc _ _ _))⟩))); try go_wp2_with (first | (go_at_call 72; (with_reducible refine (letter_Key.calls (rdOf ByteArray.empty l0_7 0) true _ A25.out).mono ?_); rintro e w' ⟨rfl, ⟨nd, rfl⟩⟩; (try first | exact ⟨rfl, _, World.drewN_drewN _ _ _⟩ | exact ⟨rfl, _, Eq.trans (World.drewN_drewN _ _ _) (congrArg (World.drewN _) (Nat.add_assoc _ _ _))⟩))))
            go_ret
            exact ⟨by first | rfl | (simp [errW_none, errW_some] <;> rfl) | (simp [*, errW_none, errW_some] <;> rfl), by repeat (first | (with_reducible first | exact HB.out | apply below_alloc | apply pw_below_drewN | apply below_drew1 | refine below_set ?_ GE113.out) | exact HB.out)⟩
           ·rw [if_neg c29] at H
            have c29b0 : ((l0_8.length : Int) == 0) = false := beq_eq_false_iff_ne.mpr c29
            have c29b1 : ((l0_8.length : Int) != 0) = true := bne_iff_ne.mpr c29
            have c29b2 : ¬ (l0_8 = []) := fun h_ => c29 (by rw [h_]; rfl)
            obtain rfl := Option.some.inj H
            have hcz31_0 : wc.cell? ⟨gb113, 0, none⟩ = some (.int .i64 a0_0) := (blk_cell BK113.out 0).trans rfl
            have hcz31_1 : wc.cell? ⟨gb113, 1, none⟩ = some (.int .i64 a0_1) := (blk_cell BK113.out 1).trans rfl
            have hcz31_2 : wc.cell? ⟨gb113, 2, none⟩ = some (.int .i64 a0_2) := (blk_cell BK113.out 2).trans rfl
            have hcz31_3 : wc.cell? ⟨gb113, 3, none⟩ = some (.int .i64 a0_3) := (blk_cell BK113.out 3).trans rfl
            have hcz31_4 : wc.cell? ⟨gb113, 4, none⟩ = some (.int .i64 a0_4) := (blk_cell BK113.out 4).trans rfl
            have hcz31_5 : wc.cell? ⟨gb113, 5, none⟩ = some (.int .i64 a0_5) := (blk_cell BK113.out 5).trans rfl
            have hcz31_6 : wc.cell? ⟨gb113, 6, none⟩ = some (.string a0_6) := (blk_cell BK113.out 6).trans rfl
            have hcz31_7 : wc.cell? ⟨gb113, 7, none⟩ = some (.slice A0_7 l0_7.length c0_7) := (blk_cell BK113.out 7).trans rfl
            have hcz31_8 : wc.cell? ⟨gb113, 8, none⟩ = some (.slice A0_8 l0_8.length c0_8) := (blk_cell BK113.out 8).trans rfl
            have hfz31_0 := blk_frozen BK113.out 0
            have hfz31_1 := blk_frozen BK113.out 1
            have hfz31_2 := blk_frozen BK113.out 2
            have hfz31_3 := blk_frozen BK113.out 3
            have hfz31_4 := blk_frozen BK113.out 4
            have hfz31_5 := blk_frozen BK113.out 5
            have hfz31_6 := blk_frozen BK113.out 6
            have hfz31_7 := blk_frozen BK113.out 7
            have hfz31_8 := blk_frozen BK113.out 8
            have p116 : 0 ≤ (0 : Int) := (by omega)
            have q116 : 0 < (l0_7.length : Int) := of_decide_eq_true (by first | (with_reducible assumption) | assumption)
            obtain ⟨ad116, e116, hx116_0⟩ := Kd.at_string HR0_7.out 0 p116 q116
            cases e116
            have qi116 : (0 < l0_7.length) = True := eq_true (by omega)
            (try rw [show ((0 : Int)).toNat = 0 from rfl] at hx116_0)
            (try rw [Addr.add_zero'] at hx116_0)
            replace hx116_0 := (HB.out.cell (World.block_lt_of_cell? w _ hx116_0)).trans hx116_0
            replace p116 := eq_true p116
            replace q116 := eq_true q116
            go_wp2_with (first | (go_at_call 72; (with_reducible refine (letter_Key.calls (rdOf ByteArray.empty l0_7 0) true _ A25.out).mono ?_); rintro e w' ⟨rfl, ⟨nd, rfl⟩⟩; (try first | exact ⟨rfl, _, World.drewN_drewN _ _ _⟩ | exact ⟨rfl, _, Eq.trans (World.drewN_drewN _ _ _) (congrArg (World.drewN _) (Nat.add_assoc _ _ _))⟩)))
            repeat (go_quiet (first | (go_at_call 72; (with_reducible refine (letter_Key.calls (rdOf ByteArray.empty l0_7 0) true _ A25.out).mono ?_); rintro e w' ⟨rfl, ⟨nd, rfl⟩⟩; (try first | exact ⟨rfl, _, World.drewN_drewN _ _ _⟩ | exact ⟨rfl, _, Eq.trans (World.drewN_drewN _ _ _) (congrArg (World.drewN _) (Nat.add_assoc _ _ _))⟩))); try go_wp2_with (first | (go_at_call 72; (with_reducible refine (letter_Key.calls (rdOf ByteArray.empty l0_7 0) true _ A25.out).mono ?_); rintro e w' ⟨rfl, ⟨nd, rfl⟩⟩; (try first | exact ⟨rfl, _, World.drewN_drewN _ _ _⟩ | exact ⟨rfl, _, Eq.trans (World.drewN_drewN _ _ _) (congrArg (World.drewN _) (Nat.add_assoc _ _ _))⟩))))
            go_ret
            exact ⟨by first | rfl | (simp [errW_none, errW_some] <;> rfl) | (simp [*, errW_none, errW_some] <;> rfl), by repeat (first | (with_reducible first | exact HB.out | apply below_alloc | apply pw_below_drewN | apply below_drew1 | refine below_set ?_ GE113.out) | exact HB.out)⟩
          ·replace c28 := Bool.eq_false_iff.mpr c28
           subst c28
           have H1 : (some 70) = some r := by rw [if_neg (show ¬ (false = true) by decide)] at H; exact H
           clear H
           have H := H1
           clear H1
           obtain rfl := Option.some.inj H
           have hcz32_0 : wc.cell? ⟨gb113, 0, none⟩ = some (.int .i64 a0_0) := (blk_cell BK113.out 0).trans rfl
           have hcz32_1 : wc.cell? ⟨gb113, 1, none⟩ = some (.int .i64 a0_1) := (blk_cell BK113.out 1).trans rfl
           have hcz32_2 : wc.cell? ⟨gb113, 2, none⟩ = some (.int .i64 a0_2) := (blk_cell BK113.out 2).trans rfl
           have hcz32_3 : wc.cell? ⟨gb113, 3, none⟩ = some (.int .i64 a0_3) := (blk_cell BK113.out 3).trans rfl
           have hcz32_4 : wc.cell? ⟨gb113, 4, none⟩ = some (.int .i64 a0_4) := (blk_cell BK113.out 4).trans rfl
           have hcz32_5 : wc.cell? ⟨gb113, 5, none⟩ = some (.int .i64 a0_5) := (blk_cell BK113.out 5).trans rfl
           have hcz32_6 : wc.cell? ⟨gb113, 6, none⟩ = some (.string a0_6) := (blk_cell BK113.out 6).trans rfl
           have hcz32_7 : wc.cell? ⟨gb113, 7, none⟩ = some (.slice A0_7 l0_7.length c0_7) := (blk_cell BK113.out 7).trans rfl
           have hcz32_8 : wc.cell? ⟨gb113, 8, none⟩ = some (.slice A0_8 l0_8.length c0_8) := (blk_cell BK113.out 8).trans rfl
           have hfz32_0 := blk_frozen BK113.out 0
           have hfz32_1 := blk_frozen BK113.out 1
           have hfz32_2 := blk_frozen BK113.out 2
           have hfz32_3 := blk_frozen BK113.out 3
           have hfz32_4 := blk_frozen BK113.out 4
           have hfz32_5 := blk_frozen BK113.out 5
           have hfz32_6 := blk_frozen BK113.out 6
           have hfz32_7 := blk_frozen BK113.out 7
           have hfz32_8 := blk_frozen BK113.out 8
           have p116 : 0 ≤ (0 : Int) := (by omega)
           have q116 : 0 < (l0_7.length : Int) := of_decide_eq_true (by first | (with_reducible assumption) | assumption)
           obtain ⟨ad116, e116, hx116_0⟩ := Kd.at_string HR0_7.out 0 p116 q116
           cases e116
           have qi116 : (0 < l0_7.length) = True := eq_true (by omega)
           (try rw [show ((0 : Int)).toNat = 0 from rfl] at hx116_0)
           (try rw [Addr.add_zero'] at hx116_0)
           replace hx116_0 := (HB.out.cell (World.block_lt_of_cell? w _ hx116_0)).trans hx116_0
           replace p116 := eq_true p116
           replace q116 := eq_true q116
           go_wp2_with (first | (go_at_call 72; (with_reducible refine (letter_Key.calls (rdOf ByteArray.empty l0_7 0) false _ A25.out).mono ?_); rintro e w' ⟨rfl, ⟨nd, rfl⟩⟩; (try first | exact ⟨rfl, _, World.drewN_drewN _ _ _⟩ | exact ⟨rfl, _, Eq.trans (World.drewN_drewN _ _ _) (congrArg (World.drewN _) (Nat.add_assoc _ _ _))⟩)))
           repeat (go_quiet (first | (go_at_call 72; (with_reducible refine (letter_Key.calls (rdOf ByteArray.empty l0_7 0) false _ A25.out).mono ?_); rintro e w' ⟨rfl, ⟨nd, rfl⟩⟩; (try first | exact ⟨rfl, _, World.drewN_drewN _ _ _⟩ | exact ⟨rfl, _, Eq.trans (World.drewN_drewN _ _ _) (congrArg (World.drewN _) (Nat.add_assoc _ _ _))⟩))); try go_wp2_with (first | (go_at_call 72; (with_reducible refine (letter_Key.calls (rdOf ByteArray.empty l0_7 0) false _ A25.out).mono ?_); rintro e w' ⟨rfl, ⟨nd, rfl⟩⟩; (try first | exact ⟨rfl, _, World.drewN_drewN _ _ _⟩ | exact ⟨rfl, _, Eq.trans (World.drewN_drewN _ _ _) (congrArg (World.drewN _) (Nat.add_assoc _ _ _))⟩))))
           go_ret
           exact ⟨by first | rfl | (simp [errW_none, errW_some] <;> rfl) | (simp [*, errW_none, errW_some] <;> rfl), by repeat (first | (with_reducible first | exact HB.out | apply below_alloc | apply pw_below_drewN | apply below_drew1 | refine below_set ?_ GE113.out) | exact HB.out)⟩
        ·rw [if_neg c24] at H
         exact absurd H (by simp)
       ·rw [if_neg c23] at H
        have c23b0 : ((l0_7.length : Int) == 1) = false := beq_eq_false_iff_ne.mpr c23
        have c23b1 : ((l0_7.length : Int) != 1) = true := bne_iff_ne.mpr c23
        by_cases c33 : a0_5 > 4
        ·rw [if_pos c33] at H
         have c33b0 : decide (4 < a0_5) = true := decide_eq_true c33
         clear c33
         obtain rfl := Option.some.inj H
         have hcz34_0 : wc.cell? ⟨gb113, 0, none⟩ = some (.int .i64 a0_0) := (blk_cell BK113.out 0).trans rfl
         have hcz34_1 : wc.cell? ⟨gb113, 1, none⟩ = some (.int .i64 a0_1) := (blk_cell BK113.out 1).trans rfl
         have hcz34_2 : wc.cell? ⟨gb113, 2, none⟩ = some (.int .i64 a0_2) := (blk_cell BK113.out 2).trans rfl
         have hcz34_3 : wc.cell? ⟨gb113, 3, none⟩ = some (.int .i64 a0_3) := (blk_cell BK113.out 3).trans rfl
         have hcz34_4 : wc.cell? ⟨gb113, 4, none⟩ = some (.int .i64 a0_4) := (blk_cell BK113.out 4).trans rfl
         have hcz34_5 : wc.cell? ⟨gb113, 5, none⟩ = some (.int .i64 a0_5) := (blk_cell BK113.out 5).trans rfl
         have hcz34_6 : wc.cell? ⟨gb113, 6, none⟩ = some (.string a0_6) := (blk_cell BK113.out 6).trans rfl
         have hcz34_7 : wc.cell? ⟨gb113, 7, none⟩ = some (.slice A0_7 l0_7.length c0_7) := (blk_cell BK113.out 7).trans rfl
         have hcz34_8 : wc.cell? ⟨gb113, 8, none⟩ = some (.slice A0_8 l0_8.length c0_8) := (blk_cell BK113.out 8).trans rfl
         have hfz34_0 := blk_frozen BK113.out 0
         have hfz34_1 := blk_frozen BK113.out 1
         have hfz34_2 := blk_frozen BK113.out 2
         have hfz34_3 := blk_frozen BK113.out 3
         have hfz34_4 := blk_frozen BK113.out 4
         have hfz34_5 := blk_frozen BK113.out 5
         have hfz34_6 := blk_frozen BK113.out 6
         have hfz34_7 := blk_frozen BK113.out 7
         have hfz34_8 := blk_frozen BK113.out 8
         go_wp2
         repeat (go_quiet (fail); try go_wp2)
         go_ret
         exact ⟨by first | rfl | (simp [errW_none, errW_some] <;> rfl) | (simp [*, errW_none, errW_some] <;> rfl), by repeat (first | (with_reducible first | exact HB.out | apply below_alloc | apply pw_below_drewN | apply below_drew1 | refine below_set ?_ GE113.out) | exact HB.out)⟩
        ·rw [if_neg c33] at H
         have c33b0 : decide (4 < a0_5) = false := decide_eq_false c33
         clear c33
         obtain rfl := Option.some.inj H
         have hcz35_0 : wc.cell? ⟨gb113, 0, none⟩ = some (.int .i64 a0_0) := (blk_cell BK113.out 0).trans rfl
         have hcz35_1 : wc.cell? ⟨gb113, 1, none⟩ = some (.int .i64 a0_1) := (blk_cell BK113.out 1).trans rfl
         have hcz35_2 : wc.cell? ⟨gb113, 2, none⟩ = some (.int .i64 a0_2) := (blk_cell BK113.out 2).trans rfl
         have hcz35_3 : wc.cell? ⟨gb113, 3, none⟩ = some (.int .i64 a0_3) := (blk_cell BK113.out 3).trans rfl
         have hcz35_4 : wc.cell? ⟨gb113, 4, none⟩ = some (.int .i64 a0_4) := (blk_cell BK113.out 4).trans rfl
         have hcz35_5 : wc.cell? ⟨gb113, 5, none⟩ = some (.int .i64 a0_5) := (blk_cell BK113.out 5).trans rfl
         have hcz35_6 : wc.cell? ⟨gb113, 6, none⟩ = some (.string a0_6) := (blk_cell BK113.out 6).trans rfl
         have hcz35_7 : wc.cell? ⟨gb113, 7, none⟩ = some (.slice A0_7 l0_7.length c0_7) := (blk_cell BK113.out 7).trans rfl
         have hcz35_8 : wc.cell? ⟨gb113, 8, none⟩ = some (.slice A0_8 l0_8.length c0_8) := (blk_cell BK113.out 8).trans rfl
         have hfz35_0 := blk_frozen BK113.out 0
         have hfz35_1 := blk_frozen BK113.out 1
         have hfz35_2 := blk_frozen BK113.out 2
         have hfz35_3 := blk_frozen BK113.out 3
         have hfz35_4 := blk_frozen BK113.out 4
         have hfz35_5 := blk_frozen BK113.out 5
         have hfz35_6 := blk_frozen BK113.out 6
         have hfz35_7 := blk_frozen BK113.out 7
         have hfz35_8 := blk_frozen BK113.out 8
         go_wp2
         repeat (go_quiet (fail); try go_wp2)
         go_ret
         exact ⟨by first | rfl | (simp [errW_none, errW_some] <;> rfl) | (simp [*, errW_none, errW_some] <;> rfl), by repeat (first | (with_reducible first | exact HB.out | apply below_alloc | apply pw_below_drewN | apply below_drew1 | refine below_set ?_ GE113.out) | exact HB.out)⟩
      ·rw [if_neg c22] at H
       have c22b0 : (a0_6.toList == ([] : List UInt8)) = false := beq_eq_false_iff_ne.mpr c22
       have c22b1 : (a0_6.toList != ([] : List UInt8)) = true := bne_iff_ne.mpr c22
       by_cases c36 : (l0_7.length : Int) = 1
       ·rw [if_pos c36] at H
        have c36b0 : ((l0_7.length : Int) == 1) = true := beq_iff_eq.mpr c36
        have c36b1 : ((l0_7.length : Int) != 1) = false := bne_eq_false_iff_eq.mpr c36
        clear c36
        by_cases c37 : 0 < (l0_7.length : Int)
        ·rw [if_pos c37] at H
         have c37b0 : decide (0 < (l0_7.length : Int)) = true := decide_eq_true c37
         have c37b1 : decide (0 < l0_7.length) = true := decide_eq_true (by omega)
         clear c37
         replace H := Option.bind_eq_some_iff.mp H
         obtain ⟨t119, A380, H⟩ := H
         replace H : (if a0_5 > 4 then (some 70) else (if t119 = true then (if (l0_8.length : Int) = 0 then (if a0_5 = 1 then (some 0) else (some 70)) else (some 70)) else (some 70))) = some r := H
         have A38 := Aside0.mk A380
         clear A380
         by_cases c39 : a0_5 > 4
         ·rw [if_pos c39] at H
          have c39b0 : decide (4 < a0_5) = true := decide_eq_true c39
          clear c39
          obtain rfl := Option.some.inj H
          have hcz40_0 : wc.cell? ⟨gb113, 0, none⟩ = some (.int .i64 a0_0) := (blk_cell BK113.out 0).trans rfl
          have hcz40_1 : wc.cell? ⟨gb113, 1, none⟩ = some (.int .i64 a0_1) := (blk_cell BK113.out 1).trans rfl
          have hcz40_2 : wc.cell? ⟨gb113, 2, none⟩ = some (.int .i64 a0_2) := (blk_cell BK113.out 2).trans rfl
          have hcz40_3 : wc.cell? ⟨gb113, 3, none⟩ = some (.int .i64 a0_3) := (blk_cell BK113.out 3).trans rfl
          have hcz40_4 : wc.cell? ⟨gb113, 4, none⟩ = some (.int .i64 a0_4) := (blk_cell BK113.out 4).trans rfl
          have hcz40_5 : wc.cell? ⟨gb113, 5, none⟩ = some (.int .i64 a0_5) := (blk_cell BK113.out 5).trans rfl
          have hcz40_6 : wc.cell? ⟨gb113, 6, none⟩ = some (.string a0_6) := (blk_cell BK113.out 6).trans rfl
          have hcz40_7 : wc.cell? ⟨gb113, 7, none⟩ = some (.slice A0_7 l0_7.length c0_7) := (blk_cell BK113.out 7).trans rfl
          have hcz40_8 : wc.cell? ⟨gb113, 8, none⟩ = some (.slice A0_8 l0_8.length c0_8) := (blk_cell BK113.out 8).trans rfl
          have hfz40_0 := blk_frozen BK113.out 0
          have hfz40_1 := blk_frozen BK113.out 1
          have hfz40_2 := blk_frozen BK113.out 2
          have hfz40_3 := blk_frozen BK113.out 3
          have hfz40_4 := blk_frozen BK113.out 4
          have hfz40_5 := blk_frozen BK113.out 5
          have hfz40_6 := blk_frozen BK113.out 6
          have hfz40_7 := blk_frozen BK113.out 7
          have hfz40_8 := blk_frozen BK113.out 8
          have p118 : 0 ≤ (0 : Int) := (by omega)
          have q118 : 0 < (l0_7.length : Int) := of_decide_eq_true (by first | (with_reducible assumption) | assumption)
          obtain ⟨ad118, e118, hx118_0⟩ := Kd.at_string HR0_7.out 0 p118 q118
          cases e118
          have qi118 : (0 < l0_7.length) = True := eq_true (by omega)
          (try rw [show ((0 : Int)).toNat = 0 from rfl] at hx118_0)
          (try rw [Addr.add_zero'] at hx118_0)
          replace hx118_0 := (HB.out.cell (World.block_lt_of_cell? w _ hx118_0)).trans hx118_0
          replace p118 := eq_true p118
          replace q118 := eq_true q118
          go_wp2_with (first | (go_at_call 72; (with_reducible refine (letter_Key.calls (rdOf ByteArray.empty l0_7 0) t119 _ A38.out).mono ?_); rintro e w' ⟨rfl, ⟨nd, rfl⟩⟩; (try first | exact ⟨rfl, _, World.drewN_drewN _ _ _⟩ | exact ⟨rfl, _, Eq.trans (World.drewN_drewN _ _ _) (congrArg (World.drewN _) (Nat.add_assoc _ _ _))⟩)))
          repeat (go_quiet (first | (go_at_call 72; (with_reducible refine (letter_Key.calls (rdOf ByteArray.empty l0_7 0) t119 _ A38.out).mono ?_); rintro e w' ⟨rfl, ⟨nd, rfl⟩⟩; (try first | exact ⟨rfl, _, World.drewN_drewN _ _ _⟩ | exact ⟨rfl, _, Eq.trans (World.drewN_drewN _ _ _) (congrArg (World.drewN _) (Nat.add_assoc _ _ _))⟩))); try go_wp2_with (first | (go_at_call 72; (with_reducible refine (letter_Key.calls (rdOf ByteArray.empty l0_7 0) t119 _ A38.out).mono ?_); rintro e w' ⟨rfl, ⟨nd, rfl⟩⟩; (try first | exact ⟨rfl, _, World.drewN_drewN _ _ _⟩ | exact ⟨rfl, _, Eq.trans (World.drewN_drewN _ _ _) (congrArg (World.drewN _) (Nat.add_assoc _ _ _))⟩))))
          go_ret
          exact ⟨by first | rfl | (simp [errW_none, errW_some] <;> rfl) | (simp [*, errW_none, errW_some] <;> rfl), by repeat (first | (with_reducible first | exact HB.out | apply below_alloc | apply pw_below_drewN | apply below_drew1 | refine below_set ?_ GE113.out) | exact HB.out)⟩
         ·rw [if_neg c39] at H
          have c39b0 : decide (4 < a0_5) = false := decide_eq_false c39
          clear c39
          by_cases c41 : t119 = true
          ·subst c41
           have H1 : (if (l0_8.length : Int) = 0 then (if a0_5 = 1 then (some 0) else (some 70)) else (some 70)) = some r := by rw [if_pos rfl] at H; exact H
           clear H
           have H := H1
           clear H1
           by_cases c42 : (l0_8.length : Int) = 0
           ·rw [if_pos c42] at H
            have c42b0 : ((l0_8.length : Int) == 0) = true := beq_iff_eq.mpr c42
            have c42b1 : ((l0_8.length : Int) != 0) = false := bne_eq_false_iff_eq.mpr c42
            clear c42
            by_cases c43 : a0_5 = 1
            ·rw [if_pos c43] at H
             have c43b0 : (a0_5 == 1) = true := beq_iff_eq.mpr c43
             have c43b1 : (a0_5 != 1) = false := bne_eq_false_iff_eq.mpr c43
             clear c43
             obtain rfl := Option.some.inj H
             have hcz44_0 : wc.cell? ⟨gb113, 0, none⟩ = some (.int .i64 a0_0) := (blk_cell BK113.out 0).trans rfl
             have hcz44_1 : wc.cell? ⟨gb113, 1, none⟩ = some (.int .i64 a0_1) := (blk_cell BK113.out 1).trans rfl
             have hcz44_2 : wc.cell? ⟨gb113, 2, none⟩ = some (.int .i64 a0_2) := (blk_cell BK113.out 2).trans rfl
             have hcz44_3 : wc.cell? ⟨gb113, 3, none⟩ = some (.int .i64 a0_3) := (blk_cell BK113.out 3).trans rfl
             have hcz44_4 : wc.cell? ⟨gb113, 4, none⟩ = some (.int .i64 a0_4) := (blk_cell BK113.out 4).trans rfl
             have hcz44_5 : wc.cell? ⟨gb113, 5, none⟩ = some (.int .i64 a0_5) := (blk_cell BK113.out 5).trans rfl
             have hcz44_6 : wc.cell? ⟨gb113, 6, none⟩ = some (.string a0_6) := (blk_cell BK113.out 6).trans rfl
             have hcz44_7 : wc.cell? ⟨gb113, 7, none⟩ = some (.slice A0_7 l0_7.length c0_7) := (blk_cell BK113.out 7).trans rfl
             have hcz44_8 : wc.cell? ⟨gb113, 8, none⟩ = some (.slice A0_8 l0_8.length c0_8) := (blk_cell BK113.out 8).trans rfl
             have hfz44_0 := blk_frozen BK113.out 0
             have hfz44_1 := blk_frozen BK113.out 1
             have hfz44_2 := blk_frozen BK113.out 2
             have hfz44_3 := blk_frozen BK113.out 3
             have hfz44_4 := blk_frozen BK113.out 4
             have hfz44_5 := blk_frozen BK113.out 5
             have hfz44_6 := blk_frozen BK113.out 6
             have hfz44_7 := blk_frozen BK113.out 7
             have hfz44_8 := blk_frozen BK113.out 8
             have p118 : 0 ≤ (0 : Int) := (by omega)
             have q118 : 0 < (l0_7.length : Int) := of_decide_eq_true (by first | (with_reducible assumption) | assumption)
             obtain ⟨ad118, e118, hx118_0⟩ := Kd.at_string HR0_7.out 0 p118 q118
             cases e118
             have qi118 : (0 < l0_7.length) = True := eq_true (by omega)
             (try rw [show ((0 : Int)).toNat = 0 from rfl] at hx118_0)
             (try rw [Addr.add_zero'] at hx118_0)
             replace hx118_0 := (HB.out.cell (World.block_lt_of_cell? w _ hx118_0)).trans hx118_0
             replace p118 := eq_true p118
             replace q118 := eq_true q118
             go_wp2_with (first | (go_at_call 72; (with_reducible refine (letter_Key.calls (rdOf ByteArray.empty l0_7 0) true _ A38.out).mono ?_); rintro e w' ⟨rfl, ⟨nd, rfl⟩⟩; (try first | exact ⟨rfl, _, World.drewN_drewN _ _ _⟩ | exact ⟨rfl, _, Eq.trans (World.drewN_drewN _ _ _) (congrArg (World.drewN _) (Nat.add_assoc _ _ _))⟩)))
             repeat (go_quiet (first | (go_at_call 72; (with_reducible refine (letter_Key.calls (rdOf ByteArray.empty l0_7 0) true _ A38.out).mono ?_); rintro e w' ⟨rfl, ⟨nd, rfl⟩⟩; (try first | exact ⟨rfl, _, World.drewN_drewN _ _ _⟩ | exact ⟨rfl, _, Eq.trans (World.drewN_drewN _ _ _) (congrArg (World.drewN _) (Nat.add_assoc _ _ _))⟩))); try go_wp2_with (first | (go_at_call 72; (with_reducible refine (letter_Key.calls (rdOf ByteArray.empty l0_7 0) true _ A38.out).mono ?_); rintro e w' ⟨rfl, ⟨nd, rfl⟩⟩; (try first | exact ⟨rfl, _, World.drewN_drewN _ _ _⟩ | exact ⟨rfl, _, Eq.trans (World.drewN_drewN _ _ _) (congrArg (World.drewN _) (Nat.add_assoc _ _ _))⟩))))
             go_ret
             exact ⟨by first | rfl | (simp [errW_none, errW_some] <;> rfl) | (simp [*, errW_none, errW_some] <;> rfl), by repeat (first | (with_reducible first | exact HB.out | apply below_alloc | apply pw_below_drewN | apply below_drew1 | refine below_set ?_ GE113.out) | exact HB.out)⟩
            ·rw [if_neg c43] at H
             have c43b0 : (a0_5 == 1) = false := beq_eq_false_iff_ne.mpr c43
             have c43b1 : (a0_5 != 1) = true := bne_iff_ne.mpr c43
             obtain rfl := Option.some.inj H
             have hcz45_0 : wc.cell? ⟨gb113, 0, none⟩ = some (.int .i64 a0_0) := (blk_cell BK113.out 0).trans rfl
             have hcz45_1 : wc.cell? ⟨gb113, 1, none⟩ = some (.int .i64 a0_1) := (blk_cell BK113.out 1).trans rfl
             have hcz45_2 : wc.cell? ⟨gb113, 2, none⟩ = some (.int .i64 a0_2) := (blk_cell BK113.out 2).trans rfl
             have hcz45_3 : wc.cell? ⟨gb113, 3, none⟩ = some (.int .i64 a0_3) := (blk_cell BK113.out 3).trans rfl
             have hcz45_4 : wc.cell? ⟨gb113, 4, none⟩ = some (.int .i64 a0_4) := (blk_cell BK113.out 4).trans rfl
             have hcz45_5 : wc.cell? ⟨gb113, 5, none⟩ = some (.int .i64 a0_5) := (blk_cell BK113.out 5).trans rfl
             have hcz45_6 : wc.cell? ⟨gb113, 6, none⟩ = some (.string a0_6) := (blk_cell BK113.out 6).trans rfl
             have hcz45_7 : wc.cell? ⟨gb113, 7, none⟩ = some (.slice A0_7 l0_7.length c0_7) := (blk_cell BK113.out 7).trans rfl
             have hcz45_8 : wc.cell? ⟨gb113, 8, none⟩ = some (.slice A0_8 l0_8.length c0_8) := (blk_cell BK113.out 8).trans rfl
             have hfz45_0 := blk_frozen BK113.out 0
             have hfz45_1 := blk_frozen BK113.out 1
             have hfz45_2 := blk_frozen BK113.out 2
             have hfz45_3 := blk_frozen BK113.out 3
             have hfz45_4 := blk_frozen BK113.out 4
             have hfz45_5 := blk_frozen BK113.out 5
             have hfz45_6 := blk_frozen BK113.out 6
             have hfz45_7 := blk_frozen BK113.out 7
             have hfz45_8 := blk_frozen BK113.out 8
             have p118 : 0 ≤ (0 : Int) := (by omega)
             have q118 : 0 < (l0_7.length : Int) := of_decide_eq_true (by first | (with_reducible assumption) | assumption)
             obtain ⟨ad118, e118, hx118_0⟩ := Kd.at_string HR0_7.out 0 p118 q118
             cases e118
             have qi118 : (0 < l0_7.length) = True := eq_true (by omega)
             (try rw [show ((0 : Int)).toNat = 0 from rfl] at hx118_0)
             (try rw [Addr.add_zero'] at hx118_0)
             replace hx118_0 := (HB.out.cell (World.block_lt_of_cell? w _ hx118_0)).trans hx118_0
             replace p118 := eq_true p118
             replace q118 := eq_true q118
             go_wp2_with (first | (go_at_call 72; (with_reducible refine (letter_Key.calls (rdOf ByteArray.empty l0_7 0) true _ A38.out).mono ?_); rintro e w' ⟨rfl, ⟨nd, rfl⟩⟩; (try first | exact ⟨rfl, _, World.drewN_drewN _ _ _⟩ | exact ⟨rfl, _, Eq.trans (World.drewN_drewN _ _ _) (congrArg (World.drewN _) (Nat.add_assoc _ _ _))⟩)))
             repeat (go_quiet (first | (go_at_call 72; (with_reducible refine (letter_Key.calls (rdOf ByteArray.empty l0_7 0) true _ A38.out).mono ?_); rintro e w' ⟨rfl, ⟨nd, rfl⟩⟩; (try first | exact ⟨rfl, _, World.drewN_drewN _ _ _⟩ | exact ⟨rfl, _, Eq.trans (World.drewN_drewN _ _ _) (congrArg (World.drewN _) (Nat.add_assoc _ _ _))⟩))); try go_wp2_with (first | (go_at_call 72; (with_reducible refine (letter_Key.calls (rdOf ByteArray.empty l0_7 0) true _ A38.out).mono ?_); rintro e w' ⟨rfl, ⟨nd, rfl⟩⟩; (try first | exact ⟨rfl, _, World.drewN_drewN _ _ _⟩ | exact ⟨rfl, _, Eq.trans (World.drewN_drewN _ _ _) (congrArg (World.drewN _) (Nat.add_assoc _ _ _))⟩))))
             go_ret
             exact ⟨by first | rfl | (simp [errW_none, errW_some] <;> rfl) | (simp [*, errW_none, errW_some] <;> rfl), by repeat (first | (with_reducible first | exact HB.out | apply below_alloc | apply pw_below_drewN | apply below_drew1 | refine below_set ?_ GE113.out) | exact HB.out)⟩
           ·rw [if_neg c42] at H
            have c42b0 : ((l0_8.length : Int) == 0) = false := beq_eq_false_iff_ne.mpr c42
            have c42b1 : ((l0_8.length : Int) != 0) = true := bne_iff_ne.mpr c42
            have c42b2 : ¬ (l0_8 = []) := fun h_ => c42 (by rw [h_]; rfl)
            obtain rfl := Option.some.inj H
            have hcz46_0 : wc.cell? ⟨gb113, 0, none⟩ = some (.int .i64 a0_0) := (blk_cell BK113.out 0).trans rfl
            have hcz46_1 : wc.cell? ⟨gb113, 1, none⟩ = some (.int .i64 a0_1) := (blk_cell BK113.out 1).trans rfl
            have hcz46_2 : wc.cell? ⟨gb113, 2, none⟩ = some (.int .i64 a0_2) := (blk_cell BK113.out 2).trans rfl
            have hcz46_3 : wc.cell? ⟨gb113, 3, none⟩ = some (.int .i64 a0_3) := (blk_cell BK113.out 3).trans rfl
            have hcz46_4 : wc.cell? ⟨gb113, 4, none⟩ = some (.int .i64 a0_4) := (blk_cell BK113.out 4).trans rfl
            have hcz46_5 : wc.cell? ⟨gb113, 5, none⟩ = some (.int .i64 a0_5) := (blk_cell BK113.out 5).trans rfl
            have hcz46_6 : wc.cell? ⟨gb113, 6, none⟩ = some (.string a0_6) := (blk_cell BK113.out 6).trans rfl
            have hcz46_7 : wc.cell? ⟨gb113, 7, none⟩ = some (.slice A0_7 l0_7.length c0_7) := (blk_cell BK113.out 7).trans rfl
            have hcz46_8 : wc.cell? ⟨gb113, 8, none⟩ = some (.slice A0_8 l0_8.length c0_8) := (blk_cell BK113.out 8).trans rfl
            have hfz46_0 := blk_frozen BK113.out 0
            have hfz46_1 := blk_frozen BK113.out 1
            have hfz46_2 := blk_frozen BK113.out 2
            have hfz46_3 := blk_frozen BK113.out 3
            have hfz46_4 := blk_frozen BK113.out 4
            have hfz46_5 := blk_frozen BK113.out 5
            have hfz46_6 := blk_frozen BK113.out 6
            have hfz46_7 := blk_frozen BK113.out 7
            have hfz46_8 := blk_frozen BK113.out 8
            have p118 : 0 ≤ (0 : Int) := (by omega)
            have q118 : 0 < (l0_7.length : Int) := of_decide_eq_true (by first | (with_reducible assumption) | assumption)
            obtain ⟨ad118, e118, hx118_0⟩ := Kd.at_string HR0_7.out 0 p118 q118
            cases e118
            have qi118 : (0 < l0_7.length) = True := eq_true (by omega)
            (try rw [show ((0 : Int)).toNat = 0 from rfl] at hx118_0)
            (try rw [Addr.add_zero'] at hx118_0)
            replace hx118_0 := (HB.out.cell (World.block_lt_of_cell? w _ hx118_0)).trans hx118_0
            replace p118 := eq_true p118
            replace q118 := eq_true q118
            go_wp2_with (first | (go_at_call 72; (with_reducible refine (letter_Key.calls (rdOf ByteArray.empty l0_7 0) true _ A38.out).mono ?_); rintro e w' ⟨rfl, ⟨nd, rfl⟩⟩; (try first | exact ⟨rfl, _, World.drewN_drewN _ _ _⟩ | exact ⟨rfl, _, Eq.trans (World.drewN_drewN _ _ _) (congrArg (World.drewN _) (Nat.add_assoc _ _ _))⟩)))
            repeat (go_quiet (first | (go_at_call 72; (with_reducible refine (letter_Key.calls (rdOf ByteArray.empty l0_7 0) true _ A38.out).mono ?_); rintro e w' ⟨rfl, ⟨nd, rfl⟩⟩; (try first | exact ⟨rfl, _, World.drewN_drewN _ _ _⟩ | exact ⟨rfl, _, Eq.trans (World.drewN_drewN _ _ _) (congrArg (World.drewN _) (Nat.add_assoc _ _ _))⟩))); try go_wp2_with (first | (go_at_call 72; (with_reducible refine (letter_Key.calls (rdOf ByteArray.empty l0_7 0) true _ A38.out).mono ?_); rintro e w' ⟨rfl, ⟨nd, rfl⟩⟩; (try first | exact ⟨rfl, _, World.drewN_drewN _ _ _⟩ | exact ⟨rfl, _, Eq.trans (World.drewN_drewN _ _ _) (congrArg (World.drewN _) (Nat.add_assoc _ _ _))⟩))))
            go_ret
            exact ⟨by first | rfl | (simp [errW_none, errW_some] <;> rfl) | (simp [*, errW_none, errW_some] <;> rfl), by repeat (first | (with_reducible first | exact HB.out | apply below_alloc | apply pw_below_drewN | apply below_drew1 | refine below_set ?_ GE113.out) | exact HB.out)⟩
          ·replace c41 := Bool.eq_false_iff.mpr c41
           subst c41
           have H1 : (some 70) = some r := by rw [if_neg (show ¬ (false = true) by decide)] at H; exact H
           clear H
           have H := H1
           clear H1
           obtain rfl := Option.some.inj H
           have hcz47_0 : wc.cell? ⟨gb113, 0, none⟩ = some (.int .i64 a0_0) := (blk_cell BK113.out 0).trans rfl
           have hcz47_1 : wc.cell? ⟨gb113, 1, none⟩ = some (.int .i64 a0_1) := (blk_cell BK113.out 1).trans rfl
           have hcz47_2 : wc.cell? ⟨gb113, 2, none⟩ = some (.int .i64 a0_2) := (blk_cell BK113.out 2).trans rfl
           have hcz47_3 : wc.cell? ⟨gb113, 3, none⟩ = some (.int .i64 a0_3) := (blk_cell BK113.out 3).trans rfl
           have hcz47_4 : wc.cell? ⟨gb113, 4, none⟩ = some (.int .i64 a0_4) := (blk_cell BK113.out 4).trans rfl
           have hcz47_5 : wc.cell? ⟨gb113, 5, none⟩ = some (.int .i64 a0_5) := (blk_cell BK113.out 5).trans rfl
           have hcz47_6 : wc.cell? ⟨gb113, 6, none⟩ = some (.string a0_6) := (blk_cell BK113.out 6).trans rfl
           have hcz47_7 : wc.cell? ⟨gb113, 7, none⟩ = some (.slice A0_7 l0_7.length c0_7) := (blk_cell BK113.out 7).trans rfl
           have hcz47_8 : wc.cell? ⟨gb113, 8, none⟩ = some (.slice A0_8 l0_8.length c0_8) := (blk_cell BK113.out 8).trans rfl
           have hfz47_0 := blk_frozen BK113.out 0
           have hfz47_1 := blk_frozen BK113.out 1
           have hfz47_2 := blk_frozen BK113.out 2
           have hfz47_3 := blk_frozen BK113.out 3
           have hfz47_4 := blk_frozen BK113.out 4
           have hfz47_5 := blk_frozen BK113.out 5
           have hfz47_6 := blk_frozen BK113.out 6
           have hfz47_7 := blk_frozen BK113.out 7
           have hfz47_8 := blk_frozen BK113.out 8
           have p118 : 0 ≤ (0 : Int) := (by omega)
           have q118 : 0 < (l0_7.length : Int) := of_decide_eq_true (by first | (with_reducible assumption) | assumption)
           obtain ⟨ad118, e118, hx118_0⟩ := Kd.at_string HR0_7.out 0 p118 q118
           cases e118
           have qi118 : (0 < l0_7.length) = True := eq_true (by omega)
           (try rw [show ((0 : Int)).toNat = 0 from rfl] at hx118_0)
           (try rw [Addr.add_zero'] at hx118_0)
           replace hx118_0 := (HB.out.cell (World.block_lt_of_cell? w _ hx118_0)).trans hx118_0
           replace p118 := eq_true p118
           replace q118 := eq_true q118
           go_wp2_with (first | (go_at_call 72; (with_reducible refine (letter_Key.calls (rdOf ByteArray.empty l0_7 0) false _ A38.out).mono ?_); rintro e w' ⟨rfl, ⟨nd, rfl⟩⟩; (try first | exact ⟨rfl, _, World.drewN_drewN _ _ _⟩ | exact ⟨rfl, _, Eq.trans (World.drewN_drewN _ _ _) (congrArg (World.drewN _) (Nat.add_assoc _ _ _))⟩)))
           repeat (go_quiet (first | (go_at_call 72; (with_reducible refine (letter_Key.calls (rdOf ByteArray.empty l0_7 0) false _ A38.out).mono ?_); rintro e w' ⟨rfl, ⟨nd, rfl⟩⟩; (try first | exact ⟨rfl, _, World.drewN_drewN _ _ _⟩ | exact ⟨rfl, _, Eq.trans (World.drewN_drewN _ _ _) (congrArg (World.drewN _) (Nat.add_assoc _ _ _))⟩))); try go_wp2_with (first | (go_at_call 72; (with_reducible refine (letter_Key.calls (rdOf ByteArray.empty l0_7 0) false _ A38.out).mono ?_); rintro e w' ⟨rfl, ⟨nd, rfl⟩⟩; (try first | exact ⟨rfl, _, World.drewN_drewN _ _ _⟩ | exact ⟨rfl, _, Eq.trans (World.drewN_drewN _ _ _) (congrArg (World.drewN _) (Nat.add_assoc _ _ _))⟩))))
           go_ret
           exact ⟨by first | rfl | (simp [errW_none, errW_some] <;> rfl) | (simp [*, errW_none, errW_some] <;> rfl), by repeat (first | (with_reducible first | exact HB.out | apply below_alloc | apply pw_below_drewN | apply below_drew1 | refine below_set ?_ GE113.out) | exact HB.out)⟩
        ·rw [if_neg c37] at H
         exact absurd H (by simp)
       ·rw [if_neg c36] at H
        have c36b0 : ((l0_7.length : Int) == 1) = false := beq_eq_false_iff_ne.mpr c36
        have c36b1 : ((l0_7.length : Int) != 1) = true := bne_iff_ne.mpr c36
        by_cases c48 : a0_5 > 4
        ·rw [if_pos c48] at H
         have c48b0 : decide (4 < a0_5) = true := decide_eq_true c48
         clear c48
         obtain rfl := Option.some.inj H
         have hcz49_0 : wc.cell? ⟨gb113, 0, none⟩ = some (.int .i64 a0_0) := (blk_cell BK113.out 0).trans rfl
         have hcz49_1 : wc.cell? ⟨gb113, 1, none⟩ = some (.int .i64 a0_1) := (blk_cell BK113.out 1).trans rfl
         have hcz49_2 : wc.cell? ⟨gb113, 2, none⟩ = some (.int .i64 a0_2) := (blk_cell BK113.out 2).trans rfl
         have hcz49_3 : wc.cell? ⟨gb113, 3, none⟩ = some (.int .i64 a0_3) := (blk_cell BK113.out 3).trans rfl
         have hcz49_4 : wc.cell? ⟨gb113, 4, none⟩ = some (.int .i64 a0_4) := (blk_cell BK113.out 4).trans rfl
         have hcz49_5 : wc.cell? ⟨gb113, 5, none⟩ = some (.int .i64 a0_5) := (blk_cell BK113.out 5).trans rfl
         have hcz49_6 : wc.cell? ⟨gb113, 6, none⟩ = some (.string a0_6) := (blk_cell BK113.out 6).trans rfl
         have hcz49_7 : wc.cell? ⟨gb113, 7, none⟩ = some (.slice A0_7 l0_7.length c0_7) := (blk_cell BK113.out 7).trans rfl
         have hcz49_8 : wc.cell? ⟨gb113, 8, none⟩ = some (.slice A0_8 l0_8.length c0_8) := (blk_cell BK113.out 8).trans rfl
         have hfz49_0 := blk_frozen BK113.out 0
         have hfz49_1 := blk_frozen BK113.out 1
         have hfz49_2 := blk_frozen BK113.out 2
         have hfz49_3 := blk_frozen BK113.out 3
         have hfz49_4 := blk_frozen BK113.out 4
         have hfz49_5 := blk_frozen BK113.out 5
         have hfz49_6 := blk_frozen BK113.out 6
         have hfz49_7 := blk_frozen BK113.out 7
         have hfz49_8 := blk_frozen BK113.out 8
         go_wp2
         repeat (go_quiet (fail); try go_wp2)
         go_ret
         exact ⟨by first | rfl | (simp [errW_none, errW_some] <;> rfl) | (simp [*, errW_none, errW_some] <;> rfl), by repeat (first | (with_reducible first | exact HB.out | apply below_alloc | apply pw_below_drewN | apply below_drew1 | refine below_set ?_ GE113.out) | exact HB.out)⟩
        ·rw [if_neg c48] at H
         have c48b0 : decide (4 < a0_5) = false := decide_eq_false c48
         clear c48
         obtain rfl := Option.some.inj H
         have hcz50_0 : wc.cell? ⟨gb113, 0, none⟩ = some (.int .i64 a0_0) := (blk_cell BK113.out 0).trans rfl
         have hcz50_1 : wc.cell? ⟨gb113, 1, none⟩ = some (.int .i64 a0_1) := (blk_cell BK113.out 1).trans rfl
         have hcz50_2 : wc.cell? ⟨gb113, 2, none⟩ = some (.int .i64 a0_2) := (blk_cell BK113.out 2).trans rfl
         have hcz50_3 : wc.cell? ⟨gb113, 3, none⟩ = some (.int .i64 a0_3) := (blk_cell BK113.out 3).trans rfl
         have hcz50_4 : wc.cell? ⟨gb113, 4, none⟩ = some (.int .i64 a0_4) := (blk_cell BK113.out 4).trans rfl
         have hcz50_5 : wc.cell? ⟨gb113, 5, none⟩ = some (.int .i64 a0_5) := (blk_cell BK113.out 5).trans rfl
         have hcz50_6 : wc.cell? ⟨gb113, 6, none⟩ = some (.string a0_6) := (blk_cell BK113.out 6).trans rfl
         have hcz50_7 : wc.cell? ⟨gb113, 7, none⟩ = some (.slice A0_7 l0_7.length c0_7) := (blk_cell BK113.out 7).trans rfl
         have hcz50_8 : wc.cell? ⟨gb113, 8, none⟩ = some (.slice A0_8 l0_8.length c0_8) := (blk_cell BK113.out 8).trans rfl
         have hfz50_0 := blk_frozen BK113.out 0
         have hfz50_1 := blk_frozen BK113.out 1
         have hfz50_2 := blk_frozen BK113.out 2
         have hfz50_3 := blk_frozen BK113.out 3
         have hfz50_4 := blk_frozen BK113.out 4
         have hfz50_5 := blk_frozen BK113.out 5
         have hfz50_6 := blk_frozen BK113.out 6
         have hfz50_7 := blk_frozen BK113.out 7
         have hfz50_8 := blk_frozen BK113.out 8
         go_wp2
         repeat (go_quiet (fail); try go_wp2)
         go_ret
         exact ⟨by first | rfl | (simp [errW_none, errW_some] <;> rfl) | (simp [*, errW_none, errW_some] <;> rfl), by repeat (first | (with_reducible first | exact HB.out | apply below_alloc | apply pw_below_drewN | apply below_drew1 | refine below_set ?_ GE113.out) | exact HB.out)⟩
     ·rw [if_neg c21] at H
      have c21b0 : decide ((a0_6.size : Int) ≤ 2052) = false := decide_eq_false c21
      have c21b1 : decide (a0_6.size ≤ 2052) = false := decide_eq_false (by omega)
      clear c21
      by_cases c51 : (l0_7.length : Int) = 1
      ·rw [if_pos c51] at H
       have c51b0 : ((l0_7.length : Int) == 1) = true := beq_iff_eq.mpr c51
       have c51b1 : ((l0_7.length : Int) != 1) = false := bne_eq_false_iff_eq.mpr c51
       clear c51
       by_cases c52 : 0 < (l0_7.length : Int)
       ·rw [if_pos c52] at H
        have c52b0 : decide (0 < (l0_7.length : Int)) = true := decide_eq_true c52
        have c52b1 : decide (0 < l0_7.length) = true := decide_eq_true (by omega)
        clear c52
        replace H := Option.bind_eq_some_iff.mp H
        obtain ⟨t121, A530, H⟩ := H
        replace H : (if a0_5 > 4 then (some 70) else (if t121 = true then (if (l0_8.length : Int) = 0 then (some 70) else (some 70)) else (some 70))) = some r := H
        have A53 := Aside0.mk A530
        clear A530
        by_cases c54 : a0_5 > 4
        ·rw [if_pos c54] at H
         have c54b0 : decide (4 < a0_5) = true := decide_eq_true c54
         clear c54
         obtain rfl := Option.some.inj H
         have hcz55_0 : wc.cell? ⟨gb113, 0, none⟩ = some (.int .i64 a0_0) := (blk_cell BK113.out 0).trans rfl
         have hcz55_1 : wc.cell? ⟨gb113, 1, none⟩ = some (.int .i64 a0_1) := (blk_cell BK113.out 1).trans rfl
         have hcz55_2 : wc.cell? ⟨gb113, 2, none⟩ = some (.int .i64 a0_2) := (blk_cell BK113.out 2).trans rfl
         have hcz55_3 : wc.cell? ⟨gb113, 3, none⟩ = some (.int .i64 a0_3) := (blk_cell BK113.out 3).trans rfl
         have hcz55_4 : wc.cell? ⟨gb113, 4, none⟩ = some (.int .i64 a0_4) := (blk_cell BK113.out 4).trans rfl
         have hcz55_5 : wc.cell? ⟨gb113, 5, none⟩ = some (.int .i64 a0_5) := (blk_cell BK113.out 5).trans rfl
         have hcz55_6 : wc.cell? ⟨gb113, 6, none⟩ = some (.string a0_6) := (blk_cell BK113.out 6).trans rfl
         have hcz55_7 : wc.cell? ⟨gb113, 7, none⟩ = some (.slice A0_7 l0_7.length c0_7) := (blk_cell BK113.out 7).trans rfl
         have hcz55_8 : wc.cell? ⟨gb113, 8, none⟩ = some (.slice A0_8 l0_8.length c0_8) := (blk_cell BK113.out 8).trans rfl
         have hfz55_0 := blk_frozen BK113.out 0
         have hfz55_1 := blk_frozen BK113.out 1
         have hfz55_2 := blk_frozen BK113.out 2
         have hfz55_3 := blk_frozen BK113.out 3
         have hfz55_4 := blk_frozen BK113.out 4
         have hfz55_5 := blk_frozen BK113.out 5
         have hfz55_6 := blk_frozen BK113.out 6
         have hfz55_7 := blk_frozen BK113.out 7
         have hfz55_8 := blk_frozen BK113.out 8
         have p120 : 0 ≤ (0 : Int) := (by omega)
         have q120 : 0 < (l0_7.length : Int) := of_decide_eq_true (by first | (with_reducible assumption) | assumption)
         obtain ⟨ad120, e120, hx120_0⟩ := Kd.at_string HR0_7.out 0 p120 q120
         cases e120
         have qi120 : (0 < l0_7.length) = True := eq_true (by omega)
         (try rw [show ((0 : Int)).toNat = 0 from rfl] at hx120_0)
         (try rw [Addr.add_zero'] at hx120_0)
         replace hx120_0 := (HB.out.cell (World.block_lt_of_cell? w _ hx120_0)).trans hx120_0
         replace p120 := eq_true p120
         replace q120 := eq_true q120
         go_wp2_with (first | (go_at_call 72; (with_reducible refine (letter_Key.calls (rdOf ByteArray.empty l0_7 0) t121 _ A53.out).mono ?_); rintro e w' ⟨rfl, ⟨nd, rfl⟩⟩; (try first | exact ⟨rfl, _, World.drewN_drewN _ _ _⟩ | exact ⟨rfl, _, Eq.trans (World.drewN_drewN _ _ _) (congrArg (World.drewN _) (Nat.add_assoc _ _ _))⟩)))
         repeat (go_quiet (first | (go_at_call 72; (with_reducible refine (letter_Key.calls (rdOf ByteArray.empty l0_7 0) t121 _ A53.out).mono ?_); rintro e w' ⟨rfl, ⟨nd, rfl⟩⟩; (try first | exact ⟨rfl, _, World.drewN_drewN _ _ _⟩ | exact ⟨rfl, _, Eq.trans (World.drewN_drewN _ _ _) (congrArg (World.drewN _) (Nat.add_assoc _ _ _))⟩))); try go_wp2_with (first | (go_at_call 72; (with_reducible refine (letter_Key.calls (rdOf ByteArray.empty l0_7 0) t121 _ A53.out).mono ?_); rintro e w' ⟨rfl, ⟨nd, rfl⟩⟩; (try first | exact ⟨rfl, _, World.drewN_drewN _ _ _⟩ | exact ⟨rfl, _, Eq.trans (World.drewN_drewN _ _ _) (congrArg (World.drewN _) (Nat.add_assoc _ _ _))⟩))))
         go_ret
         exact ⟨by first | rfl | (simp [errW_none, errW_some] <;> rfl) | (simp [*, errW_none, errW_some] <;> rfl), by repeat (first | (with_reducible first | exact HB.out | apply below_alloc | apply pw_below_drewN | apply below_drew1 | refine below_set ?_ GE113.out) | exact HB.out)⟩
        ·rw [if_neg c54] at H
         have c54b0 : decide (4 < a0_5) = false := decide_eq_false c54
         clear c54
         by_cases c56 : t121 = true
         ·subst c56
          have H1 : (if (l0_8.length : Int) = 0 then (some 70) else (some 70)) = some r := by rw [if_pos rfl] at H; exact H
          clear H
          have H := H1
          clear H1
          by_cases c57 : (l0_8.length : Int) = 0
          ·rw [if_pos c57] at H
           have c57b0 : ((l0_8.length : Int) == 0) = true := beq_iff_eq.mpr c57
           have c57b1 : ((l0_8.length : Int) != 0) = false := bne_eq_false_iff_eq.mpr c57
           clear c57
           obtain rfl := Option.some.inj H
           have hcz58_0 : wc.cell? ⟨gb113, 0, none⟩ = some (.int .i64 a0_0) := (blk_cell BK113.out 0).trans rfl
           have hcz58_1 : wc.cell? ⟨gb113, 1, none⟩ = some (.int .i64 a0_1) := (blk_cell BK113.out 1).trans rfl
           have hcz58_2 : wc.cell? ⟨gb113, 2, none⟩ = some (.int .i64 a0_2) := (blk_cell BK113.out 2).trans rfl
           have hcz58_3 : wc.cell? ⟨gb113, 3, none⟩ = some (.int .i64 a0_3) := (blk_cell BK113.out 3).trans rfl
           have hcz58_4 : wc.cell? ⟨gb113, 4, none⟩ = some (.int .i64 a0_4) := (blk_cell BK113.out 4).trans rfl
           have hcz58_5 : wc.cell? ⟨gb113, 5, none⟩ = some (.int .i64 a0_5) := (blk_cell BK113.out 5).trans rfl
           have hcz58_6 : wc.cell? ⟨gb113, 6, none⟩ = some (.string a0_6) := (blk_cell BK113.out 6).trans rfl
           have hcz58_7 : wc.cell? ⟨gb113, 7, none⟩ = some (.slice A0_7 l0_7.length c0_7) := (blk_cell BK113.out 7).trans rfl
           have hcz58_8 : wc.cell? ⟨gb113, 8, none⟩ = some (.slice A0_8 l0_8.length c0_8) := (blk_cell BK113.out 8).trans rfl
           have hfz58_0 := blk_frozen BK113.out 0
           have hfz58_1 := blk_frozen BK113.out 1
           have hfz58_2 := blk_frozen BK113.out 2
           have hfz58_3 := blk_frozen BK113.out 3
           have hfz58_4 := blk_frozen BK113.out 4
           have hfz58_5 := blk_frozen BK113.out 5
           have hfz58_6 := blk_frozen BK113.out 6
           have hfz58_7 := blk_frozen BK113.out 7
           have hfz58_8 := blk_frozen BK113.out 8
           have p120 : 0 ≤ (0 : Int) := (by omega)
           have q120 : 0 < (l0_7.length : Int) := of_decide_eq_true (by first | (with_reducible assumption) | assumption)
           obtain ⟨ad120, e120, hx120_0⟩ := Kd.at_string HR0_7.out 0 p120 q120
           cases e120
           have qi120 : (0 < l0_7.length) = True := eq_true (by omega)
           (try rw [show ((0 : Int)).toNat = 0 from rfl] at hx120_0)
           (try rw [Addr.add_zero'] at hx120_0)
           replace hx120_0 := (HB.out.cell (World.block_lt_of_cell? w _ hx120_0)).trans hx120_0
           replace p120 := eq_true p120
           replace q120 := eq_true q120
           go_wp2_with (first | (go_at_call 72; (with_reducible refine (letter_Key.calls (rdOf ByteArray.empty l0_7 0) true _ A53.out).mono ?_); rintro e w' ⟨rfl, ⟨nd, rfl⟩⟩; (try first | exact ⟨rfl, _, World.drewN_drewN _ _ _⟩ | exact ⟨rfl, _, Eq.trans (World.drewN_drewN _ _ _) (congrArg (World.drewN _) (Nat.add_assoc _ _ _))⟩)))
           repeat (go_quiet (first | (go_at_call 72; (with_reducible refine (letter_Key.calls (rdOf ByteArray.empty l0_7 0) true _ A53.out).mono ?_); rintro e w' ⟨rfl, ⟨nd, rfl⟩⟩; (try first | exact ⟨rfl, _, World.drewN_drewN _ _ _⟩ | exact ⟨rfl, _, Eq.trans (World.drewN_drewN _ _ _) (congrArg (World.drewN _) (Nat.add_assoc _ _ _))⟩))); try go_wp2_with (first | (go_at_call 72; (with_reducible refine (letter_Key.calls (rdOf ByteArray.empty l0_7 0) true _ A53.out).mono ?_); rintro e w' ⟨rfl, ⟨nd, rfl⟩⟩; (try first | exact ⟨rfl, _, World.drewN_drewN _ _ _⟩ | exact ⟨rfl, _, Eq.trans (World.drewN_drewN _ _ _) (congrArg (World.drewN _) (Nat.add_assoc _ _ _))⟩))))
           go_ret
           exact ⟨by first | rfl | (simp [errW_none, errW_some] <;> rfl) | (simp [*, errW_none, errW_some] <;> rfl), by repeat (first | (with_reducible first | exact HB.out | apply below_alloc | apply pw_below_drewN | apply below_drew1 | refine below_set ?_ GE113.out) | exact HB.out)⟩
          ·rw [if_neg c57] at H
           have c57b0 : ((l0_8.length : Int) == 0) = false := beq_eq_false_iff_ne.mpr c57
           have c57b1 : ((l0_8.length : Int) != 0) = true := bne_iff_ne.mpr c57
           have c57b2 : ¬ (l0_8 = []) := fun h_ => c57 (by rw [h_]; rfl)
           obtain rfl := Option.some.inj H
           have hcz59_0 : wc.cell? ⟨gb113, 0, none⟩ = some (.int .i64 a0_0) := (blk_cell BK113.out 0).trans rfl
           have hcz59_1 : wc.cell? ⟨gb113, 1, none⟩ = some (.int .i64 a0_1) := (blk_cell BK113.out 1).trans rfl
           have hcz59_2 : wc.cell? ⟨gb113, 2, none⟩ = some (.int .i64 a0_2) := (blk_cell BK113.out 2).trans rfl
           have hcz59_3 : wc.cell? ⟨gb113, 3, none⟩ = some (.int .i64 a0_3) := (blk_cell BK113.out 3).trans rfl
           have hcz59_4 : wc.cell? ⟨gb113, 4, none⟩ = some (.int .i64 a0_4) := (blk_cell BK113.out 4).trans rfl
           have hcz59_5 : wc.cell? ⟨gb113, 5, none⟩ = some (.int .i64 a0_5) := (blk_cell BK113.out 5).trans rfl
           have hcz59_6 : wc.cell? ⟨gb113, 6, none⟩ = some (.string a0_6) := (blk_cell BK113.out 6).trans rfl
           have hcz59_7 : wc.cell? ⟨gb113, 7, none⟩ = some (.slice A0_7 l0_7.length c0_7) := (blk_cell BK113.out 7).trans rfl
           have hcz59_8 : wc.cell? ⟨gb113, 8, none⟩ = some (.slice A0_8 l0_8.length c0_8) := (blk_cell BK113.out 8).trans rfl
           have hfz59_0 := blk_frozen BK113.out 0
           have hfz59_1 := blk_frozen BK113.out 1
           have hfz59_2 := blk_frozen BK113.out 2
           have hfz59_3 := blk_frozen BK113.out 3
           have hfz59_4 := blk_frozen BK113.out 4
           have hfz59_5 := blk_frozen BK113.out 5
           have hfz59_6 := blk_frozen BK113.out 6
           have hfz59_7 := blk_frozen BK113.out 7
           have hfz59_8 := blk_frozen BK113.out 8
           have p120 : 0 ≤ (0 : Int) := (by omega)
           have q120 : 0 < (l0_7.length : Int) := of_decide_eq_true (by first | (with_reducible assumption) | assumption)
           obtain ⟨ad120, e120, hx120_0⟩ := Kd.at_string HR0_7.out 0 p120 q120
           cases e120
           have qi120 : (0 < l0_7.length) = True := eq_true (by omega)
           (try rw [show ((0 : Int)).toNat = 0 from rfl] at hx120_0)
           (try rw [Addr.add_zero'] at hx120_0)
           replace hx120_0 := (HB.out.cell (World.block_lt_of_cell? w _ hx120_0)).trans hx120_0
           replace p120 := eq_true p120
           replace q120 := eq_true q120
           go_wp2_with (first | (go_at_call 72; (with_reducible refine (letter_Key.calls (rdOf ByteArray.empty l0_7 0) true _ A53.out).mono ?_); rintro e w' ⟨rfl, ⟨nd, rfl⟩⟩; (try first | exact ⟨rfl, _, World.drewN_drewN _ _ _⟩ | exact ⟨rfl, _, Eq.trans (World.drewN_drewN _ _ _) (congrArg (World.drewN _) (Nat.add_assoc _ _ _))⟩)))
           repeat (go_quiet (first | (go_at_call 72; (with_reducible refine (letter_Key.calls (rdOf ByteArray.empty l0_7 0) true _ A53.out).mono ?_); rintro e w' ⟨rfl, ⟨nd, rfl⟩⟩; (try first | exact ⟨rfl, _, World.drewN_drewN _ _ _⟩ | exact ⟨rfl, _, Eq.trans (World.drewN_drewN _ _ _) (congrArg (World.drewN _) (Nat.add_assoc _ _ _))⟩))); try go_wp2_with (first | (go_at_call 72; (with_reducible refine (letter_Key.calls (rdOf ByteArray.empty l0_7 0) true _ A53.out).mono ?_); rintro e w' ⟨rfl, ⟨nd, rfl⟩⟩; (try first | exact ⟨rfl, _, World.drewN_drewN _ _ _⟩ | exact ⟨rfl, _, Eq.trans (World.drewN_drewN _ _ _) (congrArg (World.drewN _) (Nat.add_assoc _ _ _))⟩))))
           go_ret
           exact ⟨by first | rfl | (simp [errW_none, errW_some] <;> rfl) | (simp [*, errW_none, errW_some] <;> rfl), by repeat (first | (with_reducible first | exact HB.out | apply below_alloc | apply pw_below_drewN | apply below_drew1 | refine below_set ?_ GE113.out) | exact HB.out)⟩
         ·replace c56 := Bool.eq_false_iff.mpr c56
          subst c56
          have H1 : (some 70) = some r := by rw [if_neg (show ¬ (false = true) by decide)] at H; exact H
          clear H
          have H := H1
          clear H1
          obtain rfl := Option.some.inj H
          have hcz60_0 : wc.cell? ⟨gb113, 0, none⟩ = some (.int .i64 a0_0) := (blk_cell BK113.out 0).trans rfl
          have hcz60_1 : wc.cell? ⟨gb113, 1, none⟩ = some (.int .i64 a0_1) := (blk_cell BK113.out 1).trans rfl
          have hcz60_2 : wc.cell? ⟨gb113, 2, none⟩ = some (.int .i64 a0_2) := (blk_cell BK113.out 2).trans rfl
          have hcz60_3 : wc.cell? ⟨gb113, 3, none⟩ = some (.int .i64 a0_3) := (blk_cell BK113.out 3).trans rfl
          have hcz60_4 : wc.cell? ⟨gb113, 4, none⟩ = some (.int .i64 a0_4) := (blk_cell BK113.out 4).trans rfl
          have hcz60_5 : wc.cell? ⟨gb113, 5, none⟩ = some (.int .i64 a0_5) := (blk_cell BK113.out 5).trans rfl
          have hcz60_6 : wc.cell? ⟨gb113, 6, none⟩ = some (.string a0_6) := (blk_cell BK113.out 6).trans rfl
          have hcz60_7 : wc.cell? ⟨gb113, 7, none⟩ = some (.slice A0_7 l0_7.length c0_7) := (blk_cell BK113.out 7).trans rfl
          have hcz60_8 : wc.cell? ⟨gb113, 8, none⟩ = some (.slice A0_8 l0_8.length c0_8) := (blk_cell BK113.out 8).trans rfl
          have hfz60_0 := blk_frozen BK113.out 0
          have hfz60_1 := blk_frozen BK113.out 1
          have hfz60_2 := blk_frozen BK113.out 2
          have hfz60_3 := blk_frozen BK113.out 3
          have hfz60_4 := blk_frozen BK113.out 4
          have hfz60_5 := blk_frozen BK113.out 5
          have hfz60_6 := blk_frozen BK113.out 6
          have hfz60_7 := blk_frozen BK113.out 7
          have hfz60_8 := blk_frozen BK113.out 8
          have p120 : 0 ≤ (0 : Int) := (by omega)
          have q120 : 0 < (l0_7.length : Int) := of_decide_eq_true (by first | (with_reducible assumption) | assumption)
          obtain ⟨ad120, e120, hx120_0⟩ := Kd.at_string HR0_7.out 0 p120 q120
          cases e120
          have qi120 : (0 < l0_7.length) = True := eq_true (by omega)
          (try rw [show ((0 : Int)).toNat = 0 from rfl] at hx120_0)
          (try rw [Addr.add_zero'] at hx120_0)
          replace hx120_0 := (HB.out.cell (World.block_lt_of_cell? w _ hx120_0)).trans hx120_0
          replace p120 := eq_true p120
          replace q120 := eq_true q120
          go_wp2_with (first | (go_at_call 72; (with_reducible refine (letter_Key.calls (rdOf ByteArray.empty l0_7 0) false _ A53.out).mono ?_); rintro e w' ⟨rfl, ⟨nd, rfl⟩⟩; (try first | exact ⟨rfl, _, World.drewN_drewN _ _ _⟩ | exact ⟨rfl, _, Eq.trans (World.drewN_drewN _ _ _) (congrArg (World.drewN _) (Nat.add_assoc _ _ _))⟩)))
          repeat (go_quiet (first | (go_at_call 72; (with_reducible refine (letter_Key.calls (rdOf ByteArray.empty l0_7 0) false _ A53.out).mono ?_); rintro e w' ⟨rfl, ⟨nd, rfl⟩⟩; (try first | exact ⟨rfl, _, World.drewN_drewN _ _ _⟩ | exact ⟨rfl, _, Eq.trans (World.drewN_drewN _ _ _) (congrArg (World.drewN _) (Nat.add_assoc _ _ _))⟩))); try go_wp2_with (first | (go_at_call 72; (with_reducible refine (letter_Key.calls (rdOf ByteArray.empty l0_7 0) false _ A53.out).mono ?_); rintro e w' ⟨rfl, ⟨nd, rfl⟩⟩; (try first | exact ⟨rfl, _, World.drewN_drewN _ _ _⟩ | exact ⟨rfl, _, Eq.trans (World.drewN_drewN _ _ _) (congrArg (World.drewN _) (Nat.add_assoc _ _ _))⟩))))
          go_ret
          exact ⟨by first | rfl | (simp [errW_none, errW_some] <;> rfl) | (simp [*, errW_none, errW_some] <;> rfl), by repeat (first | (with_reducible first | exact HB.out | apply below_alloc | apply pw_below_drewN | apply below_drew1 | refine below_set ?_ GE113.out) | exact HB.out)⟩
       ·rw [if_neg c52] at H
        exact absurd H (by simp)
      ·rw [if_neg c51] at H
       have c51b0 : ((l0_7.length : Int) == 1) = false := beq_eq_false_iff_ne.mpr c51
       have c51b1 : ((l0_7.length : Int) != 1) = true := bne_iff_ne.mpr c51
       by_cases c61 : a0_5 > 4
       ·rw [if_pos c61] at H
        have c61b0 : decide (4 < a0_5) = true := decide_eq_true c61
        clear c61
        obtain rfl := Option.some.inj H
        have hcz62_0 : wc.cell? ⟨gb113, 0, none⟩ = some (.int .i64 a0_0) := (blk_cell BK113.out 0).trans rfl
        have hcz62_1 : wc.cell? ⟨gb113, 1, none⟩ = some (.int .i64 a0_1) := (blk_cell BK113.out 1).trans rfl
        have hcz62_2 : wc.cell? ⟨gb113, 2, none⟩ = some (.int .i64 a0_2) := (blk_cell BK113.out 2).trans rfl
        have hcz62_3 : wc.cell? ⟨gb113, 3, none⟩ = some (.int .i64 a0_3) := (blk_cell BK113.out 3).trans rfl
        have hcz62_4 : wc.cell? ⟨gb113, 4, none⟩ = some (.int .i64 a0_4) := (blk_cell BK113.out 4).trans rfl
        have hcz62_5 : wc.cell? ⟨gb113, 5, none⟩ = some (.int .i64 a0_5) := (blk_cell BK113.out 5).trans rfl
        have hcz62_6 : wc.cell? ⟨gb113, 6, none⟩ = some (.string a0_6) := (blk_cell BK113.out 6).trans rfl
        have hcz62_7 : wc.cell? ⟨gb113, 7, none⟩ = some (.slice A0_7 l0_7.length c0_7) := (blk_cell BK113.out 7).trans rfl
        have hcz62_8 : wc.cell? ⟨gb113, 8, none⟩ = some (.slice A0_8 l0_8.length c0_8) := (blk_cell BK113.out 8).trans rfl
        have hfz62_0 := blk_frozen BK113.out 0
        have hfz62_1 := blk_frozen BK113.out 1
        have hfz62_2 := blk_frozen BK113.out 2
        have hfz62_3 := blk_frozen BK113.out 3
        have hfz62_4 := blk_frozen BK113.out 4
        have hfz62_5 := blk_frozen BK113.out 5
        have hfz62_6 := blk_frozen BK113.out 6
        have hfz62_7 := blk_frozen BK113.out 7
        have hfz62_8 := blk_frozen BK113.out 8
        go_wp2
        repeat (go_quiet (fail); try go_wp2)
        go_ret
        exact ⟨by first | rfl | (simp [errW_none, errW_some] <;> rfl) | (simp [*, errW_none, errW_some] <;> rfl), by repeat (first | (with_reducible first | exact HB.out | apply below_alloc | apply pw_below_drewN | apply below_drew1 | refine below_set ?_ GE113.out) | exact HB.out)⟩
       ·rw [if_neg c61] at H
        have c61b0 : decide (4 < a0_5) = false := decide_eq_false c61
        clear c61
        obtain rfl := Option.some.inj H
        have hcz63_0 : wc.cell? ⟨gb113, 0, none⟩ = some (.int .i64 a0_0) := (blk_cell BK113.out 0).trans rfl
        have hcz63_1 : wc.cell? ⟨gb113, 1, none⟩ = some (.int .i64 a0_1) := (blk_cell BK113.out 1).trans rfl
        have hcz63_2 : wc.cell? ⟨gb113, 2, none⟩ = some (.int .i64 a0_2) := (blk_cell BK113.out 2).trans rfl
        have hcz63_3 : wc.cell? ⟨gb113, 3, none⟩ = some (.int .i64 a0_3) := (blk_cell BK113.out 3).trans rfl
        have hcz63_4 : wc.cell? ⟨gb113, 4, none⟩ = some (.int .i64 a0_4) := (blk_cell BK113.out 4).trans rfl
        have hcz63_5 : wc.cell? ⟨gb113, 5, none⟩ = some (.int .i64 a0_5) := (blk_cell BK113.out 5).trans rfl
        have hcz63_6 : wc.cell? ⟨gb113, 6, none⟩ = some (.string a0_6) := (blk_cell BK113.out 6).trans rfl
        have hcz63_7 : wc.cell? ⟨gb113, 7, none⟩ = some (.slice A0_7 l0_7.length c0_7) := (blk_cell BK113.out 7).trans rfl
        have hcz63_8 : wc.cell? ⟨gb113, 8, none⟩ = some (.slice A0_8 l0_8.length c0_8) := (blk_cell BK113.out 8).trans rfl
        have hfz63_0 := blk_frozen BK113.out 0
        have hfz63_1 := blk_frozen BK113.out 1
        have hfz63_2 := blk_frozen BK113.out 2
        have hfz63_3 := blk_frozen BK113.out 3
        have hfz63_4 := blk_frozen BK113.out 4
        have hfz63_5 := blk_frozen BK113.out 5
        have hfz63_6 := blk_frozen BK113.out 6
        have hfz63_7 := blk_frozen BK113.out 7
        have hfz63_8 := blk_frozen BK113.out 8
        go_wp2
        repeat (go_quiet (fail); try go_wp2)
        go_ret
        exact ⟨by first | rfl | (simp [errW_none, errW_some] <;> rfl) | (simp [*, errW_none, errW_some] <;> rfl), by repeat (first | (with_reducible first | exact HB.out | apply below_alloc | apply pw_below_drewN | apply below_drew1 | refine below_set ?_ GE113.out) | exact HB.out)⟩
    ·rw [if_neg c20] at H
     have c20b0 : (a0_0 == 2) = false := beq_eq_false_iff_ne.mpr c20
     have c20b1 : (a0_0 != 2) = true := bne_iff_ne.mpr c20
     by_cases c64 : a0_0 = 1
     ·rw [if_pos c64] at H
      have c64b0 : (a0_0 == 1) = true := beq_iff_eq.mpr c64
      have c64b1 : (a0_0 != 1) = false := bne_eq_false_iff_eq.mpr c64
      clear c64
      by_cases c65 : (l0_7.length : Int) = 1
      ·rw [if_pos c65] at H
       have c65b0 : ((l0_7.length : Int) == 1) = true := beq_iff_eq.mpr c65
       have c65b1 : ((l0_7.length : Int) != 1) = false := bne_eq_false_iff_eq.mpr c65
       clear c65
       by_cases c66 : 0 < (l0_7.length : Int)
       ·rw [if_pos c66] at H
        have c66b0 : decide (0 < (l0_7.length : Int)) = true := decide_eq_true c66
        have c66b1 : decide (0 < l0_7.length) = true := decide_eq_true (by omega)
        clear c66
        replace H := Option.bind_eq_some_iff.mp H
        obtain ⟨t123, A670, H⟩ := H
        replace H : (if a0_5 > 0 then (some 70) else (if t123 = true then (if (l0_8.length : Int) = 0 then (if a0_6.toList = ([] : List UInt8) then (some 0) else (some 70)) else (some 70)) else (some 70))) = some r := H
        have A67 := Aside0.mk A670
        clear A670
        by_cases c68 : a0_5 > 0
        ·rw [if_pos c68] at H
         have c68b0 : decide (0 < a0_5) = true := decide_eq_true c68
         clear c68
         obtain rfl := Option.some.inj H
         have hcz69_0 : wc.cell? ⟨gb113, 0, none⟩ = some (.int .i64 a0_0) := (blk_cell BK113.out 0).trans rfl
         have hcz69_1 : wc.cell? ⟨gb113, 1, none⟩ = some (.int .i64 a0_1) := (blk_cell BK113.out 1).trans rfl
         have hcz69_2 : wc.cell? ⟨gb113, 2, none⟩ = some (.int .i64 a0_2) := (blk_cell BK113.out 2).trans rfl
         have hcz69_3 : wc.cell? ⟨gb113, 3, none⟩ = some (.int .i64 a0_3) := (blk_cell BK113.out 3).trans rfl
         have hcz69_4 : wc.cell? ⟨gb113, 4, none⟩ = some (.int .i64 a0_4) := (blk_cell BK113.out 4).trans rfl
         have hcz69_5 : wc.cell? ⟨gb113, 5, none⟩ = some (.int .i64 a0_5) := (blk_cell BK113.out 5).trans rfl
         have hcz69_6 : wc.cell? ⟨gb113, 6, none⟩ = some (.string a0_6) := (blk_cell BK113.out 6).trans rfl
         have hcz69_7 : wc.cell? ⟨gb113, 7, none⟩ = some (.slice A0_7 l0_7.length c0_7) := (blk_cell BK113.out 7).trans rfl
         have hcz69_8 : wc.cell? ⟨gb113, 8, none⟩ = some (.slice A0_8 l0_8.length c0_8) := (blk_cell BK113.out 8).trans rfl
         have hfz69_0 := blk_frozen BK113.out 0
         have hfz69_1 := blk_frozen BK113.out 1
         have hfz69_2 := blk_frozen BK113.out 2
         have hfz69_3 := blk_frozen BK113.out 3
         have hfz69_4 := blk_frozen BK113.out 4
         have hfz69_5 := blk_frozen BK113.out 5
         have hfz69_6 := blk_frozen BK113.out 6
         have hfz69_7 := blk_frozen BK113.out 7
         have hfz69_8 := blk_frozen BK113.out 8
         have p122 : 0 ≤ (0 : Int) := (by omega)
         have q122 : 0 < (l0_7.length : Int) := of_decide_eq_true (by first | (with_reducible assumption) | assumption)
         obtain ⟨ad122, e122, hx122_0⟩ := Kd.at_string HR0_7.out 0 p122 q122
         cases e122
         have qi122 : (0 < l0_7.length) = True := eq_true (by omega)
         (try rw [show ((0 : Int)).toNat = 0 from rfl] at hx122_0)
         (try rw [Addr.add_zero'] at hx122_0)
         replace hx122_0 := (HB.out.cell (World.block_lt_of_cell? w _ hx122_0)).trans hx122_0
         replace p122 := eq_true p122
         replace q122 := eq_true q122
         go_wp2_with (first | (go_at_call 72; (with_reducible refine (letter_Key.calls (rdOf ByteArray.empty l0_7 0) t123 _ A67.out).mono ?_); rintro e w' ⟨rfl, ⟨nd, rfl⟩⟩; (try first | exact ⟨rfl, _, World.drewN_drewN _ _ _⟩ | exact ⟨rfl, _, Eq.trans (World.drewN_drewN _ _ _) (congrArg (World.drewN _) (Nat.add_assoc _ _ _))⟩)))
         repeat (go_quiet (first | (go_at_call 72; (with_reducible refine (letter_Key.calls (rdOf ByteArray.empty l0_7 0) t123 _ A67.out).mono ?_); rintro e w' ⟨rfl, ⟨nd, rfl⟩⟩; (try first | exact ⟨rfl, _, World.drewN_drewN _ _ _⟩ | exact ⟨rfl, _, Eq.trans (World.drewN_drewN _ _ _) (congrArg (World.drewN _) (Nat.add_assoc _ _ _))⟩))); try go_wp2_with (first | (go_at_call 72; (with_reducible refine (letter_Key.calls (rdOf ByteArray.empty l0_7 0) t123 _ A67.out).mono ?_); rintro e w' ⟨rfl, ⟨nd, rfl⟩⟩; (try first | exact ⟨rfl, _, World.drewN_drewN _ _ _⟩ | exact ⟨rfl, _, Eq.trans (World.drewN_drewN _ _ _) (congrArg (World.drewN _) (Nat.add_assoc _ _ _))⟩))))
         go_ret
         exact ⟨by first | rfl | (simp [errW_none, errW_some] <;> rfl) | (simp [*, errW_none, errW_some] <;> rfl), by repeat (first | (with_reducible first | exact HB.out | apply below_alloc | apply pw_below_drewN | apply below_drew1 | refine below_set ?_ GE113.out) | exact HB.out)⟩
        ·rw [if_neg c68] at H
         have c68b0 : decide (0 < a0_5) = false := decide_eq_false c68
         clear c68
         by_cases c70 : t123 = true
         ·subst c70
          have H1 : (if (l0_8.length : Int) = 0 then (if a0_6.toList = ([] : List UInt8) then (some 0) else (some 70)) else (some 70)) = some r := by rw [if_pos rfl] at H; exact H
          clear H
          have H := H1
          clear H1
          by_cases c71 : (l0_8.length : Int) = 0
          ·rw [if_pos c71] at H
           have c71b0 : ((l0_8.length : Int) == 0) = true := beq_iff_eq.mpr c71
           have c71b1 : ((l0_8.length : Int) != 0) = false := bne_eq_false_iff_eq.mpr c71
           clear c71
           by_cases c72 : a0_6.toList = ([] : List UInt8)
           ·rw [if_pos c72] at H
            have c72b0 : (a0_6.toList == ([] : List UInt8)) = true := beq_iff_eq.mpr c72
            have c72b1 : (a0_6.toList != ([] : List UInt8)) = false := bne_eq_false_iff_eq.mpr c72
            clear c72
            obtain rfl := Option.some.inj H
            have hcz73_0 : wc.cell? ⟨gb113, 0, none⟩ = some (.int .i64 a0_0) := (blk_cell BK113.out 0).trans rfl
            have hcz73_1 : wc.cell? ⟨gb113, 1, none⟩ = some (.int .i64 a0_1) := (blk_cell BK113.out 1).trans rfl
            have hcz73_2 : wc.cell? ⟨gb113, 2, none⟩ = some (.int .i64 a0_2) := (blk_cell BK113.out 2).trans rfl
            have hcz73_3 : wc.cell? ⟨gb113, 3, none⟩ = some (.int .i64 a0_3) := (blk_cell BK113.out 3).trans rfl
            have hcz73_4 : wc.cell? ⟨gb113, 4, none⟩ = some (.int .i64 a0_4) := (blk_cell BK113.out 4).trans rfl
            have hcz73_5 : wc.cell? ⟨gb113, 5, none⟩ = some (.int .i64 a0_5) := (blk_cell BK113.out 5).trans rfl
            have hcz73_6 : wc.cell? ⟨gb113, 6, none⟩ = some (.string a0_6) := (blk_cell BK113.out 6).trans rfl
            have hcz73_7 : wc.cell? ⟨gb113, 7, none⟩ = some (.slice A0_7 l0_7.length c0_7) := (blk_cell BK113.out 7).trans rfl
            have hcz73_8 : wc.cell? ⟨gb113, 8, none⟩ = some (.slice A0_8 l0_8.length c0_8) := (blk_cell BK113.out 8).trans rfl
            have hfz73_0 := blk_frozen BK113.out 0
            have hfz73_1 := blk_frozen BK113.out 1
            have hfz73_2 := blk_frozen BK113.out 2
            have hfz73_3 := blk_frozen BK113.out 3
            have hfz73_4 := blk_frozen BK113.out 4
            have hfz73_5 := blk_frozen BK113.out 5
            have hfz73_6 := blk_frozen BK113.out 6
            have hfz73_7 := blk_frozen BK113.out 7
            have hfz73_8 := blk_frozen BK113.out 8
            have p122 : 0 ≤ (0 : Int) := (by omega)
            have q122 : 0 < (l0_7.length : Int) := of_decide_eq_true (by first | (with_reducible assumption) | assumption)
            obtain ⟨ad122, e122, hx122_0⟩ := Kd.at_string HR0_7.out 0 p122 q122
            cases e122
            have qi122 : (0 < l0_7.length) = True := eq_true (by omega)
            (try rw [show ((0 : Int)).toNat = 0 from rfl] at hx122_0)
            (try rw [Addr.add_zero'] at hx122_0)
            replace hx122_0 := (HB.out.cell (World.block_lt_of_cell? w _ hx122_0)).trans hx122_0
            replace p122 := eq_true p122
            replace q122 := eq_true q122
            go_wp2_with (first | (go_at_call 72; (with_reducible refine (letter_Key.calls (rdOf ByteArray.empty l0_7 0) true _ A67.out).mono ?_); rintro e w' ⟨rfl, ⟨nd, rfl⟩⟩; (try first | exact ⟨rfl, _, World.drewN_drewN _ _ _⟩ | exact ⟨rfl, _, Eq.trans (World.drewN_drewN _ _ _) (congrArg (World.drewN _) (Nat.add_assoc _ _ _))⟩)))
            repeat (go_quiet (first | (go_at_call 72; (with_reducible refine (letter_Key.calls (rdOf ByteArray.empty l0_7 0) true _ A67.out).mono ?_); rintro e w' ⟨rfl, ⟨nd, rfl⟩⟩; (try first | exact ⟨rfl, _, World.drewN_drewN _ _ _⟩ | exact ⟨rfl, _, Eq.trans (World.drewN_drewN _ _ _) (congrArg (World.drewN _) (Nat.add_assoc _ _ _))⟩))); try go_wp2_with (first | (go_at_call 72; (with_reducible refine (letter_Key.calls (rdOf ByteArray.empty l0_7 0) true _ A67.out).mono ?_); rintro e w' ⟨rfl, ⟨nd, rfl⟩⟩; (try first | exact ⟨rfl, _, World.drewN_drewN _ _ _⟩ | exact ⟨rfl, _, Eq.trans (World.drewN_drewN _ _ _) (congrArg (World.drewN _) (Nat.add_assoc _ _ _))⟩))))
            go_ret
            exact ⟨by first | rfl | (simp [errW_none, errW_some] <;> rfl) | (simp [*, errW_none, errW_some] <;> rfl), by repeat (first | (with_reducible first | exact HB.out | apply below_alloc | apply pw_below_drewN | apply below_drew1 | refine below_set ?_ GE113.out) | exact HB.out)⟩
           ·rw [if_neg c72] at H
            have c72b0 : (a0_6.toList == ([] : List UInt8)) = false := beq_eq_false_iff_ne.mpr c72
            have c72b1 : (a0_6.toList != ([] : List UInt8)) = true := bne_iff_ne.mpr c72
            obtain rfl := Option.some.inj H
            have hcz74_0 : wc.cell? ⟨gb113, 0, none⟩ = some (.int .i64 a0_0) := (blk_cell BK113.out 0).trans rfl
            have hcz74_1 : wc.cell? ⟨gb113, 1, none⟩ = some (.int .i64 a0_1) := (blk_cell BK113.out 1).trans rfl
            have hcz74_2 : wc.cell? ⟨gb113, 2, none⟩ = some (.int .i64 a0_2) := (blk_cell BK113.out 2).trans rfl
            have hcz74_3 : wc.cell? ⟨gb113, 3, none⟩ = some (.int .i64 a0_3) := (blk_cell BK113.out 3).trans rfl
            have hcz74_4 : wc.cell? ⟨gb113, 4, none⟩ = some (.int .i64 a0_4) := (blk_cell BK113.out 4).trans rfl
            have hcz74_5 : wc.cell? ⟨gb113, 5, none⟩ = some (.int .i64 a0_5) := (blk_cell BK113.out 5).trans rfl
            have hcz74_6 : wc.cell? ⟨gb113, 6, none⟩ = some (.string a0_6) := (blk_cell BK113.out 6).trans rfl
            have hcz74_7 : wc.cell? ⟨gb113, 7, none⟩ = some (.slice A0_7 l0_7.length c0_7) := (blk_cell BK113.out 7).trans rfl
            have hcz74_8 : wc.cell? ⟨gb113, 8, none⟩ = some (.slice A0_8 l0_8.length c0_8) := (blk_cell BK113.out 8).trans rfl
            have hfz74_0 := blk_frozen BK113.out 0
            have hfz74_1 := blk_frozen BK113.out 1
            have hfz74_2 := blk_frozen BK113.out 2
            have hfz74_3 := blk_frozen BK113.out 3
            have hfz74_4 := blk_frozen BK113.out 4
            have hfz74_5 := blk_frozen BK113.out 5
            have hfz74_6 := blk_frozen BK113.out 6
            have hfz74_7 := blk_frozen BK113.out 7
            have hfz74_8 := blk_frozen BK113.out 8
            have p122 : 0 ≤ (0 : Int) := (by omega)
            have q122 : 0 < (l0_7.length : Int) := of_decide_eq_true (by first | (with_reducible assumption) | assumption)
            obtain ⟨ad122, e122, hx122_0⟩ := Kd.at_string HR0_7.out 0 p122 q122
            cases e122
            have qi122 : (0 < l0_7.length) = True := eq_true (by omega)
            (try rw [show ((0 : Int)).toNat = 0 from rfl] at hx122_0)
            (try rw [Addr.add_zero'] at hx122_0)
            replace hx122_0 := (HB.out.cell (World.block_lt_of_cell? w _ hx122_0)).trans hx122_0
            replace p122 := eq_true p122
            replace q122 := eq_true q122
            go_wp2_with (first | (go_at_call 72; (with_reducible refine (letter_Key.calls (rdOf ByteArray.empty l0_7 0) true _ A67.out).mono ?_); rintro e w' ⟨rfl, ⟨nd, rfl⟩⟩; (try first | exact ⟨rfl, _, World.drewN_drewN _ _ _⟩ | exact ⟨rfl, _, Eq.trans (World.drewN_drewN _ _ _) (congrArg (World.drewN _) (Nat.add_assoc _ _ _))⟩)))
            repeat (go_quiet (first | (go_at_call 72; (with_reducible refine (letter_Key.calls (rdOf ByteArray.empty l0_7 0) true _ A67.out).mono ?_); rintro e w' ⟨rfl, ⟨nd, rfl⟩⟩; (try first | exact ⟨rfl, _, World.drewN_drewN _ _ _⟩ | exact ⟨rfl, _, Eq.trans (World.drewN_drewN _ _ _) (congrArg (World.drewN _) (Nat.add_assoc _ _ _))⟩))); try go_wp2_with (first | (go_at_call 72; (with_reducible refine (letter_Key.calls (rdOf ByteArray.empty l0_7 0) true _ A67.out).mono ?_); rintro e w' ⟨rfl, ⟨nd, rfl⟩⟩; (try first | exact ⟨rfl, _, World.drewN_drewN _ _ _⟩ | exact ⟨rfl, _, Eq.trans (World.drewN_drewN _ _ _) (congrArg (World.drewN _) (Nat.add_assoc _ _ _))⟩))))
            go_ret
            exact ⟨by first | rfl | (simp [errW_none, errW_some] <;> rfl) | (simp [*, errW_none, errW_some] <;> rfl), by repeat (first | (with_reducible first | exact HB.out | apply below_alloc | apply pw_below_drewN | apply below_drew1 | refine below_set ?_ GE113.out) | exact HB.out)⟩
          ·rw [if_neg c71] at H
           have c71b0 : ((l0_8.length : Int) == 0) = false := beq_eq_false_iff_ne.mpr c71
           have c71b1 : ((l0_8.length : Int) != 0) = true := bne_iff_ne.mpr c71
           have c71b2 : ¬ (l0_8 = []) := fun h_ => c71 (by rw [h_]; rfl)
           obtain rfl := Option.some.inj H
           have hcz75_0 : wc.cell? ⟨gb113, 0, none⟩ = some (.int .i64 a0_0) := (blk_cell BK113.out 0).trans rfl
           have hcz75_1 : wc.cell? ⟨gb113, 1, none⟩ = some (.int .i64 a0_1) := (blk_cell BK113.out 1).trans rfl
           have hcz75_2 : wc.cell? ⟨gb113, 2, none⟩ = some (.int .i64 a0_2) := (blk_cell BK113.out 2).trans rfl
           have hcz75_3 : wc.cell? ⟨gb113, 3, none⟩ = some (.int .i64 a0_3) := (blk_cell BK113.out 3).trans rfl
           have hcz75_4 : wc.cell? ⟨gb113, 4, none⟩ = some (.int .i64 a0_4) := (blk_cell BK113.out 4).trans rfl
           have hcz75_5 : wc.cell? ⟨gb113, 5, none⟩ = some (.int .i64 a0_5) := (blk_cell BK113.out 5).trans rfl
           have hcz75_6 : wc.cell? ⟨gb113, 6, none⟩ = some (.string a0_6) := (blk_cell BK113.out 6).trans rfl
           have hcz75_7 : wc.cell? ⟨gb113, 7, none⟩ = some (.slice A0_7 l0_7.length c0_7) := (blk_cell BK113.out 7).trans rfl
           have hcz75_8 : wc.cell? ⟨gb113, 8, none⟩ = some (.slice A0_8 l0_8.length c0_8) := (blk_cell BK113.out 8).trans rfl
           have hfz75_0 := blk_frozen BK113.out 0
           have hfz75_1 := blk_frozen BK113.out 1
           have hfz75_2 := blk_frozen BK113.out 2
           have hfz75_3 := blk_frozen BK113.out 3
           have hfz75_4 := blk_frozen BK113.out 4
           have hfz75_5 := blk_frozen BK113.out 5
           have hfz75_6 := blk_frozen BK113.out 6
           have hfz75_7 := blk_frozen BK113.out 7
           have hfz75_8 := blk_frozen BK113.out 8
           have p122 : 0 ≤ (0 : Int) := (by omega)
           have q122 : 0 < (l0_7.length : Int) := of_decide_eq_true (by first | (with_reducible assumption) | assumption)
           obtain ⟨ad122, e122, hx122_0⟩ := Kd.at_string HR0_7.out 0 p122 q122
           cases e122
           have qi122 : (0 < l0_7.length) = True := eq_true (by omega)
           (try rw [show ((0 : Int)).toNat = 0 from rfl] at hx122_0)
           (try rw [Addr.add_zero'] at hx122_0)
           replace hx122_0 := (HB.out.cell (World.block_lt_of_cell? w _ hx122_0)).trans hx122_0
           replace p122 := eq_true p122
           replace q122 := eq_true q122
           go_wp2_with (first | (go_at_call 72; (with_reducible refine (letter_Key.calls (rdOf ByteArray.empty l0_7 0) true _ A67.out).mono ?_); rintro e w' ⟨rfl, ⟨nd, rfl⟩⟩; (try first | exact ⟨rfl, _, World.drewN_drewN _ _ _⟩ | exact ⟨rfl, _, Eq.trans (World.drewN_drewN _ _ _) (congrArg (World.drewN _) (Nat.add_assoc _ _ _))⟩)))
           repeat (go_quiet (first | (go_at_call 72; (with_reducible refine (letter_Key.calls (rdOf ByteArray.empty l0_7 0) true _ A67.out).mono ?_); rintro e w' ⟨rfl, ⟨nd, rfl⟩⟩; (try first | exact ⟨rfl, _, World.drewN_drewN _ _ _⟩ | exact ⟨rfl, _, Eq.trans (World.drewN_drewN _ _ _) (congrArg (World.drewN _) (Nat.add_assoc _ _ _))⟩))); try go_wp2_with (first | (go_at_call 72; (with_reducible refine (letter_Key.calls (rdOf ByteArray.empty l0_7 0) true _ A67.out).mono ?_); rintro e w' ⟨rfl, ⟨nd, rfl⟩⟩; (try first | exact ⟨rfl, _, World.drewN_drewN _ _ _⟩ | exact ⟨rfl, _, Eq.trans (World.drewN_drewN _ _ _) (congrArg (World.drewN _) (Nat.add_assoc _ _ _))⟩))))
           go_ret
           exact ⟨by first | rfl | (simp [errW_none, errW_some] <;> rfl) | (simp [*, errW_none, errW_some] <;> rfl), by repeat (first | (with_reducible first | exact HB.out | apply below_alloc | apply pw_below_drewN | apply below_drew1 | refine below_set ?_ GE113.out) | exact HB.out)⟩
         ·replace c70 := Bool.eq_false_iff.mpr c70
          subst c70
          have H1 : (some 70) = some r := by rw [if_neg (show ¬ (false = true) by decide)] at H; exact H
          clear H
          have H := H1
          clear H1
          obtain rfl := Option.some.inj H
          have hcz76_0 : wc.cell? ⟨gb113, 0, none⟩ = some (.int .i64 a0_0) := (blk_cell BK113.out 0).trans rfl
          have hcz76_1 : wc.cell? ⟨gb113, 1, none⟩ = some (.int .i64 a0_1) := (blk_cell BK113.out 1).trans rfl
          have hcz76_2 : wc.cell? ⟨gb113, 2, none⟩ = some (.int .i64 a0_2) := (blk_cell BK113.out 2).trans rfl
          have hcz76_3 : wc.cell? ⟨gb113, 3, none⟩ = some (.int .i64 a0_3) := (blk_cell BK113.out 3).trans rfl
          have hcz76_4 : wc.cell? ⟨gb113, 4, none⟩ = some (.int .i64 a0_4) := (blk_cell BK113.out 4).trans rfl
          have hcz76_5 : wc.cell? ⟨gb113, 5, none⟩ = some (.int .i64 a0_5) := (blk_cell BK113.out 5).trans rfl
          have hcz76_6 : wc.cell? ⟨gb113, 6, none⟩ = some (.string a0_6) := (blk_cell BK113.out 6).trans rfl
          have hcz76_7 : wc.cell? ⟨gb113, 7, none⟩ = some (.slice A0_7 l0_7.length c0_7) := (blk_cell BK113.out 7).trans rfl
          have hcz76_8 : wc.cell? ⟨gb113, 8, none⟩ = some (.slice A0_8 l0_8.length c0_8) := (blk_cell BK113.out 8).trans rfl
          have hfz76_0 := blk_frozen BK113.out 0
          have hfz76_1 := blk_frozen BK113.out 1
          have hfz76_2 := blk_frozen BK113.out 2
          have hfz76_3 := blk_frozen BK113.out 3
          have hfz76_4 := blk_frozen BK113.out 4
          have hfz76_5 := blk_frozen BK113.out 5
          have hfz76_6 := blk_frozen BK113.out 6
          have hfz76_7 := blk_frozen BK113.out 7
          have hfz76_8 := blk_frozen BK113.out 8
          have p122 : 0 ≤ (0 : Int) := (by omega)
          have q122 : 0 < (l0_7.length : Int) := of_decide_eq_true (by first | (with_reducible assumption) | assumption)
          obtain ⟨ad122, e122, hx122_0⟩ := Kd.at_string HR0_7.out 0 p122 q122
          cases e122
          have qi122 : (0 < l0_7.length) = True := eq_true (by omega)
          (try rw [show ((0 : Int)).toNat = 0 from rfl] at hx122_0)
          (try rw [Addr.add_zero'] at hx122_0)
          replace hx122_0 := (HB.out.cell (World.block_lt_of_cell? w _ hx122_0)).trans hx122_0
          replace p122 := eq_true p122
          replace q122 := eq_true q122
          go_wp2_with (first | (go_at_call 72; (with_reducible refine (letter_Key.calls (rdOf ByteArray.empty l0_7 0) false _ A67.out).mono ?_); rintro e w' ⟨rfl, ⟨nd, rfl⟩⟩; (try first | exact ⟨rfl, _, World.drewN_drewN _ _ _⟩ | exact ⟨rfl, _, Eq.trans (World.drewN_drewN _ _ _) (congrArg (World.drewN _) (Nat.add_assoc _ _ _))⟩)))
          repeat (go_quiet (first | (go_at_call 72; (with_reducible refine (letter_Key.calls (rdOf ByteArray.empty l0_7 0) false _ A67.out).mono ?_); rintro e w' ⟨rfl, ⟨nd, rfl⟩⟩; (try first | exact ⟨rfl, _, World.drewN_drewN _ _ _⟩ | exact ⟨rfl, _, Eq.trans (World.drewN_drewN _ _ _) (congrArg (World.drewN _) (Nat.add_assoc _ _ _))⟩))); try go_wp2_with (first | (go_at_call 72; (with_reducible refine (letter_Key.calls (rdOf ByteArray.empty l0_7 0) false _ A67.out).mono ?_); rintro e w' ⟨rfl, ⟨nd, rfl⟩⟩; (try first | exact ⟨rfl, _, World.drewN_drewN _ _ _⟩ | exact ⟨rfl, _, Eq.trans (World.drewN_drewN _ _ _) (congrArg (World.drewN _) (Nat.add_assoc _ _ _))⟩))))
          go_ret
          exact ⟨by first | rfl | (simp [errW_none, errW_some] <;> rfl) | (simp [*, errW_none, errW_some] <;> rfl), by repeat (first | (with_reducible first | exact HB.out | apply below_alloc | apply pw_below_drewN | apply below_drew1 | refine below_set ?_ GE113.out) | exact HB.out)⟩
       ·rw [if_neg c66] at H
        exact absurd H (by simp)
      ·rw [if_neg c65] at H
       have c65b0 : ((l0_7.length : Int) == 1) = false := beq_eq_false_iff_ne.mpr c65
       have c65b1 : ((l0_7.length : Int) != 1) = true := bne_iff_ne.mpr c65
       by_cases c77 : a0_5 > 0
       ·rw [if_pos c77] at H
        have c77b0 : decide (0 < a0_5) = true := decide_eq_true c77
        clear c77
        obtain rfl := Option.some.inj H
        have hcz78_0 : wc.cell? ⟨gb113, 0, none⟩ = some (.int .i64 a0_0) := (blk_cell BK113.out 0).trans rfl
        have hcz78_1 : wc.cell? ⟨gb113, 1, none⟩ = some (.int .i64 a0_1) := (blk_cell BK113.out 1).trans rfl
        have hcz78_2 : wc.cell? ⟨gb113, 2, none⟩ = some (.int .i64 a0_2) := (blk_cell BK113.out 2).trans rfl
        have hcz78_3 : wc.cell? ⟨gb113, 3, none⟩ = some (.int .i64 a0_3) := (blk_cell BK113.out 3).trans rfl
        have hcz78_4 : wc.cell? ⟨gb113, 4, none⟩ = some (.int .i64 a0_4) := (blk_cell BK113.out 4).trans rfl
        have hcz78_5 : wc.cell? ⟨gb113, 5, none⟩ = some (.int .i64 a0_5) := (blk_cell BK113.out 5).trans rfl
        have hcz78_6 : wc.cell? ⟨gb113, 6, none⟩ = some (.string a0_6) := (blk_cell BK113.out 6).trans rfl
        have hcz78_7 : wc.cell? ⟨gb113, 7, none⟩ = some (.slice A0_7 l0_7.length c0_7) := (blk_cell BK113.out 7).trans rfl
        have hcz78_8 : wc.cell? ⟨gb113, 8, none⟩ = some (.slice A0_8 l0_8.length c0_8) := (blk_cell BK113.out 8).trans rfl
        have hfz78_0 := blk_frozen BK113.out 0
        have hfz78_1 := blk_frozen BK113.out 1
        have hfz78_2 := blk_frozen BK113.out 2
        have hfz78_3 := blk_frozen BK113.out 3
        have hfz78_4 := blk_frozen BK113.out 4
        have hfz78_5 := blk_frozen BK113.out 5
        have hfz78_6 := blk_frozen BK113.out 6
        have hfz78_7 := blk_frozen BK113.out 7
        have hfz78_8 := blk_frozen BK113.out 8
        go_wp2
        repeat (go_quiet (fail); try go_wp2)
        go_ret
        exact ⟨by first | rfl | (simp [errW_none, errW_some] <;> rfl) | (simp [*, errW_none, errW_some] <;> rfl), by repeat (first | (with_reducible first | exact HB.out | apply below_alloc | apply pw_below_drewN | apply below_drew1 | refine below_set ?_ GE113.out) | exact HB.out)⟩
       ·rw [if_neg c77] at H
        have c77b0 : decide (0 < a0_5) = false := decide_eq_false c77
        clear c77
        obtain rfl := Option.some.inj H
        have hcz79_0 : wc.cell? ⟨gb113, 0, none⟩ = some (.int .i64 a0_0) := (blk_cell BK113.out 0).trans rfl
        have hcz79_1 : wc.cell? ⟨gb113, 1, none⟩ = some (.int .i64 a0_1) := (blk_cell BK113.out 1).trans rfl
        have hcz79_2 : wc.cell? ⟨gb113, 2, none⟩ = some (.int .i64 a0_2) := (blk_cell BK113.out 2).trans rfl
        have hcz79_3 : wc.cell? ⟨gb113, 3, none⟩ = some (.int .i64 a0_3) := (blk_cell BK113.out 3).trans rfl
        have hcz79_4 : wc.cell? ⟨gb113, 4, none⟩ = some (.int .i64 a0_4) := (blk_cell BK113.out 4).trans rfl
        have hcz79_5 : wc.cell? ⟨gb113, 5, none⟩ = some (.int .i64 a0_5) := (blk_cell BK113.out 5).trans rfl
        have hcz79_6 : wc.cell? ⟨gb113, 6, none⟩ = some (.string a0_6) := (blk_cell BK113.out 6).trans rfl
        have hcz79_7 : wc.cell? ⟨gb113, 7, none⟩ = some (.slice A0_7 l0_7.length c0_7) := (blk_cell BK113.out 7).trans rfl
        have hcz79_8 : wc.cell? ⟨gb113, 8, none⟩ = some (.slice A0_8 l0_8.length c0_8) := (blk_cell BK113.out 8).trans rfl
        have hfz79_0 := blk_frozen BK113.out 0
        have hfz79_1 := blk_frozen BK113.out 1
        have hfz79_2 := blk_frozen BK113.out 2
        have hfz79_3 := blk_frozen BK113.out 3
        have hfz79_4 := blk_frozen BK113.out 4
        have hfz79_5 := blk_frozen BK113.out 5
        have hfz79_6 := blk_frozen BK113.out 6
        have hfz79_7 := blk_frozen BK113.out 7
        have hfz79_8 := blk_frozen BK113.out 8
        go_wp2
        repeat (go_quiet (fail); try go_wp2)
        go_ret
        exact ⟨by first | rfl | (simp [errW_none, errW_some] <;> rfl) | (simp [*, errW_none, errW_some] <;> rfl), by repeat (first | (with_reducible first | exact HB.out | apply below_alloc | apply pw_below_drewN | apply below_drew1 | refine below_set ?_ GE113.out) | exact HB.out)⟩
     ·rw [if_neg c64] at H
      have c64b0 : (a0_0 == 1) = false := beq_eq_false_iff_ne.mpr c64
      have c64b1 : (a0_0 != 1) = true := bne_iff_ne.mpr c64
      by_cases c80 : a0_0 = 3
      ·rw [if_pos c80] at H
       have c80b0 : (a0_0 == 3) = true := beq_iff_eq.mpr c80
       have c80b1 : (a0_0 != 3) = false := bne_eq_false_iff_eq.mpr c80
       clear c80
       by_cases c81 : (l0_7.length : Int) ≤ 16
       ·rw [if_pos c81] at H
        have c81b0 : decide ((l0_7.length : Int) ≤ 16) = true := decide_eq_true c81
        have c81b1 : decide (l0_7.length ≤ 16) = true := decide_eq_true (by omega)
        clear c81
        replace H := Option.bind_eq_some_iff.mp H
        obtain ⟨t124, A820, H⟩ := H
        replace H : ((letter_writes.f kj1 l0_8).bind fun t125 => (if a0_5 > 0 then (some 70) else (if t124 = true then (if t125 = true then (if a0_6.toList = ([] : List UInt8) then (some 0) else (some 70)) else (some 70)) else (some 70)))) = some r := H
        have A82 := Aside0.mk A820
        clear A820
        replace H := Option.bind_eq_some_iff.mp H
        obtain ⟨t125, A830, H⟩ := H
        replace H : (if a0_5 > 0 then (some 70) else (if t124 = true then (if t125 = true then (if a0_6.toList = ([] : List UInt8) then (some 0) else (some 70)) else (some 70)) else (some 70))) = some r := H
        have A83 := Aside0.mk A830
        clear A830
        by_cases c84 : a0_5 > 0
        ·rw [if_pos c84] at H
         have c84b0 : decide (0 < a0_5) = true := decide_eq_true c84
         clear c84
         obtain rfl := Option.some.inj H
         have hcz85_0 : wc.cell? ⟨gb113, 0, none⟩ = some (.int .i64 a0_0) := (blk_cell BK113.out 0).trans rfl
         have hcz85_1 : wc.cell? ⟨gb113, 1, none⟩ = some (.int .i64 a0_1) := (blk_cell BK113.out 1).trans rfl
         have hcz85_2 : wc.cell? ⟨gb113, 2, none⟩ = some (.int .i64 a0_2) := (blk_cell BK113.out 2).trans rfl
         have hcz85_3 : wc.cell? ⟨gb113, 3, none⟩ = some (.int .i64 a0_3) := (blk_cell BK113.out 3).trans rfl
         have hcz85_4 : wc.cell? ⟨gb113, 4, none⟩ = some (.int .i64 a0_4) := (blk_cell BK113.out 4).trans rfl
         have hcz85_5 : wc.cell? ⟨gb113, 5, none⟩ = some (.int .i64 a0_5) := (blk_cell BK113.out 5).trans rfl
         have hcz85_6 : wc.cell? ⟨gb113, 6, none⟩ = some (.string a0_6) := (blk_cell BK113.out 6).trans rfl
         have hcz85_7 : wc.cell? ⟨gb113, 7, none⟩ = some (.slice A0_7 l0_7.length c0_7) := (blk_cell BK113.out 7).trans rfl
         have hcz85_8 : wc.cell? ⟨gb113, 8, none⟩ = some (.slice A0_8 l0_8.length c0_8) := (blk_cell BK113.out 8).trans rfl
         have hfz85_0 := blk_frozen BK113.out 0
         have hfz85_1 := blk_frozen BK113.out 1
         have hfz85_2 := blk_frozen BK113.out 2
         have hfz85_3 := blk_frozen BK113.out 3
         have hfz85_4 := blk_frozen BK113.out 4
         have hfz85_5 := blk_frozen BK113.out 5
         have hfz85_6 := blk_frozen BK113.out 6
         have hfz85_7 := blk_frozen BK113.out 7
         have hfz85_8 := blk_frozen BK113.out 8
         go_wp2_with (first | (go_at_call 113; (with_reducible refine (letter_Rising.calls kj1 _ _ l0_7 t124 _ ?side1 ?side2 A82.out).mono ?_); (case side1 => repeat (first | exact (Kd.C_below HR0_7.out HB.out) | (with_reducible refine Kd.C_alloc ?_ _) | (with_reducible refine Kd.C_drewN ?_ _) | (with_reducible refine Kd.C_drew ?_))); (case side2 => exact HC0_7.out); rintro e w' ⟨rfl, ⟨nd, rfl⟩⟩; (try first | exact ⟨rfl, _, World.drewN_drewN _ _ _⟩ | exact ⟨rfl, _, Eq.trans (World.drewN_drewN _ _ _) (congrArg (World.drewN _) (Nat.add_assoc _ _ _))⟩)) | (go_at_call 114; (with_reducible refine (letter_writes.calls kj1 _ _ l0_8 t125 _ ?side1 ?side2 A83.out).mono ?_); (case side1 => repeat (first | exact (Kd.C_below HR0_8.out (by repeat (first | (with_reducible first | exact HB.out | apply below_alloc | apply pw_below_drewN | apply below_drew1 | refine below_set ?_ GE113.out) | exact HB.out))) | (with_reducible refine Kd.C_alloc ?_ _) | (with_reducible refine Kd.C_drewN ?_ _) | (with_reducible refine Kd.C_drew ?_))); (case side2 => exact HC0_8.out); rintro e w86 ⟨rfl, hb⟩; have n0_ := Aside0.mk (blk_below (g := gb113) (o := .cells #[.int .i64 a0_0, .int .i64 a0_1, .int .i64 a0_2, .int .i64 a0_3, .int .i64 a0_4, .int .i64 a0_5, .string a0_6, .slice A0_7 l0_7.length c0_7, .slice A0_8 l0_8.length c0_8] 138 (0, 0)) (by (with_reducible repeat (first | refine blk_drewN ?_ _ | refine blk_drew ?_ | refine blk_alloc ?_ _)); exact BK113.out) hb); have n1_ := Aside0.mk (below_step (by repeat (first | (with_reducible first | exact HB.out | apply below_alloc | apply pw_below_drewN | apply below_drew1 | refine below_set ?_ GE113.out) | exact HB.out)) hb); clear BK113; clear HB; have BK113 := n0_; have HB := n1_; clear n0_ n1_; (try clear hb); (try clear hb2); (try clear hk); (try clear hi); have hcz87_0 : w86.cell? ⟨gb113, 0, none⟩ = some (.int .i64 a0_0) := (blk_cell BK113.out 0).trans rfl; have hcz87_1 : w86.cell? ⟨gb113, 1, none⟩ = some (.int .i64 a0_1) := (blk_cell BK113.out 1).trans rfl; have hcz87_2 : w86.cell? ⟨gb113, 2, none⟩ = some (.int .i64 a0_2) := (blk_cell BK113.out 2).trans rfl; have hcz87_3 : w86.cell? ⟨gb113, 3, none⟩ = some (.int .i64 a0_3) := (blk_cell BK113.out 3).trans rfl; have hcz87_4 : w86.cell? ⟨gb113, 4, none⟩ = some (.int .i64 a0_4) := (blk_cell BK113.out 4).trans rfl; have hcz87_5 : w86.cell? ⟨gb113, 5, none⟩ = some (.int .i64 a0_5) := (blk_cell BK113.out 5).trans rfl; have hcz87_6 : w86.cell? ⟨gb113, 6, none⟩ = some (.string a0_6) := (blk_cell BK113.out 6).trans rfl; have hcz87_7 : w86.cell? ⟨gb113, 7, none⟩ = some (.slice A0_7 l0_7.length c0_7) := (blk_cell BK113.out 7).trans rfl; have hcz87_8 : w86.cell? ⟨gb113, 8, none⟩ = some (.slice A0_8 l0_8.length c0_8) := (blk_cell BK113.out 8).trans rfl; have hfz87_0 := blk_frozen BK113.out 0; have hfz87_1 := blk_frozen BK113.out 1; have hfz87_2 := blk_frozen BK113.out 2; have hfz87_3 := blk_frozen BK113.out 3; have hfz87_4 := blk_frozen BK113.out 4; have hfz87_5 := blk_frozen BK113.out 5; have hfz87_6 := blk_frozen BK113.out 6; have hfz87_7 := blk_frozen BK113.out 7; have hfz87_8 := blk_frozen BK113.out 8))
         repeat (go_quiet (first | (go_at_call 113; (with_reducible refine (letter_Rising.calls kj1 _ _ l0_7 t124 _ ?side1 ?side2 A82.out).mono ?_); (case side1 => repeat (first | exact (Kd.C_below HR0_7.out HB.out) | (with_reducible refine Kd.C_alloc ?_ _) | (with_reducible refine Kd.C_drewN ?_ _) | (with_reducible refine Kd.C_drew ?_))); (case side2 => exact HC0_7.out); rintro e w' ⟨rfl, ⟨nd, rfl⟩⟩; (try first | exact ⟨rfl, _, World.drewN_drewN _ _ _⟩ | exact ⟨rfl, _, Eq.trans (World.drewN_drewN _ _ _) (congrArg (World.drewN _) (Nat.add_assoc _ _ _))⟩)) | (go_at_call 114; (with_reducible refine (letter_writes.calls kj1 _ _ l0_8 t125 _ ?side1 ?side2 A83.out).mono ?_); (case side1 => repeat (first | exact (Kd.C_below HR0_8.out (by repeat (first | (with_reducible first | exact HB.out | apply below_alloc | apply pw_below_drewN | apply below_drew1 | refine below_set ?_ GE113.out) | exact HB.out))) | (with_reducible refine Kd.C_alloc ?_ _) | (with_reducible refine Kd.C_drewN ?_ _) | (with_reducible refine Kd.C_drew ?_))); (case side2 => exact HC0_8.out); rintro e w86 ⟨rfl, hb⟩; have n0_ := Aside0.mk (blk_below (g := gb113) (o := .cells #[.int .i64 a0_0, .int .i64 a0_1, .int .i64 a0_2, .int .i64 a0_3, .int .i64 a0_4, .int .i64 a0_5, .string a0_6, .slice A0_7 l0_7.length c0_7, .slice A0_8 l0_8.length c0_8] 138 (0, 0)) (by (with_reducible repeat (first | refine blk_drewN ?_ _ | refine blk_drew ?_ | refine blk_alloc ?_ _)); exact BK113.out) hb); have n1_ := Aside0.mk (below_step (by repeat (first | (with_reducible first | exact HB.out | apply below_alloc | apply pw_below_drewN | apply below_drew1 | refine below_set ?_ GE113.out) | exact HB.out)) hb); clear BK113; clear HB; have BK113 := n0_; have HB := n1_; clear n0_ n1_; (try clear hb); (try clear hb2); (try clear hk); (try clear hi); have hcz87_0 : w86.cell? ⟨gb113, 0, none⟩ = some (.int .i64 a0_0) := (blk_cell BK113.out 0).trans rfl; have hcz87_1 : w86.cell? ⟨gb113, 1, none⟩ = some (.int .i64 a0_1) := (blk_cell BK113.out 1).trans rfl; have hcz87_2 : w86.cell? ⟨gb113, 2, none⟩ = some (.int .i64 a0_2) := (blk_cell BK113.out 2).trans rfl; have hcz87_3 : w86.cell? ⟨gb113, 3, none⟩ = some (.int .i64 a0_3) := (blk_cell BK113.out 3).trans rfl; have hcz87_4 : w86.cell? ⟨gb113, 4, none⟩ = some (.int .i64 a0_4) := (blk_cell BK113.out 4).trans rfl; have hcz87_5 : w86.cell? ⟨gb113, 5, none⟩ = some (.int .i64 a0_5) := (blk_cell BK113.out 5).trans rfl; have hcz87_6 : w86.cell? ⟨gb113, 6, none⟩ = some (.string a0_6) := (blk_cell BK113.out 6).trans rfl; have hcz87_7 : w86.cell? ⟨gb113, 7, none⟩ = some (.slice A0_7 l0_7.length c0_7) := (blk_cell BK113.out 7).trans rfl; have hcz87_8 : w86.cell? ⟨gb113, 8, none⟩ = some (.slice A0_8 l0_8.length c0_8) := (blk_cell BK113.out 8).trans rfl; have hfz87_0 := blk_frozen BK113.out 0; have hfz87_1 := blk_frozen BK113.out 1; have hfz87_2 := blk_frozen BK113.out 2; have hfz87_3 := blk_frozen BK113.out 3; have hfz87_4 := blk_frozen BK113.out 4; have hfz87_5 := blk_frozen BK113.out 5; have hfz87_6 := blk_frozen BK113.out 6; have hfz87_7 := blk_frozen BK113.out 7; have hfz87_8 := blk_frozen BK113.out 8)); try go_wp2_with (first | (go_at_call 113; (with_reducible refine (letter_Rising.calls kj1 _ _ l0_7 t124 _ ?side1 ?side2 A82.out).mono ?_); (case side1 => repeat (first | exact (Kd.C_below HR0_7.out HB.out) | (with_reducible refine Kd.C_alloc ?_ _) | (with_reducible refine Kd.C_drewN ?_ _) | (with_reducible refine Kd.C_drew ?_))); (case side2 => exact HC0_7.out); rintro e w' ⟨rfl, ⟨nd, rfl⟩⟩; (try first | exact ⟨rfl, _, World.drewN_drewN _ _ _⟩ | exact ⟨rfl, _, Eq.trans (World.drewN_drewN _ _ _) (congrArg (World.drewN _) (Nat.add_assoc _ _ _))⟩)) | (go_at_call 114; (with_reducible refine (letter_writes.calls kj1 _ _ l0_8 t125 _ ?side1 ?side2 A83.out).mono ?_); (case side1 => repeat (first | exact (Kd.C_below HR0_8.out (by repeat (first | (with_reducible first | exact HB.out | apply below_alloc | apply pw_below_drewN | apply below_drew1 | refine below_set ?_ GE113.out) | exact HB.out))) | (with_reducible refine Kd.C_alloc ?_ _) | (with_reducible refine Kd.C_drewN ?_ _) | (with_reducible refine Kd.C_drew ?_))); (case side2 => exact HC0_8.out); rintro e w86 ⟨rfl, hb⟩; have n0_ := Aside0.mk (blk_below (g := gb113) (o := .cells #[.int .i64 a0_0, .int .i64 a0_1, .int .i64 a0_2, .int .i64 a0_3, .int .i64 a0_4, .int .i64 a0_5, .string a0_6, .slice A0_7 l0_7.length c0_7, .slice A0_8 l0_8.length c0_8] 138 (0, 0)) (by (with_reducible repeat (first | refine blk_drewN ?_ _ | refine blk_drew ?_ | refine blk_alloc ?_ _)); exact BK113.out) hb); have n1_ := Aside0.mk (below_step (by repeat (first | (with_reducible first | exact HB.out | apply below_alloc | apply pw_below_drewN | apply below_drew1 | refine below_set ?_ GE113.out) | exact HB.out)) hb); clear BK113; clear HB; have BK113 := n0_; have HB := n1_; clear n0_ n1_; (try clear hb); (try clear hb2); (try clear hk); (try clear hi); have hcz87_0 : w86.cell? ⟨gb113, 0, none⟩ = some (.int .i64 a0_0) := (blk_cell BK113.out 0).trans rfl; have hcz87_1 : w86.cell? ⟨gb113, 1, none⟩ = some (.int .i64 a0_1) := (blk_cell BK113.out 1).trans rfl; have hcz87_2 : w86.cell? ⟨gb113, 2, none⟩ = some (.int .i64 a0_2) := (blk_cell BK113.out 2).trans rfl; have hcz87_3 : w86.cell? ⟨gb113, 3, none⟩ = some (.int .i64 a0_3) := (blk_cell BK113.out 3).trans rfl; have hcz87_4 : w86.cell? ⟨gb113, 4, none⟩ = some (.int .i64 a0_4) := (blk_cell BK113.out 4).trans rfl; have hcz87_5 : w86.cell? ⟨gb113, 5, none⟩ = some (.int .i64 a0_5) := (blk_cell BK113.out 5).trans rfl; have hcz87_6 : w86.cell? ⟨gb113, 6, none⟩ = some (.string a0_6) := (blk_cell BK113.out 6).trans rfl; have hcz87_7 : w86.cell? ⟨gb113, 7, none⟩ = some (.slice A0_7 l0_7.length c0_7) := (blk_cell BK113.out 7).trans rfl; have hcz87_8 : w86.cell? ⟨gb113, 8, none⟩ = some (.slice A0_8 l0_8.length c0_8) := (blk_cell BK113.out 8).trans rfl; have hfz87_0 := blk_frozen BK113.out 0; have hfz87_1 := blk_frozen BK113.out 1; have hfz87_2 := blk_frozen BK113.out 2; have hfz87_3 := blk_frozen BK113.out 3; have hfz87_4 := blk_frozen BK113.out 4; have hfz87_5 := blk_frozen BK113.out 5; have hfz87_6 := blk_frozen BK113.out 6; have hfz87_7 := blk_frozen BK113.out 7; have hfz87_8 := blk_frozen BK113.out 8)))
         go_ret
         exact ⟨by first | rfl | (simp [errW_none, errW_some] <;> rfl) | (simp [*, errW_none, errW_some] <;> rfl), by repeat (first | (with_reducible first | exact HB.out | apply below_alloc | apply pw_below_drewN | apply below_drew1 | refine below_set ?_ GE113.out) | exact HB.out)⟩
        ·rw [if_neg c84] at H
         have c84b0 : decide (0 < a0_5) = false := decide_eq_false c84
         clear c84
         by_cases c88 : t124 = true
         ·subst c88
          have H1 : (if t125 = true then (if a0_6.toList = ([] : List UInt8) then (some 0) else (some 70)) else (some 70)) = some r := by rw [if_pos rfl] at H; exact H
          clear H
          have H := H1
          clear H1
          by_cases c89 : t125 = true
          ·subst c89
           have H1 : (if a0_6.toList = ([] : List UInt8) then (some 0) else (some 70)) = some r := by rw [if_pos rfl] at H; exact H
           clear H
           have H := H1
           clear H1
           by_cases c90 : a0_6.toList = ([] : List UInt8)
           ·rw [if_pos c90] at H
            have c90b0 : (a0_6.toList == ([] : List UInt8)) = true := beq_iff_eq.mpr c90
            have c90b1 : (a0_6.toList != ([] : List UInt8)) = false := bne_eq_false_iff_eq.mpr c90
            clear c90
            obtain rfl := Option.some.inj H
            have hcz91_0 : wc.cell? ⟨gb113, 0, none⟩ = some (.int .i64 a0_0) := (blk_cell BK113.out 0).trans rfl
            have hcz91_1 : wc.cell? ⟨gb113, 1, none⟩ = some (.int .i64 a0_1) := (blk_cell BK113.out 1).trans rfl
            have hcz91_2 : wc.cell? ⟨gb113, 2, none⟩ = some (.int .i64 a0_2) := (blk_cell BK113.out 2).trans rfl
            have hcz91_3 : wc.cell? ⟨gb113, 3, none⟩ = some (.int .i64 a0_3) := (blk_cell BK113.out 3).trans rfl
            have hcz91_4 : wc.cell? ⟨gb113, 4, none⟩ = some (.int .i64 a0_4) := (blk_cell BK113.out 4).trans rfl
            have hcz91_5 : wc.cell? ⟨gb113, 5, none⟩ = some (.int .i64 a0_5) := (blk_cell BK113.out 5).trans rfl
            have hcz91_6 : wc.cell? ⟨gb113, 6, none⟩ = some (.string a0_6) := (blk_cell BK113.out 6).trans rfl
            have hcz91_7 : wc.cell? ⟨gb113, 7, none⟩ = some (.slice A0_7 l0_7.length c0_7) := (blk_cell BK113.out 7).trans rfl
            have hcz91_8 : wc.cell? ⟨gb113, 8, none⟩ = some (.slice A0_8 l0_8.length c0_8) := (blk_cell BK113.out 8).trans rfl
            have hfz91_0 := blk_frozen BK113.out 0
            have hfz91_1 := blk_frozen BK113.out 1
            have hfz91_2 := blk_frozen BK113.out 2
            have hfz91_3 := blk_frozen BK113.out 3
            have hfz91_4 := blk_frozen BK113.out 4
            have hfz91_5 := blk_frozen BK113.out 5
            have hfz91_6 := blk_frozen BK113.out 6
            have hfz91_7 := blk_frozen BK113.out 7
            have hfz91_8 := blk_frozen BK113.out 8
            go_wp2_with (first | (go_at_call 113; (with_reducible refine (letter_Rising.calls kj1 _ _ l0_7 true _ ?side1 ?side2 A82.out).mono ?_); (case side1 => repeat (first | exact (Kd.C_below HR0_7.out HB.out) | (with_reducible refine Kd.C_alloc ?_ _) | (with_reducible refine Kd.C_drewN ?_ _) | (with_reducible refine Kd.C_drew ?_))); (case side2 => exact HC0_7.out); rintro e w' ⟨rfl, ⟨nd, rfl⟩⟩; (try first | exact ⟨rfl, _, World.drewN_drewN _ _ _⟩ | exact ⟨rfl, _, Eq.trans (World.drewN_drewN _ _ _) (congrArg (World.drewN _) (Nat.add_assoc _ _ _))⟩)) | (go_at_call 114; (with_reducible refine (letter_writes.calls kj1 _ _ l0_8 true _ ?side1 ?side2 A83.out).mono ?_); (case side1 => repeat (first | exact (Kd.C_below HR0_8.out (by repeat (first | (with_reducible first | exact HB.out | apply below_alloc | apply pw_below_drewN | apply below_drew1 | refine below_set ?_ GE113.out) | exact HB.out))) | (with_reducible refine Kd.C_alloc ?_ _) | (with_reducible refine Kd.C_drewN ?_ _) | (with_reducible refine Kd.C_drew ?_))); (case side2 => exact HC0_8.out); rintro e w92 ⟨rfl, hb⟩; have n0_ := Aside0.mk (blk_below (g := gb113) (o := .cells #[.int .i64 a0_0, .int .i64 a0_1, .int .i64 a0_2, .int .i64 a0_3, .int .i64 a0_4, .int .i64 a0_5, .string a0_6, .slice A0_7 l0_7.length c0_7, .slice A0_8 l0_8.length c0_8] 138 (0, 0)) (by (with_reducible repeat (first | refine blk_drewN ?_ _ | refine blk_drew ?_ | refine blk_alloc ?_ _)); exact BK113.out) hb); have n1_ := Aside0.mk (below_step (by repeat (first | (with_reducible first | exact HB.out | apply below_alloc | apply pw_below_drewN | apply below_drew1 | refine below_set ?_ GE113.out) | exact HB.out)) hb); clear BK113; clear HB; have BK113 := n0_; have HB := n1_; clear n0_ n1_; (try clear hb); (try clear hb2); (try clear hk); (try clear hi); have hcz93_0 : w92.cell? ⟨gb113, 0, none⟩ = some (.int .i64 a0_0) := (blk_cell BK113.out 0).trans rfl; have hcz93_1 : w92.cell? ⟨gb113, 1, none⟩ = some (.int .i64 a0_1) := (blk_cell BK113.out 1).trans rfl; have hcz93_2 : w92.cell? ⟨gb113, 2, none⟩ = some (.int .i64 a0_2) := (blk_cell BK113.out 2).trans rfl; have hcz93_3 : w92.cell? ⟨gb113, 3, none⟩ = some (.int .i64 a0_3) := (blk_cell BK113.out 3).trans rfl; have hcz93_4 : w92.cell? ⟨gb113, 4, none⟩ = some (.int .i64 a0_4) := (blk_cell BK113.out 4).trans rfl; have hcz93_5 : w92.cell? ⟨gb113, 5, none⟩ = some (.int .i64 a0_5) := (blk_cell BK113.out 5).trans rfl; have hcz93_6 : w92.cell? ⟨gb113, 6, none⟩ = some (.string a0_6) := (blk_cell BK113.out 6).trans rfl; have hcz93_7 : w92.cell? ⟨gb113, 7, none⟩ = some (.slice A0_7 l0_7.length c0_7) := (blk_cell BK113.out 7).trans rfl; have hcz93_8 : w92.cell? ⟨gb113, 8, none⟩ = some (.slice A0_8 l0_8.length c0_8) := (blk_cell BK113.out 8).trans rfl; have hfz93_0 := blk_frozen BK113.out 0; have hfz93_1 := blk_frozen BK113.out 1; have hfz93_2 := blk_frozen BK113.out 2; have hfz93_3 := blk_frozen BK113.out 3; have hfz93_4 := blk_frozen BK113.out 4; have hfz93_5 := blk_frozen BK113.out 5; have hfz93_6 := blk_frozen BK113.out 6; have hfz93_7 := blk_frozen BK113.out 7; have hfz93_8 := blk_frozen BK113.out 8))
            repeat (go_quiet (first | (go_at_call 113; (with_reducible refine (letter_Rising.calls kj1 _ _ l0_7 true _ ?side1 ?side2 A82.out).mono ?_); (case side1 => repeat (first | exact (Kd.C_below HR0_7.out HB.out) | (with_reducible refine Kd.C_alloc ?_ _) | (with_reducible refine Kd.C_drewN ?_ _) | (with_reducible refine Kd.C_drew ?_))); (case side2 => exact HC0_7.out); rintro e w' ⟨rfl, ⟨nd, rfl⟩⟩; (try first | exact ⟨rfl, _, World.drewN_drewN _ _ _⟩ | exact ⟨rfl, _, Eq.trans (World.drewN_drewN _ _ _) (congrArg (World.drewN _) (Nat.add_assoc _ _ _))⟩)) | (go_at_call 114; (with_reducible refine (letter_writes.calls kj1 _ _ l0_8 true _ ?side1 ?side2 A83.out).mono ?_); (case side1 => repeat (first | exact (Kd.C_below HR0_8.out (by repeat (first | (with_reducible first | exact HB.out | apply below_alloc | apply pw_below_drewN | apply below_drew1 | refine below_set ?_ GE113.out) | exact HB.out))) | (with_reducible refine Kd.C_alloc ?_ _) | (with_reducible refine Kd.C_drewN ?_ _) | (with_reducible refine Kd.C_drew ?_))); (case side2 => exact HC0_8.out); rintro e w92 ⟨rfl, hb⟩; have n0_ := Aside0.mk (blk_below (g := gb113) (o := .cells #[.int .i64 a0_0, .int .i64 a0_1, .int .i64 a0_2, .int .i64 a0_3, .int .i64 a0_4, .int .i64 a0_5, .string a0_6, .slice A0_7 l0_7.length c0_7, .slice A0_8 l0_8.length c0_8] 138 (0, 0)) (by (with_reducible repeat (first | refine blk_drewN ?_ _ | refine blk_drew ?_ | refine blk_alloc ?_ _)); exact BK113.out) hb); have n1_ := Aside0.mk (below_step (by repeat (first | (with_reducible first | exact HB.out | apply below_alloc | apply pw_below_drewN | apply below_drew1 | refine below_set ?_ GE113.out) | exact HB.out)) hb); clear BK113; clear HB; have BK113 := n0_; have HB := n1_; clear n0_ n1_; (try clear hb); (try clear hb2); (try clear hk); (try clear hi); have hcz93_0 : w92.cell? ⟨gb113, 0, none⟩ = some (.int .i64 a0_0) := (blk_cell BK113.out 0).trans rfl; have hcz93_1 : w92.cell? ⟨gb113, 1, none⟩ = some (.int .i64 a0_1) := (blk_cell BK113.out 1).trans rfl; have hcz93_2 : w92.cell? ⟨gb113, 2, none⟩ = some (.int .i64 a0_2) := (blk_cell BK113.out 2).trans rfl; have hcz93_3 : w92.cell? ⟨gb113, 3, none⟩ = some (.int .i64 a0_3) := (blk_cell BK113.out 3).trans rfl; have hcz93_4 : w92.cell? ⟨gb113, 4, none⟩ = some (.int .i64 a0_4) := (blk_cell BK113.out 4).trans rfl; have hcz93_5 : w92.cell? ⟨gb113, 5, none⟩ = some (.int .i64 a0_5) := (blk_cell BK113.out 5).trans rfl; have hcz93_6 : w92.cell? ⟨gb113, 6, none⟩ = some (.string a0_6) := (blk_cell BK113.out 6).trans rfl; have hcz93_7 : w92.cell? ⟨gb113, 7, none⟩ = some (.slice A0_7 l0_7.length c0_7) := (blk_cell BK113.out 7).trans rfl; have hcz93_8 : w92.cell? ⟨gb113, 8, none⟩ = some (.slice A0_8 l0_8.length c0_8) := (blk_cell BK113.out 8).trans rfl; have hfz93_0 := blk_frozen BK113.out 0; have hfz93_1 := blk_frozen BK113.out 1; have hfz93_2 := blk_frozen BK113.out 2; have hfz93_3 := blk_frozen BK113.out 3; have hfz93_4 := blk_frozen BK113.out 4; have hfz93_5 := blk_frozen BK113.out 5; have hfz93_6 := blk_frozen BK113.out 6; have hfz93_7 := blk_frozen BK113.out 7; have hfz93_8 := blk_frozen BK113.out 8)); try go_wp2_with (first | (go_at_call 113; (with_reducible refine (letter_Rising.calls kj1 _ _ l0_7 true _ ?side1 ?side2 A82.out).mono ?_); (case side1 => repeat (first | exact (Kd.C_below HR0_7.out HB.out) | (with_reducible refine Kd.C_alloc ?_ _) | (with_reducible refine Kd.C_drewN ?_ _) | (with_reducible refine Kd.C_drew ?_))); (case side2 => exact HC0_7.out); rintro e w' ⟨rfl, ⟨nd, rfl⟩⟩; (try first | exact ⟨rfl, _, World.drewN_drewN _ _ _⟩ | exact ⟨rfl, _, Eq.trans (World.drewN_drewN _ _ _) (congrArg (World.drewN _) (Nat.add_assoc _ _ _))⟩)) | (go_at_call 114; (with_reducible refine (letter_writes.calls kj1 _ _ l0_8 true _ ?side1 ?side2 A83.out).mono ?_); (case side1 => repeat (first | exact (Kd.C_below HR0_8.out (by repeat (first | (with_reducible first | exact HB.out | apply below_alloc | apply pw_below_drewN | apply below_drew1 | refine below_set ?_ GE113.out) | exact HB.out))) | (with_reducible refine Kd.C_alloc ?_ _) | (with_reducible refine Kd.C_drewN ?_ _) | (with_reducible refine Kd.C_drew ?_))); (case side2 => exact HC0_8.out); rintro e w92 ⟨rfl, hb⟩; have n0_ := Aside0.mk (blk_below (g := gb113) (o := .cells #[.int .i64 a0_0, .int .i64 a0_1, .int .i64 a0_2, .int .i64 a0_3, .int .i64 a0_4, .int .i64 a0_5, .string a0_6, .slice A0_7 l0_7.length c0_7, .slice A0_8 l0_8.length c0_8] 138 (0, 0)) (by (with_reducible repeat (first | refine blk_drewN ?_ _ | refine blk_drew ?_ | refine blk_alloc ?_ _)); exact BK113.out) hb); have n1_ := Aside0.mk (below_step (by repeat (first | (with_reducible first | exact HB.out | apply below_alloc | apply pw_below_drewN | apply below_drew1 | refine below_set ?_ GE113.out) | exact HB.out)) hb); clear BK113; clear HB; have BK113 := n0_; have HB := n1_; clear n0_ n1_; (try clear hb); (try clear hb2); (try clear hk); (try clear hi); have hcz93_0 : w92.cell? ⟨gb113, 0, none⟩ = some (.int .i64 a0_0) := (blk_cell BK113.out 0).trans rfl; have hcz93_1 : w92.cell? ⟨gb113, 1, none⟩ = some (.int .i64 a0_1) := (blk_cell BK113.out 1).trans rfl; have hcz93_2 : w92.cell? ⟨gb113, 2, none⟩ = some (.int .i64 a0_2) := (blk_cell BK113.out 2).trans rfl; have hcz93_3 : w92.cell? ⟨gb113, 3, none⟩ = some (.int .i64 a0_3) := (blk_cell BK113.out 3).trans rfl; have hcz93_4 : w92.cell? ⟨gb113, 4, none⟩ = some (.int .i64 a0_4) := (blk_cell BK113.out 4).trans rfl; have hcz93_5 : w92.cell? ⟨gb113, 5, none⟩ = some (.int .i64 a0_5) := (blk_cell BK113.out 5).trans rfl; have hcz93_6 : w92.cell? ⟨gb113, 6, none⟩ = some (.string a0_6) := (blk_cell BK113.out 6).trans rfl; have hcz93_7 : w92.cell? ⟨gb113, 7, none⟩ = some (.slice A0_7 l0_7.length c0_7) := (blk_cell BK113.out 7).trans rfl; have hcz93_8 : w92.cell? ⟨gb113, 8, none⟩ = some (.slice A0_8 l0_8.length c0_8) := (blk_cell BK113.out 8).trans rfl; have hfz93_0 := blk_frozen BK113.out 0; have hfz93_1 := blk_frozen BK113.out 1; have hfz93_2 := blk_frozen BK113.out 2; have hfz93_3 := blk_frozen BK113.out 3; have hfz93_4 := blk_frozen BK113.out 4; have hfz93_5 := blk_frozen BK113.out 5; have hfz93_6 := blk_frozen BK113.out 6; have hfz93_7 := blk_frozen BK113.out 7; have hfz93_8 := blk_frozen BK113.out 8)))
            go_ret
            exact ⟨by first | rfl | (simp [errW_none, errW_some] <;> rfl) | (simp [*, errW_none, errW_some] <;> rfl), by repeat (first | (with_reducible first | exact HB.out | apply below_alloc | apply pw_below_drewN | apply below_drew1 | refine below_set ?_ GE113.out) | exact HB.out)⟩
           ·rw [if_neg c90] at H
            have c90b0 : (a0_6.toList == ([] : List UInt8)) = false := beq_eq_false_iff_ne.mpr c90
            have c90b1 : (a0_6.toList != ([] : List UInt8)) = true := bne_iff_ne.mpr c90
            obtain rfl := Option.some.inj H
            have hcz94_0 : wc.cell? ⟨gb113, 0, none⟩ = some (.int .i64 a0_0) := (blk_cell BK113.out 0).trans rfl
            have hcz94_1 : wc.cell? ⟨gb113, 1, none⟩ = some (.int .i64 a0_1) := (blk_cell BK113.out 1).trans rfl
            have hcz94_2 : wc.cell? ⟨gb113, 2, none⟩ = some (.int .i64 a0_2) := (blk_cell BK113.out 2).trans rfl
            have hcz94_3 : wc.cell? ⟨gb113, 3, none⟩ = some (.int .i64 a0_3) := (blk_cell BK113.out 3).trans rfl
            have hcz94_4 : wc.cell? ⟨gb113, 4, none⟩ = some (.int .i64 a0_4) := (blk_cell BK113.out 4).trans rfl
            have hcz94_5 : wc.cell? ⟨gb113, 5, none⟩ = some (.int .i64 a0_5) := (blk_cell BK113.out 5).trans rfl
            have hcz94_6 : wc.cell? ⟨gb113, 6, none⟩ = some (.string a0_6) := (blk_cell BK113.out 6).trans rfl
            have hcz94_7 : wc.cell? ⟨gb113, 7, none⟩ = some (.slice A0_7 l0_7.length c0_7) := (blk_cell BK113.out 7).trans rfl
            have hcz94_8 : wc.cell? ⟨gb113, 8, none⟩ = some (.slice A0_8 l0_8.length c0_8) := (blk_cell BK113.out 8).trans rfl
            have hfz94_0 := blk_frozen BK113.out 0
            have hfz94_1 := blk_frozen BK113.out 1
            have hfz94_2 := blk_frozen BK113.out 2
            have hfz94_3 := blk_frozen BK113.out 3
            have hfz94_4 := blk_frozen BK113.out 4
            have hfz94_5 := blk_frozen BK113.out 5
            have hfz94_6 := blk_frozen BK113.out 6
            have hfz94_7 := blk_frozen BK113.out 7
            have hfz94_8 := blk_frozen BK113.out 8
            go_wp2_with (first | (go_at_call 113; (with_reducible refine (letter_Rising.calls kj1 _ _ l0_7 true _ ?side1 ?side2 A82.out).mono ?_); (case side1 => repeat (first | exact (Kd.C_below HR0_7.out HB.out) | (with_reducible refine Kd.C_alloc ?_ _) | (with_reducible refine Kd.C_drewN ?_ _) | (with_reducible refine Kd.C_drew ?_))); (case side2 => exact HC0_7.out); rintro e w' ⟨rfl, ⟨nd, rfl⟩⟩; (try first | exact ⟨rfl, _, World.drewN_drewN _ _ _⟩ | exact ⟨rfl, _, Eq.trans (World.drewN_drewN _ _ _) (congrArg (World.drewN _) (Nat.add_assoc _ _ _))⟩)) | (go_at_call 114; (with_reducible refine (letter_writes.calls kj1 _ _ l0_8 true _ ?side1 ?side2 A83.out).mono ?_); (case side1 => repeat (first | exact (Kd.C_below HR0_8.out (by repeat (first | (with_reducible first | exact HB.out | apply below_alloc | apply pw_below_drewN | apply below_drew1 | refine below_set ?_ GE113.out) | exact HB.out))) | (with_reducible refine Kd.C_alloc ?_ _) | (with_reducible refine Kd.C_drewN ?_ _) | (with_reducible refine Kd.C_drew ?_))); (case side2 => exact HC0_8.out); rintro e w95 ⟨rfl, hb⟩; have n0_ := Aside0.mk (blk_below (g := gb113) (o := .cells #[.int .i64 a0_0, .int .i64 a0_1, .int .i64 a0_2, .int .i64 a0_3, .int .i64 a0_4, .int .i64 a0_5, .string a0_6, .slice A0_7 l0_7.length c0_7, .slice A0_8 l0_8.length c0_8] 138 (0, 0)) (by (with_reducible repeat (first | refine blk_drewN ?_ _ | refine blk_drew ?_ | refine blk_alloc ?_ _)); exact BK113.out) hb); have n1_ := Aside0.mk (below_step (by repeat (first | (with_reducible first | exact HB.out | apply below_alloc | apply pw_below_drewN | apply below_drew1 | refine below_set ?_ GE113.out) | exact HB.out)) hb); clear BK113; clear HB; have BK113 := n0_; have HB := n1_; clear n0_ n1_; (try clear hb); (try clear hb2); (try clear hk); (try clear hi); have hcz96_0 : w95.cell? ⟨gb113, 0, none⟩ = some (.int .i64 a0_0) := (blk_cell BK113.out 0).trans rfl; have hcz96_1 : w95.cell? ⟨gb113, 1, none⟩ = some (.int .i64 a0_1) := (blk_cell BK113.out 1).trans rfl; have hcz96_2 : w95.cell? ⟨gb113, 2, none⟩ = some (.int .i64 a0_2) := (blk_cell BK113.out 2).trans rfl; have hcz96_3 : w95.cell? ⟨gb113, 3, none⟩ = some (.int .i64 a0_3) := (blk_cell BK113.out 3).trans rfl; have hcz96_4 : w95.cell? ⟨gb113, 4, none⟩ = some (.int .i64 a0_4) := (blk_cell BK113.out 4).trans rfl; have hcz96_5 : w95.cell? ⟨gb113, 5, none⟩ = some (.int .i64 a0_5) := (blk_cell BK113.out 5).trans rfl; have hcz96_6 : w95.cell? ⟨gb113, 6, none⟩ = some (.string a0_6) := (blk_cell BK113.out 6).trans rfl; have hcz96_7 : w95.cell? ⟨gb113, 7, none⟩ = some (.slice A0_7 l0_7.length c0_7) := (blk_cell BK113.out 7).trans rfl; have hcz96_8 : w95.cell? ⟨gb113, 8, none⟩ = some (.slice A0_8 l0_8.length c0_8) := (blk_cell BK113.out 8).trans rfl; have hfz96_0 := blk_frozen BK113.out 0; have hfz96_1 := blk_frozen BK113.out 1; have hfz96_2 := blk_frozen BK113.out 2; have hfz96_3 := blk_frozen BK113.out 3; have hfz96_4 := blk_frozen BK113.out 4; have hfz96_5 := blk_frozen BK113.out 5; have hfz96_6 := blk_frozen BK113.out 6; have hfz96_7 := blk_frozen BK113.out 7; have hfz96_8 := blk_frozen BK113.out 8))
            repeat (go_quiet (first | (go_at_call 113; (with_reducible refine (letter_Rising.calls kj1 _ _ l0_7 true _ ?side1 ?side2 A82.out).mono ?_); (case side1 => repeat (first | exact (Kd.C_below HR0_7.out HB.out) | (with_reducible refine Kd.C_alloc ?_ _) | (with_reducible refine Kd.C_drewN ?_ _) | (with_reducible refine Kd.C_drew ?_))); (case side2 => exact HC0_7.out); rintro e w' ⟨rfl, ⟨nd, rfl⟩⟩; (try first | exact ⟨rfl, _, World.drewN_drewN _ _ _⟩ | exact ⟨rfl, _, Eq.trans (World.drewN_drewN _ _ _) (congrArg (World.drewN _) (Nat.add_assoc _ _ _))⟩)) | (go_at_call 114; (with_reducible refine (letter_writes.calls kj1 _ _ l0_8 true _ ?side1 ?side2 A83.out).mono ?_); (case side1 => repeat (first | exact (Kd.C_below HR0_8.out (by repeat (first | (with_reducible first | exact HB.out | apply below_alloc | apply pw_below_drewN | apply below_drew1 | refine below_set ?_ GE113.out) | exact HB.out))) | (with_reducible refine Kd.C_alloc ?_ _) | (with_reducible refine Kd.C_drewN ?_ _) | (with_reducible refine Kd.C_drew ?_))); (case side2 => exact HC0_8.out); rintro e w95 ⟨rfl, hb⟩; have n0_ := Aside0.mk (blk_below (g := gb113) (o := .cells #[.int .i64 a0_0, .int .i64 a0_1, .int .i64 a0_2, .int .i64 a0_3, .int .i64 a0_4, .int .i64 a0_5, .string a0_6, .slice A0_7 l0_7.length c0_7, .slice A0_8 l0_8.length c0_8] 138 (0, 0)) (by (with_reducible repeat (first | refine blk_drewN ?_ _ | refine blk_drew ?_ | refine blk_alloc ?_ _)); exact BK113.out) hb); have n1_ := Aside0.mk (below_step (by repeat (first | (with_reducible first | exact HB.out | apply below_alloc | apply pw_below_drewN | apply below_drew1 | refine below_set ?_ GE113.out) | exact HB.out)) hb); clear BK113; clear HB; have BK113 := n0_; have HB := n1_; clear n0_ n1_; (try clear hb); (try clear hb2); (try clear hk); (try clear hi); have hcz96_0 : w95.cell? ⟨gb113, 0, none⟩ = some (.int .i64 a0_0) := (blk_cell BK113.out 0).trans rfl; have hcz96_1 : w95.cell? ⟨gb113, 1, none⟩ = some (.int .i64 a0_1) := (blk_cell BK113.out 1).trans rfl; have hcz96_2 : w95.cell? ⟨gb113, 2, none⟩ = some (.int .i64 a0_2) := (blk_cell BK113.out 2).trans rfl; have hcz96_3 : w95.cell? ⟨gb113, 3, none⟩ = some (.int .i64 a0_3) := (blk_cell BK113.out 3).trans rfl; have hcz96_4 : w95.cell? ⟨gb113, 4, none⟩ = some (.int .i64 a0_4) := (blk_cell BK113.out 4).trans rfl; have hcz96_5 : w95.cell? ⟨gb113, 5, none⟩ = some (.int .i64 a0_5) := (blk_cell BK113.out 5).trans rfl; have hcz96_6 : w95.cell? ⟨gb113, 6, none⟩ = some (.string a0_6) := (blk_cell BK113.out 6).trans rfl; have hcz96_7 : w95.cell? ⟨gb113, 7, none⟩ = some (.slice A0_7 l0_7.length c0_7) := (blk_cell BK113.out 7).trans rfl; have hcz96_8 : w95.cell? ⟨gb113, 8, none⟩ = some (.slice A0_8 l0_8.length c0_8) := (blk_cell BK113.out 8).trans rfl; have hfz96_0 := blk_frozen BK113.out 0; have hfz96_1 := blk_frozen BK113.out 1; have hfz96_2 := blk_frozen BK113.out 2; have hfz96_3 := blk_frozen BK113.out 3; have hfz96_4 := blk_frozen BK113.out 4; have hfz96_5 := blk_frozen BK113.out 5; have hfz96_6 := blk_frozen BK113.out 6; have hfz96_7 := blk_frozen BK113.out 7; have hfz96_8 := blk_frozen BK113.out 8)); try go_wp2_with (first | (go_at_call 113; (with_reducible refine (letter_Rising.calls kj1 _ _ l0_7 true _ ?side1 ?side2 A82.out).mono ?_); (case side1 => repeat (first | exact (Kd.C_below HR0_7.out HB.out) | (with_reducible refine Kd.C_alloc ?_ _) | (with_reducible refine Kd.C_drewN ?_ _) | (with_reducible refine Kd.C_drew ?_))); (case side2 => exact HC0_7.out); rintro e w' ⟨rfl, ⟨nd, rfl⟩⟩; (try first | exact ⟨rfl, _, World.drewN_drewN _ _ _⟩ | exact ⟨rfl, _, Eq.trans (World.drewN_drewN _ _ _) (congrArg (World.drewN _) (Nat.add_assoc _ _ _))⟩)) | (go_at_call 114; (with_reducible refine (letter_writes.calls kj1 _ _ l0_8 true _ ?side1 ?side2 A83.out).mono ?_); (case side1 => repeat (first | exact (Kd.C_below HR0_8.out (by repeat (first | (with_reducible first | exact HB.out | apply below_alloc | apply pw_below_drewN | apply below_drew1 | refine below_set ?_ GE113.out) | exact HB.out))) | (with_reducible refine Kd.C_alloc ?_ _) | (with_reducible refine Kd.C_drewN ?_ _) | (with_reducible refine Kd.C_drew ?_))); (case side2 => exact HC0_8.out); rintro e w95 ⟨rfl, hb⟩; have n0_ := Aside0.mk (blk_below (g := gb113) (o := .cells #[.int .i64 a0_0, .int .i64 a0_1, .int .i64 a0_2, .int .i64 a0_3, .int .i64 a0_4, .int .i64 a0_5, .string a0_6, .slice A0_7 l0_7.length c0_7, .slice A0_8 l0_8.length c0_8] 138 (0, 0)) (by (with_reducible repeat (first | refine blk_drewN ?_ _ | refine blk_drew ?_ | refine blk_alloc ?_ _)); exact BK113.out) hb); have n1_ := Aside0.mk (below_step (by repeat (first | (with_reducible first | exact HB.out | apply below_alloc | apply pw_below_drewN | apply below_drew1 | refine below_set ?_ GE113.out) | exact HB.out)) hb); clear BK113; clear HB; have BK113 := n0_; have HB := n1_; clear n0_ n1_; (try clear hb); (try clear hb2); (try clear hk); (try clear hi); have hcz96_0 : w95.cell? ⟨gb113, 0, none⟩ = some (.int .i64 a0_0) := (blk_cell BK113.out 0).trans rfl; have hcz96_1 : w95.cell? ⟨gb113, 1, none⟩ = some (.int .i64 a0_1) := (blk_cell BK113.out 1).trans rfl; have hcz96_2 : w95.cell? ⟨gb113, 2, none⟩ = some (.int .i64 a0_2) := (blk_cell BK113.out 2).trans rfl; have hcz96_3 : w95.cell? ⟨gb113, 3, none⟩ = some (.int .i64 a0_3) := (blk_cell BK113.out 3).trans rfl; have hcz96_4 : w95.cell? ⟨gb113, 4, none⟩ = some (.int .i64 a0_4) := (blk_cell BK113.out 4).trans rfl; have hcz96_5 : w95.cell? ⟨gb113, 5, none⟩ = some (.int .i64 a0_5) := (blk_cell BK113.out 5).trans rfl; have hcz96_6 : w95.cell? ⟨gb113, 6, none⟩ = some (.string a0_6) := (blk_cell BK113.out 6).trans rfl; have hcz96_7 : w95.cell? ⟨gb113, 7, none⟩ = some (.slice A0_7 l0_7.length c0_7) := (blk_cell BK113.out 7).trans rfl; have hcz96_8 : w95.cell? ⟨gb113, 8, none⟩ = some (.slice A0_8 l0_8.length c0_8) := (blk_cell BK113.out 8).trans rfl; have hfz96_0 := blk_frozen BK113.out 0; have hfz96_1 := blk_frozen BK113.out 1; have hfz96_2 := blk_frozen BK113.out 2; have hfz96_3 := blk_frozen BK113.out 3; have hfz96_4 := blk_frozen BK113.out 4; have hfz96_5 := blk_frozen BK113.out 5; have hfz96_6 := blk_frozen BK113.out 6; have hfz96_7 := blk_frozen BK113.out 7; have hfz96_8 := blk_frozen BK113.out 8)))
            go_ret
            exact ⟨by first | rfl | (simp [errW_none, errW_some] <;> rfl) | (simp [*, errW_none, errW_some] <;> rfl), by repeat (first | (with_reducible first | exact HB.out | apply below_alloc | apply pw_below_drewN | apply below_drew1 | refine below_set ?_ GE113.out) | exact HB.out)⟩
          ·replace c89 := Bool.eq_false_iff.mpr c89
           subst c89
           have H1 : (some 70) = some r := by rw [if_neg (show ¬ (false = true) by decide)] at H; exact H
           clear H
           have H := H1
           clear H1
           obtain rfl := Option.some.inj H
           have hcz97_0 : wc.cell? ⟨gb113, 0, none⟩ = some (.int .i64 a0_0) := (blk_cell BK113.out 0).trans rfl
           have hcz97_1 : wc.cell? ⟨gb113, 1, none⟩ = some (.int .i64 a0_1) := (blk_cell BK113.out 1).trans rfl
           have hcz97_2 : wc.cell? ⟨gb113, 2, none⟩ = some (.int .i64 a0_2) := (blk_cell BK113.out 2).trans rfl
           have hcz97_3 : wc.cell? ⟨gb113, 3, none⟩ = some (.int .i64 a0_3) := (blk_cell BK113.out 3).trans rfl
           have hcz97_4 : wc.cell? ⟨gb113, 4, none⟩ = some (.int .i64 a0_4) := (blk_cell BK113.out 4).trans rfl
           have hcz97_5 : wc.cell? ⟨gb113, 5, none⟩ = some (.int .i64 a0_5) := (blk_cell BK113.out 5).trans rfl
           have hcz97_6 : wc.cell? ⟨gb113, 6, none⟩ = some (.string a0_6) := (blk_cell BK113.out 6).trans rfl
           have hcz97_7 : wc.cell? ⟨gb113, 7, none⟩ = some (.slice A0_7 l0_7.length c0_7) := (blk_cell BK113.out 7).trans rfl
           have hcz97_8 : wc.cell? ⟨gb113, 8, none⟩ = some (.slice A0_8 l0_8.length c0_8) := (blk_cell BK113.out 8).trans rfl
           have hfz97_0 := blk_frozen BK113.out 0
           have hfz97_1 := blk_frozen BK113.out 1
           have hfz97_2 := blk_frozen BK113.out 2
           have hfz97_3 := blk_frozen BK113.out 3
           have hfz97_4 := blk_frozen BK113.out 4
           have hfz97_5 := blk_frozen BK113.out 5
           have hfz97_6 := blk_frozen BK113.out 6
           have hfz97_7 := blk_frozen BK113.out 7
           have hfz97_8 := blk_frozen BK113.out 8
           go_wp2_with (first | (go_at_call 113; (with_reducible refine (letter_Rising.calls kj1 _ _ l0_7 true _ ?side1 ?side2 A82.out).mono ?_); (case side1 => repeat (first | exact (Kd.C_below HR0_7.out HB.out) | (with_reducible refine Kd.C_alloc ?_ _) | (with_reducible refine Kd.C_drewN ?_ _) | (with_reducible refine Kd.C_drew ?_))); (case side2 => exact HC0_7.out); rintro e w' ⟨rfl, ⟨nd, rfl⟩⟩; (try first | exact ⟨rfl, _, World.drewN_drewN _ _ _⟩ | exact ⟨rfl, _, Eq.trans (World.drewN_drewN _ _ _) (congrArg (World.drewN _) (Nat.add_assoc _ _ _))⟩)) | (go_at_call 114; (with_reducible refine (letter_writes.calls kj1 _ _ l0_8 false _ ?side1 ?side2 A83.out).mono ?_); (case side1 => repeat (first | exact (Kd.C_below HR0_8.out (by repeat (first | (with_reducible first | exact HB.out | apply below_alloc | apply pw_below_drewN | apply below_drew1 | refine below_set ?_ GE113.out) | exact HB.out))) | (with_reducible refine Kd.C_alloc ?_ _) | (with_reducible refine Kd.C_drewN ?_ _) | (with_reducible refine Kd.C_drew ?_))); (case side2 => exact HC0_8.out); rintro e w98 ⟨rfl, hb⟩; have n0_ := Aside0.mk (blk_below (g := gb113) (o := .cells #[.int .i64 a0_0, .int .i64 a0_1, .int .i64 a0_2, .int .i64 a0_3, .int .i64 a0_4, .int .i64 a0_5, .string a0_6, .slice A0_7 l0_7.length c0_7, .slice A0_8 l0_8.length c0_8] 138 (0, 0)) (by (with_reducible repeat (first | refine blk_drewN ?_ _ | refine blk_drew ?_ | refine blk_alloc ?_ _)); exact BK113.out) hb); have n1_ := Aside0.mk (below_step (by repeat (first | (with_reducible first | exact HB.out | apply below_alloc | apply pw_below_drewN | apply below_drew1 | refine below_set ?_ GE113.out) | exact HB.out)) hb); clear BK113; clear HB; have BK113 := n0_; have HB := n1_; clear n0_ n1_; (try clear hb); (try clear hb2); (try clear hk); (try clear hi); have hcz99_0 : w98.cell? ⟨gb113, 0, none⟩ = some (.int .i64 a0_0) := (blk_cell BK113.out 0).trans rfl; have hcz99_1 : w98.cell? ⟨gb113, 1, none⟩ = some (.int .i64 a0_1) := (blk_cell BK113.out 1).trans rfl; have hcz99_2 : w98.cell? ⟨gb113, 2, none⟩ = some (.int .i64 a0_2) := (blk_cell BK113.out 2).trans rfl; have hcz99_3 : w98.cell? ⟨gb113, 3, none⟩ = some (.int .i64 a0_3) := (blk_cell BK113.out 3).trans rfl; have hcz99_4 : w98.cell? ⟨gb113, 4, none⟩ = some (.int .i64 a0_4) := (blk_cell BK113.out 4).trans rfl; have hcz99_5 : w98.cell? ⟨gb113, 5, none⟩ = some (.int .i64 a0_5) := (blk_cell BK113.out 5).trans rfl; have hcz99_6 : w98.cell? ⟨gb113, 6, none⟩ = some (.string a0_6) := (blk_cell BK113.out 6).trans rfl; have hcz99_7 : w98.cell? ⟨gb113, 7, none⟩ = some (.slice A0_7 l0_7.length c0_7) := (blk_cell BK113.out 7).trans rfl; have hcz99_8 : w98.cell? ⟨gb113, 8, none⟩ = some (.slice A0_8 l0_8.length c0_8) := (blk_cell BK113.out 8).trans rfl; have hfz99_0 := blk_frozen BK113.out 0; have hfz99_1 := blk_frozen BK113.out 1; have hfz99_2 := blk_frozen BK113.out 2; have hfz99_3 := blk_frozen BK113.out 3; have hfz99_4 := blk_frozen BK113.out 4; have hfz99_5 := blk_frozen BK113.out 5; have hfz99_6 := blk_frozen BK113.out 6; have hfz99_7 := blk_frozen BK113.out 7; have hfz99_8 := blk_frozen BK113.out 8))
           repeat (go_quiet (first | (go_at_call 113; (with_reducible refine (letter_Rising.calls kj1 _ _ l0_7 true _ ?side1 ?side2 A82.out).mono ?_); (case side1 => repeat (first | exact (Kd.C_below HR0_7.out HB.out) | (with_reducible refine Kd.C_alloc ?_ _) | (with_reducible refine Kd.C_drewN ?_ _) | (with_reducible refine Kd.C_drew ?_))); (case side2 => exact HC0_7.out); rintro e w' ⟨rfl, ⟨nd, rfl⟩⟩; (try first | exact ⟨rfl, _, World.drewN_drewN _ _ _⟩ | exact ⟨rfl, _, Eq.trans (World.drewN_drewN _ _ _) (congrArg (World.drewN _) (Nat.add_assoc _ _ _))⟩)) | (go_at_call 114; (with_reducible refine (letter_writes.calls kj1 _ _ l0_8 false _ ?side1 ?side2 A83.out).mono ?_); (case side1 => repeat (first | exact (Kd.C_below HR0_8.out (by repeat (first | (with_reducible first | exact HB.out | apply below_alloc | apply pw_below_drewN | apply below_drew1 | refine below_set ?_ GE113.out) | exact HB.out))) | (with_reducible refine Kd.C_alloc ?_ _) | (with_reducible refine Kd.C_drewN ?_ _) | (with_reducible refine Kd.C_drew ?_))); (case side2 => exact HC0_8.out); rintro e w98 ⟨rfl, hb⟩; have n0_ := Aside0.mk (blk_below (g := gb113) (o := .cells #[.int .i64 a0_0, .int .i64 a0_1, .int .i64 a0_2, .int .i64 a0_3, .int .i64 a0_4, .int .i64 a0_5, .string a0_6, .slice A0_7 l0_7.length c0_7, .slice A0_8 l0_8.length c0_8] 138 (0, 0)) (by (with_reducible repeat (first | refine blk_drewN ?_ _ | refine blk_drew ?_ | refine blk_alloc ?_ _)); exact BK113.out) hb); have n1_ := Aside0.mk (below_step (by repeat (first | (with_reducible first | exact HB.out | apply below_alloc | apply pw_below_drewN | apply below_drew1 | refine below_set ?_ GE113.out) | exact HB.out)) hb); clear BK113; clear HB; have BK113 := n0_; have HB := n1_; clear n0_ n1_; (try clear hb); (try clear hb2); (try clear hk); (try clear hi); have hcz99_0 : w98.cell? ⟨gb113, 0, none⟩ = some (.int .i64 a0_0) := (blk_cell BK113.out 0).trans rfl; have hcz99_1 : w98.cell? ⟨gb113, 1, none⟩ = some (.int .i64 a0_1) := (blk_cell BK113.out 1).trans rfl; have hcz99_2 : w98.cell? ⟨gb113, 2, none⟩ = some (.int .i64 a0_2) := (blk_cell BK113.out 2).trans rfl; have hcz99_3 : w98.cell? ⟨gb113, 3, none⟩ = some (.int .i64 a0_3) := (blk_cell BK113.out 3).trans rfl; have hcz99_4 : w98.cell? ⟨gb113, 4, none⟩ = some (.int .i64 a0_4) := (blk_cell BK113.out 4).trans rfl; have hcz99_5 : w98.cell? ⟨gb113, 5, none⟩ = some (.int .i64 a0_5) := (blk_cell BK113.out 5).trans rfl; have hcz99_6 : w98.cell? ⟨gb113, 6, none⟩ = some (.string a0_6) := (blk_cell BK113.out 6).trans rfl; have hcz99_7 : w98.cell? ⟨gb113, 7, none⟩ = some (.slice A0_7 l0_7.length c0_7) := (blk_cell BK113.out 7).trans rfl; have hcz99_8 : w98.cell? ⟨gb113, 8, none⟩ = some (.slice A0_8 l0_8.length c0_8) := (blk_cell BK113.out 8).trans rfl; have hfz99_0 := blk_frozen BK113.out 0; have hfz99_1 := blk_frozen BK113.out 1; have hfz99_2 := blk_frozen BK113.out 2; have hfz99_3 := blk_frozen BK113.out 3; have hfz99_4 := blk_frozen BK113.out 4; have hfz99_5 := blk_frozen BK113.out 5; have hfz99_6 := blk_frozen BK113.out 6; have hfz99_7 := blk_frozen BK113.out 7; have hfz99_8 := blk_frozen BK113.out 8)); try go_wp2_with (first | (go_at_call 113; (with_reducible refine (letter_Rising.calls kj1 _ _ l0_7 true _ ?side1 ?side2 A82.out).mono ?_); (case side1 => repeat (first | exact (Kd.C_below HR0_7.out HB.out) | (with_reducible refine Kd.C_alloc ?_ _) | (with_reducible refine Kd.C_drewN ?_ _) | (with_reducible refine Kd.C_drew ?_))); (case side2 => exact HC0_7.out); rintro e w' ⟨rfl, ⟨nd, rfl⟩⟩; (try first | exact ⟨rfl, _, World.drewN_drewN _ _ _⟩ | exact ⟨rfl, _, Eq.trans (World.drewN_drewN _ _ _) (congrArg (World.drewN _) (Nat.add_assoc _ _ _))⟩)) | (go_at_call 114; (with_reducible refine (letter_writes.calls kj1 _ _ l0_8 false _ ?side1 ?side2 A83.out).mono ?_); (case side1 => repeat (first | exact (Kd.C_below HR0_8.out (by repeat (first | (with_reducible first | exact HB.out | apply below_alloc | apply pw_below_drewN | apply below_drew1 | refine below_set ?_ GE113.out) | exact HB.out))) | (with_reducible refine Kd.C_alloc ?_ _) | (with_reducible refine Kd.C_drewN ?_ _) | (with_reducible refine Kd.C_drew ?_))); (case side2 => exact HC0_8.out); rintro e w98 ⟨rfl, hb⟩; have n0_ := Aside0.mk (blk_below (g := gb113) (o := .cells #[.int .i64 a0_0, .int .i64 a0_1, .int .i64 a0_2, .int .i64 a0_3, .int .i64 a0_4, .int .i64 a0_5, .string a0_6, .slice A0_7 l0_7.length c0_7, .slice A0_8 l0_8.length c0_8] 138 (0, 0)) (by (with_reducible repeat (first | refine blk_drewN ?_ _ | refine blk_drew ?_ | refine blk_alloc ?_ _)); exact BK113.out) hb); have n1_ := Aside0.mk (below_step (by repeat (first | (with_reducible first | exact HB.out | apply below_alloc | apply pw_below_drewN | apply below_drew1 | refine below_set ?_ GE113.out) | exact HB.out)) hb); clear BK113; clear HB; have BK113 := n0_; have HB := n1_; clear n0_ n1_; (try clear hb); (try clear hb2); (try clear hk); (try clear hi); have hcz99_0 : w98.cell? ⟨gb113, 0, none⟩ = some (.int .i64 a0_0) := (blk_cell BK113.out 0).trans rfl; have hcz99_1 : w98.cell? ⟨gb113, 1, none⟩ = some (.int .i64 a0_1) := (blk_cell BK113.out 1).trans rfl; have hcz99_2 : w98.cell? ⟨gb113, 2, none⟩ = some (.int .i64 a0_2) := (blk_cell BK113.out 2).trans rfl; have hcz99_3 : w98.cell? ⟨gb113, 3, none⟩ = some (.int .i64 a0_3) := (blk_cell BK113.out 3).trans rfl; have hcz99_4 : w98.cell? ⟨gb113, 4, none⟩ = some (.int .i64 a0_4) := (blk_cell BK113.out 4).trans rfl; have hcz99_5 : w98.cell? ⟨gb113, 5, none⟩ = some (.int .i64 a0_5) := (blk_cell BK113.out 5).trans rfl; have hcz99_6 : w98.cell? ⟨gb113, 6, none⟩ = some (.string a0_6) := (blk_cell BK113.out 6).trans rfl; have hcz99_7 : w98.cell? ⟨gb113, 7, none⟩ = some (.slice A0_7 l0_7.length c0_7) := (blk_cell BK113.out 7).trans rfl; have hcz99_8 : w98.cell? ⟨gb113, 8, none⟩ = some (.slice A0_8 l0_8.length c0_8) := (blk_cell BK113.out 8).trans rfl; have hfz99_0 := blk_frozen BK113.out 0; have hfz99_1 := blk_frozen BK113.out 1; have hfz99_2 := blk_frozen BK113.out 2; have hfz99_3 := blk_frozen BK113.out 3; have hfz99_4 := blk_frozen BK113.out 4; have hfz99_5 := blk_frozen BK113.out 5; have hfz99_6 := blk_frozen BK113.out 6; have hfz99_7 := blk_frozen BK113.out 7; have hfz99_8 := blk_frozen BK113.out 8)))
           go_ret
           exact ⟨by first | rfl | (simp [errW_none, errW_some] <;> rfl) | (simp [*, errW_none, errW_some] <;> rfl), by repeat (first | (with_reducible first | exact HB.out | apply below_alloc | apply pw_below_drewN | apply below_drew1 | refine below_set ?_ GE113.out) | exact HB.out)⟩
         ·replace c88 := Bool.eq_false_iff.mpr c88
          subst c88
          have H1 : (some 70) = some r := by rw [if_neg (show ¬ (false = true) by decide)] at H; exact H
          clear H
          have H := H1
          clear H1
          obtain rfl := Option.some.inj H
          have hcz100_0 : wc.cell? ⟨gb113, 0, none⟩ = some (.int .i64 a0_0) := (blk_cell BK113.out 0).trans rfl
          have hcz100_1 : wc.cell? ⟨gb113, 1, none⟩ = some (.int .i64 a0_1) := (blk_cell BK113.out 1).trans rfl
          have hcz100_2 : wc.cell? ⟨gb113, 2, none⟩ = some (.int .i64 a0_2) := (blk_cell BK113.out 2).trans rfl
          have hcz100_3 : wc.cell? ⟨gb113, 3, none⟩ = some (.int .i64 a0_3) := (blk_cell BK113.out 3).trans rfl
          have hcz100_4 : wc.cell? ⟨gb113, 4, none⟩ = some (.int .i64 a0_4) := (blk_cell BK113.out 4).trans rfl
          have hcz100_5 : wc.cell? ⟨gb113, 5, none⟩ = some (.int .i64 a0_5) := (blk_cell BK113.out 5).trans rfl
          have hcz100_6 : wc.cell? ⟨gb113, 6, none⟩ = some (.string a0_6) := (blk_cell BK113.out 6).trans rfl
          have hcz100_7 : wc.cell? ⟨gb113, 7, none⟩ = some (.slice A0_7 l0_7.length c0_7) := (blk_cell BK113.out 7).trans rfl
          have hcz100_8 : wc.cell? ⟨gb113, 8, none⟩ = some (.slice A0_8 l0_8.length c0_8) := (blk_cell BK113.out 8).trans rfl
          have hfz100_0 := blk_frozen BK113.out 0
          have hfz100_1 := blk_frozen BK113.out 1
          have hfz100_2 := blk_frozen BK113.out 2
          have hfz100_3 := blk_frozen BK113.out 3
          have hfz100_4 := blk_frozen BK113.out 4
          have hfz100_5 := blk_frozen BK113.out 5
          have hfz100_6 := blk_frozen BK113.out 6
          have hfz100_7 := blk_frozen BK113.out 7
          have hfz100_8 := blk_frozen BK113.out 8
          go_wp2_with (first | (go_at_call 113; (with_reducible refine (letter_Rising.calls kj1 _ _ l0_7 false _ ?side1 ?side2 A82.out).mono ?_); (case side1 => repeat (first | exact (Kd.C_below HR0_7.out HB.out) | (with_reducible refine Kd.C_alloc ?_ _) | (with_reducible refine Kd.C_drewN ?_ _) | (with_reducible refine Kd.C_drew ?_))); (case side2 => exact HC0_7.out); rintro e w' ⟨rfl, ⟨nd, rfl⟩⟩; (try first | exact ⟨rfl, _, World.drewN_drewN _ _ _⟩ | exact ⟨rfl, _, Eq.trans (World.drewN_drewN _ _ _) (congrArg (World.drewN _) (Nat.add_assoc _ _ _))⟩)) | (go_at_call 114; (with_reducible refine (letter_writes.calls kj1 _ _ l0_8 t125 _ ?side1 ?side2 A83.out).mono ?_); (case side1 => repeat (first | exact (Kd.C_below HR0_8.out (by repeat (first | (with_reducible first | exact HB.out | apply below_alloc | apply pw_below_drewN | apply below_drew1 | refine below_set ?_ GE113.out) | exact HB.out))) | (with_reducible refine Kd.C_alloc ?_ _) | (with_reducible refine Kd.C_drewN ?_ _) | (with_reducible refine Kd.C_drew ?_))); (case side2 => exact HC0_8.out); rintro e w101 ⟨rfl, hb⟩; have n0_ := Aside0.mk (blk_below (g := gb113) (o := .cells #[.int .i64 a0_0, .int .i64 a0_1, .int .i64 a0_2, .int .i64 a0_3, .int .i64 a0_4, .int .i64 a0_5, .string a0_6, .slice A0_7 l0_7.length c0_7, .slice A0_8 l0_8.length c0_8] 138 (0, 0)) (by (with_reducible repeat (first | refine blk_drewN ?_ _ | refine blk_drew ?_ | refine blk_alloc ?_ _)); exact BK113.out) hb); have n1_ := Aside0.mk (below_step (by repeat (first | (with_reducible first | exact HB.out | apply below_alloc | apply pw_below_drewN | apply below_drew1 | refine below_set ?_ GE113.out) | exact HB.out)) hb); clear BK113; clear HB; have BK113 := n0_; have HB := n1_; clear n0_ n1_; (try clear hb); (try clear hb2); (try clear hk); (try clear hi); have hcz102_0 : w101.cell? ⟨gb113, 0, none⟩ = some (.int .i64 a0_0) := (blk_cell BK113.out 0).trans rfl; have hcz102_1 : w101.cell? ⟨gb113, 1, none⟩ = some (.int .i64 a0_1) := (blk_cell BK113.out 1).trans rfl; have hcz102_2 : w101.cell? ⟨gb113, 2, none⟩ = some (.int .i64 a0_2) := (blk_cell BK113.out 2).trans rfl; have hcz102_3 : w101.cell? ⟨gb113, 3, none⟩ = some (.int .i64 a0_3) := (blk_cell BK113.out 3).trans rfl; have hcz102_4 : w101.cell? ⟨gb113, 4, none⟩ = some (.int .i64 a0_4) := (blk_cell BK113.out 4).trans rfl; have hcz102_5 : w101.cell? ⟨gb113, 5, none⟩ = some (.int .i64 a0_5) := (blk_cell BK113.out 5).trans rfl; have hcz102_6 : w101.cell? ⟨gb113, 6, none⟩ = some (.string a0_6) := (blk_cell BK113.out 6).trans rfl; have hcz102_7 : w101.cell? ⟨gb113, 7, none⟩ = some (.slice A0_7 l0_7.length c0_7) := (blk_cell BK113.out 7).trans rfl; have hcz102_8 : w101.cell? ⟨gb113, 8, none⟩ = some (.slice A0_8 l0_8.length c0_8) := (blk_cell BK113.out 8).trans rfl; have hfz102_0 := blk_frozen BK113.out 0; have hfz102_1 := blk_frozen BK113.out 1; have hfz102_2 := blk_frozen BK113.out 2; have hfz102_3 := blk_frozen BK113.out 3; have hfz102_4 := blk_frozen BK113.out 4; have hfz102_5 := blk_frozen BK113.out 5; have hfz102_6 := blk_frozen BK113.out 6; have hfz102_7 := blk_frozen BK113.out 7; have hfz102_8 := blk_frozen BK113.out 8))
          repeat (go_quiet (first | (go_at_call 113; (with_reducible refine (letter_Rising.calls kj1 _ _ l0_7 false _ ?side1 ?side2 A82.out).mono ?_); (case side1 => repeat (first | exact (Kd.C_below HR0_7.out HB.out) | (with_reducible refine Kd.C_alloc ?_ _) | (with_reducible refine Kd.C_drewN ?_ _) | (with_reducible refine Kd.C_drew ?_))); (case side2 => exact HC0_7.out); rintro e w' ⟨rfl, ⟨nd, rfl⟩⟩; (try first | exact ⟨rfl, _, World.drewN_drewN _ _ _⟩ | exact ⟨rfl, _, Eq.trans (World.drewN_drewN _ _ _) (congrArg (World.drewN _) (Nat.add_assoc _ _ _))⟩)) | (go_at_call 114; (with_reducible refine (letter_writes.calls kj1 _ _ l0_8 t125 _ ?side1 ?side2 A83.out).mono ?_); (case side1 => repeat (first | exact (Kd.C_below HR0_8.out (by repeat (first | (with_reducible first | exact HB.out | apply below_alloc | apply pw_below_drewN | apply below_drew1 | refine below_set ?_ GE113.out) | exact HB.out))) | (with_reducible refine Kd.C_alloc ?_ _) | (with_reducible refine Kd.C_drewN ?_ _) | (with_reducible refine Kd.C_drew ?_))); (case side2 => exact HC0_8.out); rintro e w101 ⟨rfl, hb⟩; have n0_ := Aside0.mk (blk_below (g := gb113) (o := .cells #[.int .i64 a0_0, .int .i64 a0_1, .int .i64 a0_2, .int .i64 a0_3, .int .i64 a0_4, .int .i64 a0_5, .string a0_6, .slice A0_7 l0_7.length c0_7, .slice A0_8 l0_8.length c0_8] 138 (0, 0)) (by (with_reducible repeat (first | refine blk_drewN ?_ _ | refine blk_drew ?_ | refine blk_alloc ?_ _)); exact BK113.out) hb); have n1_ := Aside0.mk (below_step (by repeat (first | (with_reducible first | exact HB.out | apply below_alloc | apply pw_below_drewN | apply below_drew1 | refine below_set ?_ GE113.out) | exact HB.out)) hb); clear BK113; clear HB; have BK113 := n0_; have HB := n1_; clear n0_ n1_; (try clear hb); (try clear hb2); (try clear hk); (try clear hi); have hcz102_0 : w101.cell? ⟨gb113, 0, none⟩ = some (.int .i64 a0_0) := (blk_cell BK113.out 0).trans rfl; have hcz102_1 : w101.cell? ⟨gb113, 1, none⟩ = some (.int .i64 a0_1) := (blk_cell BK113.out 1).trans rfl; have hcz102_2 : w101.cell? ⟨gb113, 2, none⟩ = some (.int .i64 a0_2) := (blk_cell BK113.out 2).trans rfl; have hcz102_3 : w101.cell? ⟨gb113, 3, none⟩ = some (.int .i64 a0_3) := (blk_cell BK113.out 3).trans rfl; have hcz102_4 : w101.cell? ⟨gb113, 4, none⟩ = some (.int .i64 a0_4) := (blk_cell BK113.out 4).trans rfl; have hcz102_5 : w101.cell? ⟨gb113, 5, none⟩ = some (.int .i64 a0_5) := (blk_cell BK113.out 5).trans rfl; have hcz102_6 : w101.cell? ⟨gb113, 6, none⟩ = some (.string a0_6) := (blk_cell BK113.out 6).trans rfl; have hcz102_7 : w101.cell? ⟨gb113, 7, none⟩ = some (.slice A0_7 l0_7.length c0_7) := (blk_cell BK113.out 7).trans rfl; have hcz102_8 : w101.cell? ⟨gb113, 8, none⟩ = some (.slice A0_8 l0_8.length c0_8) := (blk_cell BK113.out 8).trans rfl; have hfz102_0 := blk_frozen BK113.out 0; have hfz102_1 := blk_frozen BK113.out 1; have hfz102_2 := blk_frozen BK113.out 2; have hfz102_3 := blk_frozen BK113.out 3; have hfz102_4 := blk_frozen BK113.out 4; have hfz102_5 := blk_frozen BK113.out 5; have hfz102_6 := blk_frozen BK113.out 6; have hfz102_7 := blk_frozen BK113.out 7; have hfz102_8 := blk_frozen BK113.out 8)); try go_wp2_with (first | (go_at_call 113; (with_reducible refine (letter_Rising.calls kj1 _ _ l0_7 false _ ?side1 ?side2 A82.out).mono ?_); (case side1 => repeat (first | exact (Kd.C_below HR0_7.out HB.out) | (with_reducible refine Kd.C_alloc ?_ _) | (with_reducible refine Kd.C_drewN ?_ _) | (with_reducible refine Kd.C_drew ?_))); (case side2 => exact HC0_7.out); rintro e w' ⟨rfl, ⟨nd, rfl⟩⟩; (try first | exact ⟨rfl, _, World.drewN_drewN _ _ _⟩ | exact ⟨rfl, _, Eq.trans (World.drewN_drewN _ _ _) (congrArg (World.drewN _) (Nat.add_assoc _ _ _))⟩)) | (go_at_call 114; (with_reducible refine (letter_writes.calls kj1 _ _ l0_8 t125 _ ?side1 ?side2 A83.out).mono ?_); (case side1 => repeat (first | exact (Kd.C_below HR0_8.out (by repeat (first | (with_reducible first | exact HB.out | apply below_alloc | apply pw_below_drewN | apply below_drew1 | refine below_set ?_ GE113.out) | exact HB.out))) | (with_reducible refine Kd.C_alloc ?_ _) | (with_reducible refine Kd.C_drewN ?_ _) | (with_reducible refine Kd.C_drew ?_))); (case side2 => exact HC0_8.out); rintro e w101 ⟨rfl, hb⟩; have n0_ := Aside0.mk (blk_below (g := gb113) (o := .cells #[.int .i64 a0_0, .int .i64 a0_1, .int .i64 a0_2, .int .i64 a0_3, .int .i64 a0_4, .int .i64 a0_5, .string a0_6, .slice A0_7 l0_7.length c0_7, .slice A0_8 l0_8.length c0_8] 138 (0, 0)) (by (with_reducible repeat (first | refine blk_drewN ?_ _ | refine blk_drew ?_ | refine blk_alloc ?_ _)); exact BK113.out) hb); have n1_ := Aside0.mk (below_step (by repeat (first | (with_reducible first | exact HB.out | apply below_alloc | apply pw_below_drewN | apply below_drew1 | refine below_set ?_ GE113.out) | exact HB.out)) hb); clear BK113; clear HB; have BK113 := n0_; have HB := n1_; clear n0_ n1_; (try clear hb); (try clear hb2); (try clear hk); (try clear hi); have hcz102_0 : w101.cell? ⟨gb113, 0, none⟩ = some (.int .i64 a0_0) := (blk_cell BK113.out 0).trans rfl; have hcz102_1 : w101.cell? ⟨gb113, 1, none⟩ = some (.int .i64 a0_1) := (blk_cell BK113.out 1).trans rfl; have hcz102_2 : w101.cell? ⟨gb113, 2, none⟩ = some (.int .i64 a0_2) := (blk_cell BK113.out 2).trans rfl; have hcz102_3 : w101.cell? ⟨gb113, 3, none⟩ = some (.int .i64 a0_3) := (blk_cell BK113.out 3).trans rfl; have hcz102_4 : w101.cell? ⟨gb113, 4, none⟩ = some (.int .i64 a0_4) := (blk_cell BK113.out 4).trans rfl; have hcz102_5 : w101.cell? ⟨gb113, 5, none⟩ = some (.int .i64 a0_5) := (blk_cell BK113.out 5).trans rfl; have hcz102_6 : w101.cell? ⟨gb113, 6, none⟩ = some (.string a0_6) := (blk_cell BK113.out 6).trans rfl; have hcz102_7 : w101.cell? ⟨gb113, 7, none⟩ = some (.slice A0_7 l0_7.length c0_7) := (blk_cell BK113.out 7).trans rfl; have hcz102_8 : w101.cell? ⟨gb113, 8, none⟩ = some (.slice A0_8 l0_8.length c0_8) := (blk_cell BK113.out 8).trans rfl; have hfz102_0 := blk_frozen BK113.out 0; have hfz102_1 := blk_frozen BK113.out 1; have hfz102_2 := blk_frozen BK113.out 2; have hfz102_3 := blk_frozen BK113.out 3; have hfz102_4 := blk_frozen BK113.out 4; have hfz102_5 := blk_frozen BK113.out 5; have hfz102_6 := blk_frozen BK113.out 6; have hfz102_7 := blk_frozen BK113.out 7; have hfz102_8 := blk_frozen BK113.out 8)))
          go_ret
          exact ⟨by first | rfl | (simp [errW_none, errW_some] <;> rfl) | (simp [*, errW_none, errW_some] <;> rfl), by repeat (first | (with_reducible first | exact HB.out | apply below_alloc | apply pw_below_drewN | apply below_drew1 | refine below_set ?_ GE113.out) | exact HB.out)⟩
       ·rw [if_neg c81] at H
        have c81b0 : decide ((l0_7.length : Int) ≤ 16) = false := decide_eq_false c81
        have c81b1 : decide (l0_7.length ≤ 16) = false := decide_eq_false (by omega)
        clear c81
        replace H := Option.bind_eq_some_iff.mp H
        obtain ⟨t126, A1030, H⟩ := H
        replace H : (if a0_5 > 0 then (some 70) else (some 70)) = some r := H
        have A103 := Aside0.mk A1030
        clear A1030
        by_cases c104 : a0_5 > 0
        ·rw [if_pos c104] at H
         have c104b0 : decide (0 < a0_5) = true := decide_eq_true c104
         clear c104
         obtain rfl := Option.some.inj H
         have hcz105_0 : wc.cell? ⟨gb113, 0, none⟩ = some (.int .i64 a0_0) := (blk_cell BK113.out 0).trans rfl
         have hcz105_1 : wc.cell? ⟨gb113, 1, none⟩ = some (.int .i64 a0_1) := (blk_cell BK113.out 1).trans rfl
         have hcz105_2 : wc.cell? ⟨gb113, 2, none⟩ = some (.int .i64 a0_2) := (blk_cell BK113.out 2).trans rfl
         have hcz105_3 : wc.cell? ⟨gb113, 3, none⟩ = some (.int .i64 a0_3) := (blk_cell BK113.out 3).trans rfl
         have hcz105_4 : wc.cell? ⟨gb113, 4, none⟩ = some (.int .i64 a0_4) := (blk_cell BK113.out 4).trans rfl
         have hcz105_5 : wc.cell? ⟨gb113, 5, none⟩ = some (.int .i64 a0_5) := (blk_cell BK113.out 5).trans rfl
         have hcz105_6 : wc.cell? ⟨gb113, 6, none⟩ = some (.string a0_6) := (blk_cell BK113.out 6).trans rfl
         have hcz105_7 : wc.cell? ⟨gb113, 7, none⟩ = some (.slice A0_7 l0_7.length c0_7) := (blk_cell BK113.out 7).trans rfl
         have hcz105_8 : wc.cell? ⟨gb113, 8, none⟩ = some (.slice A0_8 l0_8.length c0_8) := (blk_cell BK113.out 8).trans rfl
         have hfz105_0 := blk_frozen BK113.out 0
         have hfz105_1 := blk_frozen BK113.out 1
         have hfz105_2 := blk_frozen BK113.out 2
         have hfz105_3 := blk_frozen BK113.out 3
         have hfz105_4 := blk_frozen BK113.out 4
         have hfz105_5 := blk_frozen BK113.out 5
         have hfz105_6 := blk_frozen BK113.out 6
         have hfz105_7 := blk_frozen BK113.out 7
         have hfz105_8 := blk_frozen BK113.out 8
         go_wp2_with (first | (go_at_call 114; (with_reducible refine (letter_writes.calls kj1 _ _ l0_8 t126 _ ?side1 ?side2 A103.out).mono ?_); (case side1 => repeat (first | exact (Kd.C_below HR0_8.out HB.out) | (with_reducible refine Kd.C_alloc ?_ _) | (with_reducible refine Kd.C_drewN ?_ _) | (with_reducible refine Kd.C_drew ?_))); (case side2 => exact HC0_8.out); rintro e w106 ⟨rfl, hb⟩; have n0_ := Aside0.mk (blk_below (g := gb113) (o := .cells #[.int .i64 a0_0, .int .i64 a0_1, .int .i64 a0_2, .int .i64 a0_3, .int .i64 a0_4, .int .i64 a0_5, .string a0_6, .slice A0_7 l0_7.length c0_7, .slice A0_8 l0_8.length c0_8] 138 (0, 0)) (by (with_reducible repeat (first | refine blk_drewN ?_ _ | refine blk_drew ?_ | refine blk_alloc ?_ _)); exact BK113.out) hb); have n1_ := Aside0.mk (below_step (by repeat (first | (with_reducible first | exact HB.out | apply below_alloc | apply pw_below_drewN | apply below_drew1 | refine below_set ?_ GE113.out) | exact HB.out)) hb); clear BK113; clear HB; have BK113 := n0_; have HB := n1_; clear n0_ n1_; (try clear hb); (try clear hb2); (try clear hk); (try clear hi); have hcz107_0 : w106.cell? ⟨gb113, 0, none⟩ = some (.int .i64 a0_0) := (blk_cell BK113.out 0).trans rfl; have hcz107_1 : w106.cell? ⟨gb113, 1, none⟩ = some (.int .i64 a0_1) := (blk_cell BK113.out 1).trans rfl; have hcz107_2 : w106.cell? ⟨gb113, 2, none⟩ = some (.int .i64 a0_2) := (blk_cell BK113.out 2).trans rfl; have hcz107_3 : w106.cell? ⟨gb113, 3, none⟩ = some (.int .i64 a0_3) := (blk_cell BK113.out 3).trans rfl; have hcz107_4 : w106.cell? ⟨gb113, 4, none⟩ = some (.int .i64 a0_4) := (blk_cell BK113.out 4).trans rfl; have hcz107_5 : w106.cell? ⟨gb113, 5, none⟩ = some (.int .i64 a0_5) := (blk_cell BK113.out 5).trans rfl; have hcz107_6 : w106.cell? ⟨gb113, 6, none⟩ = some (.string a0_6) := (blk_cell BK113.out 6).trans rfl; have hcz107_7 : w106.cell? ⟨gb113, 7, none⟩ = some (.slice A0_7 l0_7.length c0_7) := (blk_cell BK113.out 7).trans rfl; have hcz107_8 : w106.cell? ⟨gb113, 8, none⟩ = some (.slice A0_8 l0_8.length c0_8) := (blk_cell BK113.out 8).trans rfl; have hfz107_0 := blk_frozen BK113.out 0; have hfz107_1 := blk_frozen BK113.out 1; have hfz107_2 := blk_frozen BK113.out 2; have hfz107_3 := blk_frozen BK113.out 3; have hfz107_4 := blk_frozen BK113.out 4; have hfz107_5 := blk_frozen BK113.out 5; have hfz107_6 := blk_frozen BK113.out 6; have hfz107_7 := blk_frozen BK113.out 7; have hfz107_8 := blk_frozen BK113.out 8))
         repeat (go_quiet (first | (go_at_call 114; (with_reducible refine (letter_writes.calls kj1 _ _ l0_8 t126 _ ?side1 ?side2 A103.out).mono ?_); (case side1 => repeat (first | exact (Kd.C_below HR0_8.out HB.out) | (with_reducible refine Kd.C_alloc ?_ _) | (with_reducible refine Kd.C_drewN ?_ _) | (with_reducible refine Kd.C_drew ?_))); (case side2 => exact HC0_8.out); rintro e w106 ⟨rfl, hb⟩; have n0_ := Aside0.mk (blk_below (g := gb113) (o := .cells #[.int .i64 a0_0, .int .i64 a0_1, .int .i64 a0_2, .int .i64 a0_3, .int .i64 a0_4, .int .i64 a0_5, .string a0_6, .slice A0_7 l0_7.length c0_7, .slice A0_8 l0_8.length c0_8] 138 (0, 0)) (by (with_reducible repeat (first | refine blk_drewN ?_ _ | refine blk_drew ?_ | refine blk_alloc ?_ _)); exact BK113.out) hb); have n1_ := Aside0.mk (below_step (by repeat (first | (with_reducible first | exact HB.out | apply below_alloc | apply pw_below_drewN | apply below_drew1 | refine below_set ?_ GE113.out) | exact HB.out)) hb); clear BK113; clear HB; have BK113 := n0_; have HB := n1_; clear n0_ n1_; (try clear hb); (try clear hb2); (try clear hk); (try clear hi); have hcz107_0 : w106.cell? ⟨gb113, 0, none⟩ = some (.int .i64 a0_0) := (blk_cell BK113.out 0).trans rfl; have hcz107_1 : w106.cell? ⟨gb113, 1, none⟩ = some (.int .i64 a0_1) := (blk_cell BK113.out 1).trans rfl; have hcz107_2 : w106.cell? ⟨gb113, 2, none⟩ = some (.int .i64 a0_2) := (blk_cell BK113.out 2).trans rfl; have hcz107_3 : w106.cell? ⟨gb113, 3, none⟩ = some (.int .i64 a0_3) := (blk_cell BK113.out 3).trans rfl; have hcz107_4 : w106.cell? ⟨gb113, 4, none⟩ = some (.int .i64 a0_4) := (blk_cell BK113.out 4).trans rfl; have hcz107_5 : w106.cell? ⟨gb113, 5, none⟩ = some (.int .i64 a0_5) := (blk_cell BK113.out 5).trans rfl; have hcz107_6 : w106.cell? ⟨gb113, 6, none⟩ = some (.string a0_6) := (blk_cell BK113.out 6).trans rfl; have hcz107_7 : w106.cell? ⟨gb113, 7, none⟩ = some (.slice A0_7 l0_7.length c0_7) := (blk_cell BK113.out 7).trans rfl; have hcz107_8 : w106.cell? ⟨gb113, 8, none⟩ = some (.slice A0_8 l0_8.length c0_8) := (blk_cell BK113.out 8).trans rfl; have hfz107_0 := blk_frozen BK113.out 0; have hfz107_1 := blk_frozen BK113.out 1; have hfz107_2 := blk_frozen BK113.out 2; have hfz107_3 := blk_frozen BK113.out 3; have hfz107_4 := blk_frozen BK113.out 4; have hfz107_5 := blk_frozen BK113.out 5; have hfz107_6 := blk_frozen BK113.out 6; have hfz107_7 := blk_frozen BK113.out 7; have hfz107_8 := blk_frozen BK113.out 8)); try go_wp2_with (first | (go_at_call 114; (with_reducible refine (letter_writes.calls kj1 _ _ l0_8 t126 _ ?side1 ?side2 A103.out).mono ?_); (case side1 => repeat (first | exact (Kd.C_below HR0_8.out HB.out) | (with_reducible refine Kd.C_alloc ?_ _) | (with_reducible refine Kd.C_drewN ?_ _) | (with_reducible refine Kd.C_drew ?_))); (case side2 => exact HC0_8.out); rintro e w106 ⟨rfl, hb⟩; have n0_ := Aside0.mk (blk_below (g := gb113) (o := .cells #[.int .i64 a0_0, .int .i64 a0_1, .int .i64 a0_2, .int .i64 a0_3, .int .i64 a0_4, .int .i64 a0_5, .string a0_6, .slice A0_7 l0_7.length c0_7, .slice A0_8 l0_8.length c0_8] 138 (0, 0)) (by (with_reducible repeat (first | refine blk_drewN ?_ _ | refine blk_drew ?_ | refine blk_alloc ?_ _)); exact BK113.out) hb); have n1_ := Aside0.mk (below_step (by repeat (first | (with_reducible first | exact HB.out | apply below_alloc | apply pw_below_drewN | apply below_drew1 | refine below_set ?_ GE113.out) | exact HB.out)) hb); clear BK113; clear HB; have BK113 := n0_; have HB := n1_; clear n0_ n1_; (try clear hb); (try clear hb2); (try clear hk); (try clear hi); have hcz107_0 : w106.cell? ⟨gb113, 0, none⟩ = some (.int .i64 a0_0) := (blk_cell BK113.out 0).trans rfl; have hcz107_1 : w106.cell? ⟨gb113, 1, none⟩ = some (.int .i64 a0_1) := (blk_cell BK113.out 1).trans rfl; have hcz107_2 : w106.cell? ⟨gb113, 2, none⟩ = some (.int .i64 a0_2) := (blk_cell BK113.out 2).trans rfl; have hcz107_3 : w106.cell? ⟨gb113, 3, none⟩ = some (.int .i64 a0_3) := (blk_cell BK113.out 3).trans rfl; have hcz107_4 : w106.cell? ⟨gb113, 4, none⟩ = some (.int .i64 a0_4) := (blk_cell BK113.out 4).trans rfl; have hcz107_5 : w106.cell? ⟨gb113, 5, none⟩ = some (.int .i64 a0_5) := (blk_cell BK113.out 5).trans rfl; have hcz107_6 : w106.cell? ⟨gb113, 6, none⟩ = some (.string a0_6) := (blk_cell BK113.out 6).trans rfl; have hcz107_7 : w106.cell? ⟨gb113, 7, none⟩ = some (.slice A0_7 l0_7.length c0_7) := (blk_cell BK113.out 7).trans rfl; have hcz107_8 : w106.cell? ⟨gb113, 8, none⟩ = some (.slice A0_8 l0_8.length c0_8) := (blk_cell BK113.out 8).trans rfl; have hfz107_0 := blk_frozen BK113.out 0; have hfz107_1 := blk_frozen BK113.out 1; have hfz107_2 := blk_frozen BK113.out 2; have hfz107_3 := blk_frozen BK113.out 3; have hfz107_4 := blk_frozen BK113.out 4; have hfz107_5 := blk_frozen BK113.out 5; have hfz107_6 := blk_frozen BK113.out 6; have hfz107_7 := blk_frozen BK113.out 7; have hfz107_8 := blk_frozen BK113.out 8)))
         go_ret
         exact ⟨by first | rfl | (simp [errW_none, errW_some] <;> rfl) | (simp [*, errW_none, errW_some] <;> rfl), by repeat (first | (with_reducible first | exact HB.out | apply below_alloc | apply pw_below_drewN | apply below_drew1 | refine below_set ?_ GE113.out) | exact HB.out)⟩
        ·rw [if_neg c104] at H
         have c104b0 : decide (0 < a0_5) = false := decide_eq_false c104
         clear c104
         obtain rfl := Option.some.inj H
         have hcz108_0 : wc.cell? ⟨gb113, 0, none⟩ = some (.int .i64 a0_0) := (blk_cell BK113.out 0).trans rfl
         have hcz108_1 : wc.cell? ⟨gb113, 1, none⟩ = some (.int .i64 a0_1) := (blk_cell BK113.out 1).trans rfl
         have hcz108_2 : wc.cell? ⟨gb113, 2, none⟩ = some (.int .i64 a0_2) := (blk_cell BK113.out 2).trans rfl
         have hcz108_3 : wc.cell? ⟨gb113, 3, none⟩ = some (.int .i64 a0_3) := (blk_cell BK113.out 3).trans rfl
         have hcz108_4 : wc.cell? ⟨gb113, 4, none⟩ = some (.int .i64 a0_4) := (blk_cell BK113.out 4).trans rfl
         have hcz108_5 : wc.cell? ⟨gb113, 5, none⟩ = some (.int .i64 a0_5) := (blk_cell BK113.out 5).trans rfl
         have hcz108_6 : wc.cell? ⟨gb113, 6, none⟩ = some (.string a0_6) := (blk_cell BK113.out 6).trans rfl
         have hcz108_7 : wc.cell? ⟨gb113, 7, none⟩ = some (.slice A0_7 l0_7.length c0_7) := (blk_cell BK113.out 7).trans rfl
         have hcz108_8 : wc.cell? ⟨gb113, 8, none⟩ = some (.slice A0_8 l0_8.length c0_8) := (blk_cell BK113.out 8).trans rfl
         have hfz108_0 := blk_frozen BK113.out 0
         have hfz108_1 := blk_frozen BK113.out 1
         have hfz108_2 := blk_frozen BK113.out 2
         have hfz108_3 := blk_frozen BK113.out 3
         have hfz108_4 := blk_frozen BK113.out 4
         have hfz108_5 := blk_frozen BK113.out 5
         have hfz108_6 := blk_frozen BK113.out 6
         have hfz108_7 := blk_frozen BK113.out 7
         have hfz108_8 := blk_frozen BK113.out 8
         go_wp2_with (first | (go_at_call 114; (with_reducible refine (letter_writes.calls kj1 _ _ l0_8 t126 _ ?side1 ?side2 A103.out).mono ?_); (case side1 => repeat (first | exact (Kd.C_below HR0_8.out HB.out) | (with_reducible refine Kd.C_alloc ?_ _) | (with_reducible refine Kd.C_drewN ?_ _) | (with_reducible refine Kd.C_drew ?_))); (case side2 => exact HC0_8.out); rintro e w109 ⟨rfl, hb⟩; have n0_ := Aside0.mk (blk_below (g := gb113) (o := .cells #[.int .i64 a0_0, .int .i64 a0_1, .int .i64 a0_2, .int .i64 a0_3, .int .i64 a0_4, .int .i64 a0_5, .string a0_6, .slice A0_7 l0_7.length c0_7, .slice A0_8 l0_8.length c0_8] 138 (0, 0)) (by (with_reducible repeat (first | refine blk_drewN ?_ _ | refine blk_drew ?_ | refine blk_alloc ?_ _)); exact BK113.out) hb); have n1_ := Aside0.mk (below_step (by repeat (first | (with_reducible first | exact HB.out | apply below_alloc | apply pw_below_drewN | apply below_drew1 | refine below_set ?_ GE113.out) | exact HB.out)) hb); clear BK113; clear HB; have BK113 := n0_; have HB := n1_; clear n0_ n1_; (try clear hb); (try clear hb2); (try clear hk); (try clear hi); have hcz110_0 : w109.cell? ⟨gb113, 0, none⟩ = some (.int .i64 a0_0) := (blk_cell BK113.out 0).trans rfl; have hcz110_1 : w109.cell? ⟨gb113, 1, none⟩ = some (.int .i64 a0_1) := (blk_cell BK113.out 1).trans rfl; have hcz110_2 : w109.cell? ⟨gb113, 2, none⟩ = some (.int .i64 a0_2) := (blk_cell BK113.out 2).trans rfl; have hcz110_3 : w109.cell? ⟨gb113, 3, none⟩ = some (.int .i64 a0_3) := (blk_cell BK113.out 3).trans rfl; have hcz110_4 : w109.cell? ⟨gb113, 4, none⟩ = some (.int .i64 a0_4) := (blk_cell BK113.out 4).trans rfl; have hcz110_5 : w109.cell? ⟨gb113, 5, none⟩ = some (.int .i64 a0_5) := (blk_cell BK113.out 5).trans rfl; have hcz110_6 : w109.cell? ⟨gb113, 6, none⟩ = some (.string a0_6) := (blk_cell BK113.out 6).trans rfl; have hcz110_7 : w109.cell? ⟨gb113, 7, none⟩ = some (.slice A0_7 l0_7.length c0_7) := (blk_cell BK113.out 7).trans rfl; have hcz110_8 : w109.cell? ⟨gb113, 8, none⟩ = some (.slice A0_8 l0_8.length c0_8) := (blk_cell BK113.out 8).trans rfl; have hfz110_0 := blk_frozen BK113.out 0; have hfz110_1 := blk_frozen BK113.out 1; have hfz110_2 := blk_frozen BK113.out 2; have hfz110_3 := blk_frozen BK113.out 3; have hfz110_4 := blk_frozen BK113.out 4; have hfz110_5 := blk_frozen BK113.out 5; have hfz110_6 := blk_frozen BK113.out 6; have hfz110_7 := blk_frozen BK113.out 7; have hfz110_8 := blk_frozen BK113.out 8))
         repeat (go_quiet (first | (go_at_call 114; (with_reducible refine (letter_writes.calls kj1 _ _ l0_8 t126 _ ?side1 ?side2 A103.out).mono ?_); (case side1 => repeat (first | exact (Kd.C_below HR0_8.out HB.out) | (with_reducible refine Kd.C_alloc ?_ _) | (with_reducible refine Kd.C_drewN ?_ _) | (with_reducible refine Kd.C_drew ?_))); (case side2 => exact HC0_8.out); rintro e w109 ⟨rfl, hb⟩; have n0_ := Aside0.mk (blk_below (g := gb113) (o := .cells #[.int .i64 a0_0, .int .i64 a0_1, .int .i64 a0_2, .int .i64 a0_3, .int .i64 a0_4, .int .i64 a0_5, .string a0_6, .slice A0_7 l0_7.length c0_7, .slice A0_8 l0_8.length c0_8] 138 (0, 0)) (by (with_reducible repeat (first | refine blk_drewN ?_ _ | refine blk_drew ?_ | refine blk_alloc ?_ _)); exact BK113.out) hb); have n1_ := Aside0.mk (below_step (by repeat (first | (with_reducible first | exact HB.out | apply below_alloc | apply pw_below_drewN | apply below_drew1 | refine below_set ?_ GE113.out) | exact HB.out)) hb); clear BK113; clear HB; have BK113 := n0_; have HB := n1_; clear n0_ n1_; (try clear hb); (try clear hb2); (try clear hk); (try clear hi); have hcz110_0 : w109.cell? ⟨gb113, 0, none⟩ = some (.int .i64 a0_0) := (blk_cell BK113.out 0).trans rfl; have hcz110_1 : w109.cell? ⟨gb113, 1, none⟩ = some (.int .i64 a0_1) := (blk_cell BK113.out 1).trans rfl; have hcz110_2 : w109.cell? ⟨gb113, 2, none⟩ = some (.int .i64 a0_2) := (blk_cell BK113.out 2).trans rfl; have hcz110_3 : w109.cell? ⟨gb113, 3, none⟩ = some (.int .i64 a0_3) := (blk_cell BK113.out 3).trans rfl; have hcz110_4 : w109.cell? ⟨gb113, 4, none⟩ = some (.int .i64 a0_4) := (blk_cell BK113.out 4).trans rfl; have hcz110_5 : w109.cell? ⟨gb113, 5, none⟩ = some (.int .i64 a0_5) := (blk_cell BK113.out 5).trans rfl; have hcz110_6 : w109.cell? ⟨gb113, 6, none⟩ = some (.string a0_6) := (blk_cell BK113.out 6).trans rfl; have hcz110_7 : w109.cell? ⟨gb113, 7, none⟩ = some (.slice A0_7 l0_7.length c0_7) := (blk_cell BK113.out 7).trans rfl; have hcz110_8 : w109.cell? ⟨gb113, 8, none⟩ = some (.slice A0_8 l0_8.length c0_8) := (blk_cell BK113.out 8).trans rfl; have hfz110_0 := blk_frozen BK113.out 0; have hfz110_1 := blk_frozen BK113.out 1; have hfz110_2 := blk_frozen BK113.out 2; have hfz110_3 := blk_frozen BK113.out 3; have hfz110_4 := blk_frozen BK113.out 4; have hfz110_5 := blk_frozen BK113.out 5; have hfz110_6 := blk_frozen BK113.out 6; have hfz110_7 := blk_frozen BK113.out 7; have hfz110_8 := blk_frozen BK113.out 8)); try go_wp2_with (first | (go_at_call 114; (with_reducible refine (letter_writes.calls kj1 _ _ l0_8 t126 _ ?side1 ?side2 A103.out).mono ?_); (case side1 => repeat (first | exact (Kd.C_below HR0_8.out HB.out) | (with_reducible refine Kd.C_alloc ?_ _) | (with_reducible refine Kd.C_drewN ?_ _) | (with_reducible refine Kd.C_drew ?_))); (case side2 => exact HC0_8.out); rintro e w109 ⟨rfl, hb⟩; have n0_ := Aside0.mk (blk_below (g := gb113) (o := .cells #[.int .i64 a0_0, .int .i64 a0_1, .int .i64 a0_2, .int .i64 a0_3, .int .i64 a0_4, .int .i64 a0_5, .string a0_6, .slice A0_7 l0_7.length c0_7, .slice A0_8 l0_8.length c0_8] 138 (0, 0)) (by (with_reducible repeat (first | refine blk_drewN ?_ _ | refine blk_drew ?_ | refine blk_alloc ?_ _)); exact BK113.out) hb); have n1_ := Aside0.mk (below_step (by repeat (first | (with_reducible first | exact HB.out | apply below_alloc | apply pw_below_drewN | apply below_drew1 | refine below_set ?_ GE113.out) | exact HB.out)) hb); clear BK113; clear HB; have BK113 := n0_; have HB := n1_; clear n0_ n1_; (try clear hb); (try clear hb2); (try clear hk); (try clear hi); have hcz110_0 : w109.cell? ⟨gb113, 0, none⟩ = some (.int .i64 a0_0) := (blk_cell BK113.out 0).trans rfl; have hcz110_1 : w109.cell? ⟨gb113, 1, none⟩ = some (.int .i64 a0_1) := (blk_cell BK113.out 1).trans rfl; have hcz110_2 : w109.cell? ⟨gb113, 2, none⟩ = some (.int .i64 a0_2) := (blk_cell BK113.out 2).trans rfl; have hcz110_3 : w109.cell? ⟨gb113, 3, none⟩ = some (.int .i64 a0_3) := (blk_cell BK113.out 3).trans rfl; have hcz110_4 : w109.cell? ⟨gb113, 4, none⟩ = some (.int .i64 a0_4) := (blk_cell BK113.out 4).trans rfl; have hcz110_5 : w109.cell? ⟨gb113, 5, none⟩ = some (.int .i64 a0_5) := (blk_cell BK113.out 5).trans rfl; have hcz110_6 : w109.cell? ⟨gb113, 6, none⟩ = some (.string a0_6) := (blk_cell BK113.out 6).trans rfl; have hcz110_7 : w109.cell? ⟨gb113, 7, none⟩ = some (.slice A0_7 l0_7.length c0_7) := (blk_cell BK113.out 7).trans rfl; have hcz110_8 : w109.cell? ⟨gb113, 8, none⟩ = some (.slice A0_8 l0_8.length c0_8) := (blk_cell BK113.out 8).trans rfl; have hfz110_0 := blk_frozen BK113.out 0; have hfz110_1 := blk_frozen BK113.out 1; have hfz110_2 := blk_frozen BK113.out 2; have hfz110_3 := blk_frozen BK113.out 3; have hfz110_4 := blk_frozen BK113.out 4; have hfz110_5 := blk_frozen BK113.out 5; have hfz110_6 := blk_frozen BK113.out 6; have hfz110_7 := blk_frozen BK113.out 7; have hfz110_8 := blk_frozen BK113.out 8)))
         go_ret
         exact ⟨by first | rfl | (simp [errW_none, errW_some] <;> rfl) | (simp [*, errW_none, errW_some] <;> rfl), by repeat (first | (with_reducible first | exact HB.out | apply below_alloc | apply pw_below_drewN | apply below_drew1 | refine below_set ?_ GE113.out) | exact HB.out)⟩
      ·rw [if_neg c80] at H
       have c80b0 : (a0_0 == 3) = false := beq_eq_false_iff_ne.mpr c80
       have c80b1 : (a0_0 != 3) = true := bne_iff_ne.mpr c80
       by_cases c111 : a0_0 = 8
       ·rw [if_pos c111] at H
        have c111b0 : (a0_0 == 8) = true := beq_iff_eq.mpr c111
        have c111b1 : (a0_0 != 8) = false := bne_eq_false_iff_eq.mpr c111
        clear c111
        by_cases c112 : a0_5 > 2
        ·rw [if_pos c112] at H
         have c112b0 : decide (2 < a0_5) = true := decide_eq_true c112
         clear c112
         obtain rfl := Option.some.inj H
         have hcz113_0 : wc.cell? ⟨gb113, 0, none⟩ = some (.int .i64 a0_0) := (blk_cell BK113.out 0).trans rfl
         have hcz113_1 : wc.cell? ⟨gb113, 1, none⟩ = some (.int .i64 a0_1) := (blk_cell BK113.out 1).trans rfl
         have hcz113_2 : wc.cell? ⟨gb113, 2, none⟩ = some (.int .i64 a0_2) := (blk_cell BK113.out 2).trans rfl
         have hcz113_3 : wc.cell? ⟨gb113, 3, none⟩ = some (.int .i64 a0_3) := (blk_cell BK113.out 3).trans rfl
         have hcz113_4 : wc.cell? ⟨gb113, 4, none⟩ = some (.int .i64 a0_4) := (blk_cell BK113.out 4).trans rfl
         have hcz113_5 : wc.cell? ⟨gb113, 5, none⟩ = some (.int .i64 a0_5) := (blk_cell BK113.out 5).trans rfl
         have hcz113_6 : wc.cell? ⟨gb113, 6, none⟩ = some (.string a0_6) := (blk_cell BK113.out 6).trans rfl
         have hcz113_7 : wc.cell? ⟨gb113, 7, none⟩ = some (.slice A0_7 l0_7.length c0_7) := (blk_cell BK113.out 7).trans rfl
         have hcz113_8 : wc.cell? ⟨gb113, 8, none⟩ = some (.slice A0_8 l0_8.length c0_8) := (blk_cell BK113.out 8).trans rfl
         have hfz113_0 := blk_frozen BK113.out 0
         have hfz113_1 := blk_frozen BK113.out 1
         have hfz113_2 := blk_frozen BK113.out 2
         have hfz113_3 := blk_frozen BK113.out 3
         have hfz113_4 := blk_frozen BK113.out 4
         have hfz113_5 := blk_frozen BK113.out 5
         have hfz113_6 := blk_frozen BK113.out 6
         have hfz113_7 := blk_frozen BK113.out 7
         have hfz113_8 := blk_frozen BK113.out 8
         go_wp2
         repeat (go_quiet (fail); try go_wp2)
         go_ret
         exact ⟨by first | rfl | (simp [errW_none, errW_some] <;> rfl) | (simp [*, errW_none, errW_some] <;> rfl), by repeat (first | (with_reducible first | exact HB.out | apply below_alloc | apply pw_below_drewN | apply below_drew1 | refine below_set ?_ GE113.out) | exact HB.out)⟩
        ·rw [if_neg c112] at H
         have c112b0 : decide (2 < a0_5) = false := decide_eq_false c112
         clear c112
         by_cases c114 : (l0_7.length : Int) = 0
         ·rw [if_pos c114] at H
          have c114b0 : ((l0_7.length : Int) == 0) = true := beq_iff_eq.mpr c114
          have c114b1 : ((l0_7.length : Int) != 0) = false := bne_eq_false_iff_eq.mpr c114
          clear c114
          by_cases c115 : (l0_8.length : Int) = 0
          ·rw [if_pos c115] at H
           have c115b0 : ((l0_8.length : Int) == 0) = true := beq_iff_eq.mpr c115
           have c115b1 : ((l0_8.length : Int) != 0) = false := bne_eq_false_iff_eq.mpr c115
           clear c115
           by_cases c116 : a0_6.toList = ([] : List UInt8)
           ·rw [if_pos c116] at H
            have c116b0 : (a0_6.toList == ([] : List UInt8)) = true := beq_iff_eq.mpr c116
            have c116b1 : (a0_6.toList != ([] : List UInt8)) = false := bne_eq_false_iff_eq.mpr c116
            clear c116
            obtain rfl := Option.some.inj H
            have hcz117_0 : wc.cell? ⟨gb113, 0, none⟩ = some (.int .i64 a0_0) := (blk_cell BK113.out 0).trans rfl
            have hcz117_1 : wc.cell? ⟨gb113, 1, none⟩ = some (.int .i64 a0_1) := (blk_cell BK113.out 1).trans rfl
            have hcz117_2 : wc.cell? ⟨gb113, 2, none⟩ = some (.int .i64 a0_2) := (blk_cell BK113.out 2).trans rfl
            have hcz117_3 : wc.cell? ⟨gb113, 3, none⟩ = some (.int .i64 a0_3) := (blk_cell BK113.out 3).trans rfl
            have hcz117_4 : wc.cell? ⟨gb113, 4, none⟩ = some (.int .i64 a0_4) := (blk_cell BK113.out 4).trans rfl
            have hcz117_5 : wc.cell? ⟨gb113, 5, none⟩ = some (.int .i64 a0_5) := (blk_cell BK113.out 5).trans rfl
            have hcz117_6 : wc.cell? ⟨gb113, 6, none⟩ = some (.string a0_6) := (blk_cell BK113.out 6).trans rfl
            have hcz117_7 : wc.cell? ⟨gb113, 7, none⟩ = some (.slice A0_7 l0_7.length c0_7) := (blk_cell BK113.out 7).trans rfl
            have hcz117_8 : wc.cell? ⟨gb113, 8, none⟩ = some (.slice A0_8 l0_8.length c0_8) := (blk_cell BK113.out 8).trans rfl
            have hfz117_0 := blk_frozen BK113.out 0
            have hfz117_1 := blk_frozen BK113.out 1
            have hfz117_2 := blk_frozen BK113.out 2
            have hfz117_3 := blk_frozen BK113.out 3
            have hfz117_4 := blk_frozen BK113.out 4
            have hfz117_5 := blk_frozen BK113.out 5
            have hfz117_6 := blk_frozen BK113.out 6
            have hfz117_7 := blk_frozen BK113.out 7
            have hfz117_8 := blk_frozen BK113.out 8
            go_wp2
            repeat (go_quiet (fail); try go_wp2)
            go_ret
            exact ⟨by first | rfl | (simp [errW_none, errW_some] <;> rfl) | (simp [*, errW_none, errW_some] <;> rfl), by repeat (first | (with_reducible first | exact HB.out | apply below_alloc | apply pw_below_drewN | apply below_drew1 | refine below_set ?_ GE113.out) | exact HB.out)⟩
           ·rw [if_neg c116] at H
            have c116b0 : (a0_6.toList == ([] : List UInt8)) = false := beq_eq_false_iff_ne.mpr c116
            have c116b1 : (a0_6.toList != ([] : List UInt8)) = true := bne_iff_ne.mpr c116
            obtain rfl := Option.some.inj H
            have hcz118_0 : wc.cell? ⟨gb113, 0, none⟩ = some (.int .i64 a0_0) := (blk_cell BK113.out 0).trans rfl
            have hcz118_1 : wc.cell? ⟨gb113, 1, none⟩ = some (.int .i64 a0_1) := (blk_cell BK113.out 1).trans rfl
            have hcz118_2 : wc.cell? ⟨gb113, 2, none⟩ = some (.int .i64 a0_2) := (blk_cell BK113.out 2).trans rfl
            have hcz118_3 : wc.cell? ⟨gb113, 3, none⟩ = some (.int .i64 a0_3) := (blk_cell BK113.out 3).trans rfl
            have hcz118_4 : wc.cell? ⟨gb113, 4, none⟩ = some (.int .i64 a0_4) := (blk_cell BK113.out 4).trans rfl
            have hcz118_5 : wc.cell? ⟨gb113, 5, none⟩ = some (.int .i64 a0_5) := (blk_cell BK113.out 5).trans rfl
            have hcz118_6 : wc.cell? ⟨gb113, 6, none⟩ = some (.string a0_6) := (blk_cell BK113.out 6).trans rfl
            have hcz118_7 : wc.cell? ⟨gb113, 7, none⟩ = some (.slice A0_7 l0_7.length c0_7) := (blk_cell BK113.out 7).trans rfl
            have hcz118_8 : wc.cell? ⟨gb113, 8, none⟩ = some (.slice A0_8 l0_8.length c0_8) := (blk_cell BK113.out 8).trans rfl
            have hfz118_0 := blk_frozen BK113.out 0
            have hfz118_1 := blk_frozen BK113.out 1
            have hfz118_2 := blk_frozen BK113.out 2
            have hfz118_3 := blk_frozen BK113.out 3
            have hfz118_4 := blk_frozen BK113.out 4
            have hfz118_5 := blk_frozen BK113.out 5
            have hfz118_6 := blk_frozen BK113.out 6
            have hfz118_7 := blk_frozen BK113.out 7
            have hfz118_8 := blk_frozen BK113.out 8
            go_wp2
            repeat (go_quiet (fail); try go_wp2)
            go_ret
            exact ⟨by first | rfl | (simp [errW_none, errW_some] <;> rfl) | (simp [*, errW_none, errW_some] <;> rfl), by repeat (first | (with_reducible first | exact HB.out | apply below_alloc | apply pw_below_drewN | apply below_drew1 | refine below_set ?_ GE113.out) | exact HB.out)⟩
          ·rw [if_neg c115] at H
           have c115b0 : ((l0_8.length : Int) == 0) = false := beq_eq_false_iff_ne.mpr c115
           have c115b1 : ((l0_8.length : Int) != 0) = true := bne_iff_ne.mpr c115
           have c115b2 : ¬ (l0_8 = []) := fun h_ => c115 (by rw [h_]; rfl)
           obtain rfl := Option.some.inj H
           have hcz119_0 : wc.cell? ⟨gb113, 0, none⟩ = some (.int .i64 a0_0) := (blk_cell BK113.out 0).trans rfl
           have hcz119_1 : wc.cell? ⟨gb113, 1, none⟩ = some (.int .i64 a0_1) := (blk_cell BK113.out 1).trans rfl
           have hcz119_2 : wc.cell? ⟨gb113, 2, none⟩ = some (.int .i64 a0_2) := (blk_cell BK113.out 2).trans rfl
           have hcz119_3 : wc.cell? ⟨gb113, 3, none⟩ = some (.int .i64 a0_3) := (blk_cell BK113.out 3).trans rfl
           have hcz119_4 : wc.cell? ⟨gb113, 4, none⟩ = some (.int .i64 a0_4) := (blk_cell BK113.out 4).trans rfl
           have hcz119_5 : wc.cell? ⟨gb113, 5, none⟩ = some (.int .i64 a0_5) := (blk_cell BK113.out 5).trans rfl
           have hcz119_6 : wc.cell? ⟨gb113, 6, none⟩ = some (.string a0_6) := (blk_cell BK113.out 6).trans rfl
           have hcz119_7 : wc.cell? ⟨gb113, 7, none⟩ = some (.slice A0_7 l0_7.length c0_7) := (blk_cell BK113.out 7).trans rfl
           have hcz119_8 : wc.cell? ⟨gb113, 8, none⟩ = some (.slice A0_8 l0_8.length c0_8) := (blk_cell BK113.out 8).trans rfl
           have hfz119_0 := blk_frozen BK113.out 0
           have hfz119_1 := blk_frozen BK113.out 1
           have hfz119_2 := blk_frozen BK113.out 2
           have hfz119_3 := blk_frozen BK113.out 3
           have hfz119_4 := blk_frozen BK113.out 4
           have hfz119_5 := blk_frozen BK113.out 5
           have hfz119_6 := blk_frozen BK113.out 6
           have hfz119_7 := blk_frozen BK113.out 7
           have hfz119_8 := blk_frozen BK113.out 8
           go_wp2
           repeat (go_quiet (fail); try go_wp2)
           go_ret
           exact ⟨by first | rfl | (simp [errW_none, errW_some] <;> rfl) | (simp [*, errW_none, errW_some] <;> rfl), by repeat (first | (with_reducible first | exact HB.out | apply below_alloc | apply pw_below_drewN | apply below_drew1 | refine below_set ?_ GE113.out) | exact HB.out)⟩
         ·rw [if_neg c114] at H
          have c114b0 : ((l0_7.length : Int) == 0) = false := beq_eq_false_iff_ne.mpr c114
          have c114b1 : ((l0_7.length : Int) != 0) = true := bne_iff_ne.mpr c114
          have c114b2 : ¬ (l0_7 = []) := fun h_ => c114 (by rw [h_]; rfl)
          obtain rfl := Option.some.inj H
          have hcz120_0 : wc.cell? ⟨gb113, 0, none⟩ = some (.int .i64 a0_0) := (blk_cell BK113.out 0).trans rfl
          have hcz120_1 : wc.cell? ⟨gb113, 1, none⟩ = some (.int .i64 a0_1) := (blk_cell BK113.out 1).trans rfl
          have hcz120_2 : wc.cell? ⟨gb113, 2, none⟩ = some (.int .i64 a0_2) := (blk_cell BK113.out 2).trans rfl
          have hcz120_3 : wc.cell? ⟨gb113, 3, none⟩ = some (.int .i64 a0_3) := (blk_cell BK113.out 3).trans rfl
          have hcz120_4 : wc.cell? ⟨gb113, 4, none⟩ = some (.int .i64 a0_4) := (blk_cell BK113.out 4).trans rfl
          have hcz120_5 : wc.cell? ⟨gb113, 5, none⟩ = some (.int .i64 a0_5) := (blk_cell BK113.out 5).trans rfl
          have hcz120_6 : wc.cell? ⟨gb113, 6, none⟩ = some (.string a0_6) := (blk_cell BK113.out 6).trans rfl
          have hcz120_7 : wc.cell? ⟨gb113, 7, none⟩ = some (.slice A0_7 l0_7.length c0_7) := (blk_cell BK113.out 7).trans rfl
          have hcz120_8 : wc.cell? ⟨gb113, 8, none⟩ = some (.slice A0_8 l0_8.length c0_8) := (blk_cell BK113.out 8).trans rfl
          have hfz120_0 := blk_frozen BK113.out 0
          have hfz120_1 := blk_frozen BK113.out 1
          have hfz120_2 := blk_frozen BK113.out 2
          have hfz120_3 := blk_frozen BK113.out 3
          have hfz120_4 := blk_frozen BK113.out 4
          have hfz120_5 := blk_frozen BK113.out 5
          have hfz120_6 := blk_frozen BK113.out 6
          have hfz120_7 := blk_frozen BK113.out 7
          have hfz120_8 := blk_frozen BK113.out 8
          go_wp2
          repeat (go_quiet (fail); try go_wp2)
          go_ret
          exact ⟨by first | rfl | (simp [errW_none, errW_some] <;> rfl) | (simp [*, errW_none, errW_some] <;> rfl), by repeat (first | (with_reducible first | exact HB.out | apply below_alloc | apply pw_below_drewN | apply below_drew1 | refine below_set ?_ GE113.out) | exact HB.out)⟩
       ·rw [if_neg c111] at H
        have c111b0 : (a0_0 == 8) = false := beq_eq_false_iff_ne.mpr c111
        have c111b1 : (a0_0 != 8) = true := bne_iff_ne.mpr c111
        by_cases c121 : a0_0 = 4
        ·rw [if_pos c121] at H
         have c121b0 : (a0_0 == 4) = true := beq_iff_eq.mpr c121
         have c121b1 : (a0_0 != 4) = false := bne_eq_false_iff_eq.mpr c121
         clear c121
         by_cases c122 : a0_5 > 1
         ·rw [if_pos c122] at H
          have c122b0 : decide (1 < a0_5) = true := decide_eq_true c122
          clear c122
          obtain rfl := Option.some.inj H
          have hcz123_0 : wc.cell? ⟨gb113, 0, none⟩ = some (.int .i64 a0_0) := (blk_cell BK113.out 0).trans rfl
          have hcz123_1 : wc.cell? ⟨gb113, 1, none⟩ = some (.int .i64 a0_1) := (blk_cell BK113.out 1).trans rfl
          have hcz123_2 : wc.cell? ⟨gb113, 2, none⟩ = some (.int .i64 a0_2) := (blk_cell BK113.out 2).trans rfl
          have hcz123_3 : wc.cell? ⟨gb113, 3, none⟩ = some (.int .i64 a0_3) := (blk_cell BK113.out 3).trans rfl
          have hcz123_4 : wc.cell? ⟨gb113, 4, none⟩ = some (.int .i64 a0_4) := (blk_cell BK113.out 4).trans rfl
          have hcz123_5 : wc.cell? ⟨gb113, 5, none⟩ = some (.int .i64 a0_5) := (blk_cell BK113.out 5).trans rfl
          have hcz123_6 : wc.cell? ⟨gb113, 6, none⟩ = some (.string a0_6) := (blk_cell BK113.out 6).trans rfl
          have hcz123_7 : wc.cell? ⟨gb113, 7, none⟩ = some (.slice A0_7 l0_7.length c0_7) := (blk_cell BK113.out 7).trans rfl
          have hcz123_8 : wc.cell? ⟨gb113, 8, none⟩ = some (.slice A0_8 l0_8.length c0_8) := (blk_cell BK113.out 8).trans rfl
          have hfz123_0 := blk_frozen BK113.out 0
          have hfz123_1 := blk_frozen BK113.out 1
          have hfz123_2 := blk_frozen BK113.out 2
          have hfz123_3 := blk_frozen BK113.out 3
          have hfz123_4 := blk_frozen BK113.out 4
          have hfz123_5 := blk_frozen BK113.out 5
          have hfz123_6 := blk_frozen BK113.out 6
          have hfz123_7 := blk_frozen BK113.out 7
          have hfz123_8 := blk_frozen BK113.out 8
          go_wp2
          repeat (go_quiet (fail); try go_wp2)
          go_ret
          exact ⟨by first | rfl | (simp [errW_none, errW_some] <;> rfl) | (simp [*, errW_none, errW_some] <;> rfl), by repeat (first | (with_reducible first | exact HB.out | apply below_alloc | apply pw_below_drewN | apply below_drew1 | refine below_set ?_ GE113.out) | exact HB.out)⟩
         ·rw [if_neg c122] at H
          have c122b0 : decide (1 < a0_5) = false := decide_eq_false c122
          clear c122
          by_cases c124 : (l0_7.length : Int) = 0
          ·rw [if_pos c124] at H
           have c124b0 : ((l0_7.length : Int) == 0) = true := beq_iff_eq.mpr c124
           have c124b1 : ((l0_7.length : Int) != 0) = false := bne_eq_false_iff_eq.mpr c124
           clear c124
           by_cases c125 : (l0_8.length : Int) = 0
           ·rw [if_pos c125] at H
            have c125b0 : ((l0_8.length : Int) == 0) = true := beq_iff_eq.mpr c125
            have c125b1 : ((l0_8.length : Int) != 0) = false := bne_eq_false_iff_eq.mpr c125
            clear c125
            by_cases c126 : a0_6.toList = ([] : List UInt8)
            ·rw [if_pos c126] at H
             have c126b0 : (a0_6.toList == ([] : List UInt8)) = true := beq_iff_eq.mpr c126
             have c126b1 : (a0_6.toList != ([] : List UInt8)) = false := bne_eq_false_iff_eq.mpr c126
             clear c126
             obtain rfl := Option.some.inj H
             have hcz127_0 : wc.cell? ⟨gb113, 0, none⟩ = some (.int .i64 a0_0) := (blk_cell BK113.out 0).trans rfl
             have hcz127_1 : wc.cell? ⟨gb113, 1, none⟩ = some (.int .i64 a0_1) := (blk_cell BK113.out 1).trans rfl
             have hcz127_2 : wc.cell? ⟨gb113, 2, none⟩ = some (.int .i64 a0_2) := (blk_cell BK113.out 2).trans rfl
             have hcz127_3 : wc.cell? ⟨gb113, 3, none⟩ = some (.int .i64 a0_3) := (blk_cell BK113.out 3).trans rfl
             have hcz127_4 : wc.cell? ⟨gb113, 4, none⟩ = some (.int .i64 a0_4) := (blk_cell BK113.out 4).trans rfl
             have hcz127_5 : wc.cell? ⟨gb113, 5, none⟩ = some (.int .i64 a0_5) := (blk_cell BK113.out 5).trans rfl
             have hcz127_6 : wc.cell? ⟨gb113, 6, none⟩ = some (.string a0_6) := (blk_cell BK113.out 6).trans rfl
             have hcz127_7 : wc.cell? ⟨gb113, 7, none⟩ = some (.slice A0_7 l0_7.length c0_7) := (blk_cell BK113.out 7).trans rfl
             have hcz127_8 : wc.cell? ⟨gb113, 8, none⟩ = some (.slice A0_8 l0_8.length c0_8) := (blk_cell BK113.out 8).trans rfl
             have hfz127_0 := blk_frozen BK113.out 0
             have hfz127_1 := blk_frozen BK113.out 1
             have hfz127_2 := blk_frozen BK113.out 2
             have hfz127_3 := blk_frozen BK113.out 3
             have hfz127_4 := blk_frozen BK113.out 4
             have hfz127_5 := blk_frozen BK113.out 5
             have hfz127_6 := blk_frozen BK113.out 6
             have hfz127_7 := blk_frozen BK113.out 7
             have hfz127_8 := blk_frozen BK113.out 8
             go_wp2
             repeat (go_quiet (fail); try go_wp2)
             go_ret
             exact ⟨by first | rfl | (simp [errW_none, errW_some] <;> rfl) | (simp [*, errW_none, errW_some] <;> rfl), by repeat (first | (with_reducible first | exact HB.out | apply below_alloc | apply pw_below_drewN | apply below_drew1 | refine below_set ?_ GE113.out) | exact HB.out)⟩
            ·rw [if_neg c126] at H
             have c126b0 : (a0_6.toList == ([] : List UInt8)) = false := beq_eq_false_iff_ne.mpr c126
             have c126b1 : (a0_6.toList != ([] : List UInt8)) = true := bne_iff_ne.mpr c126
             obtain rfl := Option.some.inj H
             have hcz128_0 : wc.cell? ⟨gb113, 0, none⟩ = some (.int .i64 a0_0) := (blk_cell BK113.out 0).trans rfl
             have hcz128_1 : wc.cell? ⟨gb113, 1, none⟩ = some (.int .i64 a0_1) := (blk_cell BK113.out 1).trans rfl
             have hcz128_2 : wc.cell? ⟨gb113, 2, none⟩ = some (.int .i64 a0_2) := (blk_cell BK113.out 2).trans rfl
             have hcz128_3 : wc.cell? ⟨gb113, 3, none⟩ = some (.int .i64 a0_3) := (blk_cell BK113.out 3).trans rfl
             have hcz128_4 : wc.cell? ⟨gb113, 4, none⟩ = some (.int .i64 a0_4) := (blk_cell BK113.out 4).trans rfl
             have hcz128_5 : wc.cell? ⟨gb113, 5, none⟩ = some (.int .i64 a0_5) := (blk_cell BK113.out 5).trans rfl
             have hcz128_6 : wc.cell? ⟨gb113, 6, none⟩ = some (.string a0_6) := (blk_cell BK113.out 6).trans rfl
             have hcz128_7 : wc.cell? ⟨gb113, 7, none⟩ = some (.slice A0_7 l0_7.length c0_7) := (blk_cell BK113.out 7).trans rfl
             have hcz128_8 : wc.cell? ⟨gb113, 8, none⟩ = some (.slice A0_8 l0_8.length c0_8) := (blk_cell BK113.out 8).trans rfl
             have hfz128_0 := blk_frozen BK113.out 0
             have hfz128_1 := blk_frozen BK113.out 1
             have hfz128_2 := blk_frozen BK113.out 2
             have hfz128_3 := blk_frozen BK113.out 3
             have hfz128_4 := blk_frozen BK113.out 4
             have hfz128_5 := blk_frozen BK113.out 5
             have hfz128_6 := blk_frozen BK113.out 6
             have hfz128_7 := blk_frozen BK113.out 7
             have hfz128_8 := blk_frozen BK113.out 8
             go_wp2
             repeat (go_quiet (fail); try go_wp2)
             go_ret
             exact ⟨by first | rfl | (simp [errW_none, errW_some] <;> rfl) | (simp [*, errW_none, errW_some] <;> rfl), by repeat (first | (with_reducible first | exact HB.out | apply below_alloc | apply pw_below_drewN | apply below_drew1 | refine below_set ?_ GE113.out) | exact HB.out)⟩
           ·rw [if_neg c125] at H
            have c125b0 : ((l0_8.length : Int) == 0) = false := beq_eq_false_iff_ne.mpr c125
            have c125b1 : ((l0_8.length : Int) != 0) = true := bne_iff_ne.mpr c125
            have c125b2 : ¬ (l0_8 = []) := fun h_ => c125 (by rw [h_]; rfl)
            obtain rfl := Option.some.inj H
            have hcz129_0 : wc.cell? ⟨gb113, 0, none⟩ = some (.int .i64 a0_0) := (blk_cell BK113.out 0).trans rfl
            have hcz129_1 : wc.cell? ⟨gb113, 1, none⟩ = some (.int .i64 a0_1) := (blk_cell BK113.out 1).trans rfl
            have hcz129_2 : wc.cell? ⟨gb113, 2, none⟩ = some (.int .i64 a0_2) := (blk_cell BK113.out 2).trans rfl
            have hcz129_3 : wc.cell? ⟨gb113, 3, none⟩ = some (.int .i64 a0_3) := (blk_cell BK113.out 3).trans rfl
            have hcz129_4 : wc.cell? ⟨gb113, 4, none⟩ = some (.int .i64 a0_4) := (blk_cell BK113.out 4).trans rfl
            have hcz129_5 : wc.cell? ⟨gb113, 5, none⟩ = some (.int .i64 a0_5) := (blk_cell BK113.out 5).trans rfl
            have hcz129_6 : wc.cell? ⟨gb113, 6, none⟩ = some (.string a0_6) := (blk_cell BK113.out 6).trans rfl
            have hcz129_7 : wc.cell? ⟨gb113, 7, none⟩ = some (.slice A0_7 l0_7.length c0_7) := (blk_cell BK113.out 7).trans rfl
            have hcz129_8 : wc.cell? ⟨gb113, 8, none⟩ = some (.slice A0_8 l0_8.length c0_8) := (blk_cell BK113.out 8).trans rfl
            have hfz129_0 := blk_frozen BK113.out 0
            have hfz129_1 := blk_frozen BK113.out 1
            have hfz129_2 := blk_frozen BK113.out 2
            have hfz129_3 := blk_frozen BK113.out 3
            have hfz129_4 := blk_frozen BK113.out 4
            have hfz129_5 := blk_frozen BK113.out 5
            have hfz129_6 := blk_frozen BK113.out 6
            have hfz129_7 := blk_frozen BK113.out 7
            have hfz129_8 := blk_frozen BK113.out 8
            go_wp2
            repeat (go_quiet (fail); try go_wp2)
            go_ret
            exact ⟨by first | rfl | (simp [errW_none, errW_some] <;> rfl) | (simp [*, errW_none, errW_some] <;> rfl), by repeat (first | (with_reducible first | exact HB.out | apply below_alloc | apply pw_below_drewN | apply below_drew1 | refine below_set ?_ GE113.out) | exact HB.out)⟩
          ·rw [if_neg c124] at H
           have c124b0 : ((l0_7.length : Int) == 0) = false := beq_eq_false_iff_ne.mpr c124
           have c124b1 : ((l0_7.length : Int) != 0) = true := bne_iff_ne.mpr c124
           have c124b2 : ¬ (l0_7 = []) := fun h_ => c124 (by rw [h_]; rfl)
           obtain rfl := Option.some.inj H
           have hcz130_0 : wc.cell? ⟨gb113, 0, none⟩ = some (.int .i64 a0_0) := (blk_cell BK113.out 0).trans rfl
           have hcz130_1 : wc.cell? ⟨gb113, 1, none⟩ = some (.int .i64 a0_1) := (blk_cell BK113.out 1).trans rfl
           have hcz130_2 : wc.cell? ⟨gb113, 2, none⟩ = some (.int .i64 a0_2) := (blk_cell BK113.out 2).trans rfl
           have hcz130_3 : wc.cell? ⟨gb113, 3, none⟩ = some (.int .i64 a0_3) := (blk_cell BK113.out 3).trans rfl
           have hcz130_4 : wc.cell? ⟨gb113, 4, none⟩ = some (.int .i64 a0_4) := (blk_cell BK113.out 4).trans rfl
           have hcz130_5 : wc.cell? ⟨gb113, 5, none⟩ = some (.int .i64 a0_5) := (blk_cell BK113.out 5).trans rfl
           have hcz130_6 : wc.cell? ⟨gb113, 6, none⟩ = some (.string a0_6) := (blk_cell BK113.out 6).trans rfl
           have hcz130_7 : wc.cell? ⟨gb113, 7, none⟩ = some (.slice A0_7 l0_7.length c0_7) := (blk_cell BK113.out 7).trans rfl
           have hcz130_8 : wc.cell? ⟨gb113, 8, none⟩ = some (.slice A0_8 l0_8.length c0_8) := (blk_cell BK113.out 8).trans rfl
           have hfz130_0 := blk_frozen BK113.out 0
           have hfz130_1 := blk_frozen BK113.out 1
           have hfz130_2 := blk_frozen BK113.out 2
           have hfz130_3 := blk_frozen BK113.out 3
           have hfz130_4 := blk_frozen BK113.out 4
           have hfz130_5 := blk_frozen BK113.out 5
           have hfz130_6 := blk_frozen BK113.out 6
           have hfz130_7 := blk_frozen BK113.out 7
           have hfz130_8 := blk_frozen BK113.out 8
           go_wp2
           repeat (go_quiet (fail); try go_wp2)
           go_ret
           exact ⟨by first | rfl | (simp [errW_none, errW_some] <;> rfl) | (simp [*, errW_none, errW_some] <;> rfl), by repeat (first | (with_reducible first | exact HB.out | apply below_alloc | apply pw_below_drewN | apply below_drew1 | refine below_set ?_ GE113.out) | exact HB.out)⟩
        ·rw [if_neg c121] at H
         have c121b0 : (a0_0 == 4) = false := beq_eq_false_iff_ne.mpr c121
         have c121b1 : (a0_0 != 4) = true := bne_iff_ne.mpr c121
         by_cases c131 : a0_0 = 5
         ·rw [if_pos c131] at H
          have c131b0 : (a0_0 == 5) = true := beq_iff_eq.mpr c131
          have c131b1 : (a0_0 != 5) = false := bne_eq_false_iff_eq.mpr c131
          clear c131
          by_cases c132 : a0_5 > 0
          ·rw [if_pos c132] at H
           have c132b0 : decide (0 < a0_5) = true := decide_eq_true c132
           clear c132
           obtain rfl := Option.some.inj H
           have hcz133_0 : wc.cell? ⟨gb113, 0, none⟩ = some (.int .i64 a0_0) := (blk_cell BK113.out 0).trans rfl
           have hcz133_1 : wc.cell? ⟨gb113, 1, none⟩ = some (.int .i64 a0_1) := (blk_cell BK113.out 1).trans rfl
           have hcz133_2 : wc.cell? ⟨gb113, 2, none⟩ = some (.int .i64 a0_2) := (blk_cell BK113.out 2).trans rfl
           have hcz133_3 : wc.cell? ⟨gb113, 3, none⟩ = some (.int .i64 a0_3) := (blk_cell BK113.out 3).trans rfl
           have hcz133_4 : wc.cell? ⟨gb113, 4, none⟩ = some (.int .i64 a0_4) := (blk_cell BK113.out 4).trans rfl
           have hcz133_5 : wc.cell? ⟨gb113, 5, none⟩ = some (.int .i64 a0_5) := (blk_cell BK113.out 5).trans rfl
           have hcz133_6 : wc.cell? ⟨gb113, 6, none⟩ = some (.string a0_6) := (blk_cell BK113.out 6).trans rfl
           have hcz133_7 : wc.cell? ⟨gb113, 7, none⟩ = some (.slice A0_7 l0_7.length c0_7) := (blk_cell BK113.out 7).trans rfl
           have hcz133_8 : wc.cell? ⟨gb113, 8, none⟩ = some (.slice A0_8 l0_8.length c0_8) := (blk_cell BK113.out 8).trans rfl
           have hfz133_0 := blk_frozen BK113.out 0
           have hfz133_1 := blk_frozen BK113.out 1
           have hfz133_2 := blk_frozen BK113.out 2
           have hfz133_3 := blk_frozen BK113.out 3
           have hfz133_4 := blk_frozen BK113.out 4
           have hfz133_5 := blk_frozen BK113.out 5
           have hfz133_6 := blk_frozen BK113.out 6
           have hfz133_7 := blk_frozen BK113.out 7
           have hfz133_8 := blk_frozen BK113.out 8
           go_wp2
           repeat (go_quiet (fail); try go_wp2)
           go_ret
           exact ⟨by first | rfl | (simp [errW_none, errW_some] <;> rfl) | (simp [*, errW_none, errW_some] <;> rfl), by repeat (first | (with_reducible first | exact HB.out | apply below_alloc | apply pw_below_drewN | apply below_drew1 | refine below_set ?_ GE113.out) | exact HB.out)⟩
          ·rw [if_neg c132] at H
           have c132b0 : decide (0 < a0_5) = false := decide_eq_false c132
           clear c132
           by_cases c134 : (l0_7.length : Int) = 0
           ·rw [if_pos c134] at H
            have c134b0 : ((l0_7.length : Int) == 0) = true := beq_iff_eq.mpr c134
            have c134b1 : ((l0_7.length : Int) != 0) = false := bne_eq_false_iff_eq.mpr c134
            clear c134
            by_cases c135 : (l0_8.length : Int) = 0
            ·rw [if_pos c135] at H
             have c135b0 : ((l0_8.length : Int) == 0) = true := beq_iff_eq.mpr c135
             have c135b1 : ((l0_8.length : Int) != 0) = false := bne_eq_false_iff_eq.mpr c135
             clear c135
             by_cases c136 : a0_6.toList = ([] : List UInt8)
             ·rw [if_pos c136] at H
              have c136b0 : (a0_6.toList == ([] : List UInt8)) = true := beq_iff_eq.mpr c136
              have c136b1 : (a0_6.toList != ([] : List UInt8)) = false := bne_eq_false_iff_eq.mpr c136
              clear c136
              obtain rfl := Option.some.inj H
              have hcz137_0 : wc.cell? ⟨gb113, 0, none⟩ = some (.int .i64 a0_0) := (blk_cell BK113.out 0).trans rfl
              have hcz137_1 : wc.cell? ⟨gb113, 1, none⟩ = some (.int .i64 a0_1) := (blk_cell BK113.out 1).trans rfl
              have hcz137_2 : wc.cell? ⟨gb113, 2, none⟩ = some (.int .i64 a0_2) := (blk_cell BK113.out 2).trans rfl
              have hcz137_3 : wc.cell? ⟨gb113, 3, none⟩ = some (.int .i64 a0_3) := (blk_cell BK113.out 3).trans rfl
              have hcz137_4 : wc.cell? ⟨gb113, 4, none⟩ = some (.int .i64 a0_4) := (blk_cell BK113.out 4).trans rfl
              have hcz137_5 : wc.cell? ⟨gb113, 5, none⟩ = some (.int .i64 a0_5) := (blk_cell BK113.out 5).trans rfl
              have hcz137_6 : wc.cell? ⟨gb113, 6, none⟩ = some (.string a0_6) := (blk_cell BK113.out 6).trans rfl
              have hcz137_7 : wc.cell? ⟨gb113, 7, none⟩ = some (.slice A0_7 l0_7.length c0_7) := (blk_cell BK113.out 7).trans rfl
              have hcz137_8 : wc.cell? ⟨gb113, 8, none⟩ = some (.slice A0_8 l0_8.length c0_8) := (blk_cell BK113.out 8).trans rfl
              have hfz137_0 := blk_frozen BK113.out 0
              have hfz137_1 := blk_frozen BK113.out 1
              have hfz137_2 := blk_frozen BK113.out 2
              have hfz137_3 := blk_frozen BK113.out 3
              have hfz137_4 := blk_frozen BK113.out 4
              have hfz137_5 := blk_frozen BK113.out 5
              have hfz137_6 := blk_frozen BK113.out 6
              have hfz137_7 := blk_frozen BK113.out 7
              have hfz137_8 := blk_frozen BK113.out 8
              go_wp2
              repeat (go_quiet (fail); try go_wp2)
              go_ret
              exact ⟨by first | rfl | (simp [errW_none, errW_some] <;> rfl) | (simp [*, errW_none, errW_some] <;> rfl), by repeat (first | (with_reducible first | exact HB.out | apply below_alloc | apply pw_below_drewN | apply below_drew1 | refine below_set ?_ GE113.out) | exact HB.out)⟩
             ·rw [if_neg c136] at H
              have c136b0 : (a0_6.toList == ([] : List UInt8)) = false := beq_eq_false_iff_ne.mpr c136
              have c136b1 : (a0_6.toList != ([] : List UInt8)) = true := bne_iff_ne.mpr c136
              obtain rfl := Option.some.inj H
              have hcz138_0 : wc.cell? ⟨gb113, 0, none⟩ = some (.int .i64 a0_0) := (blk_cell BK113.out 0).trans rfl
              have hcz138_1 : wc.cell? ⟨gb113, 1, none⟩ = some (.int .i64 a0_1) := (blk_cell BK113.out 1).trans rfl
              have hcz138_2 : wc.cell? ⟨gb113, 2, none⟩ = some (.int .i64 a0_2) := (blk_cell BK113.out 2).trans rfl
              have hcz138_3 : wc.cell? ⟨gb113, 3, none⟩ = some (.int .i64 a0_3) := (blk_cell BK113.out 3).trans rfl
              have hcz138_4 : wc.cell? ⟨gb113, 4, none⟩ = some (.int .i64 a0_4) := (blk_cell BK113.out 4).trans rfl
              have hcz138_5 : wc.cell? ⟨gb113, 5, none⟩ = some (.int .i64 a0_5) := (blk_cell BK113.out 5).trans rfl
              have hcz138_6 : wc.cell? ⟨gb113, 6, none⟩ = some (.string a0_6) := (blk_cell BK113.out 6).trans rfl
              have hcz138_7 : wc.cell? ⟨gb113, 7, none⟩ = some (.slice A0_7 l0_7.length c0_7) := (blk_cell BK113.out 7).trans rfl
              have hcz138_8 : wc.cell? ⟨gb113, 8, none⟩ = some (.slice A0_8 l0_8.length c0_8) := (blk_cell BK113.out 8).trans rfl
              have hfz138_0 := blk_frozen BK113.out 0
              have hfz138_1 := blk_frozen BK113.out 1
              have hfz138_2 := blk_frozen BK113.out 2
              have hfz138_3 := blk_frozen BK113.out 3
              have hfz138_4 := blk_frozen BK113.out 4
              have hfz138_5 := blk_frozen BK113.out 5
              have hfz138_6 := blk_frozen BK113.out 6
              have hfz138_7 := blk_frozen BK113.out 7
              have hfz138_8 := blk_frozen BK113.out 8
              go_wp2
              repeat (go_quiet (fail); try go_wp2)
              go_ret
              exact ⟨by first | rfl | (simp [errW_none, errW_some] <;> rfl) | (simp [*, errW_none, errW_some] <;> rfl), by repeat (first | (with_reducible first | exact HB.out | apply below_alloc | apply pw_below_drewN | apply below_drew1 | refine below_set ?_ GE113.out) | exact HB.out)⟩
            ·rw [if_neg c135] at H
             have c135b0 : ((l0_8.length : Int) == 0) = false := beq_eq_false_iff_ne.mpr c135
             have c135b1 : ((l0_8.length : Int) != 0) = true := bne_iff_ne.mpr c135
             have c135b2 : ¬ (l0_8 = []) := fun h_ => c135 (by rw [h_]; rfl)
             obtain rfl := Option.some.inj H
             have hcz139_0 : wc.cell? ⟨gb113, 0, none⟩ = some (.int .i64 a0_0) := (blk_cell BK113.out 0).trans rfl
             have hcz139_1 : wc.cell? ⟨gb113, 1, none⟩ = some (.int .i64 a0_1) := (blk_cell BK113.out 1).trans rfl
             have hcz139_2 : wc.cell? ⟨gb113, 2, none⟩ = some (.int .i64 a0_2) := (blk_cell BK113.out 2).trans rfl
             have hcz139_3 : wc.cell? ⟨gb113, 3, none⟩ = some (.int .i64 a0_3) := (blk_cell BK113.out 3).trans rfl
             have hcz139_4 : wc.cell? ⟨gb113, 4, none⟩ = some (.int .i64 a0_4) := (blk_cell BK113.out 4).trans rfl
             have hcz139_5 : wc.cell? ⟨gb113, 5, none⟩ = some (.int .i64 a0_5) := (blk_cell BK113.out 5).trans rfl
             have hcz139_6 : wc.cell? ⟨gb113, 6, none⟩ = some (.string a0_6) := (blk_cell BK113.out 6).trans rfl
             have hcz139_7 : wc.cell? ⟨gb113, 7, none⟩ = some (.slice A0_7 l0_7.length c0_7) := (blk_cell BK113.out 7).trans rfl
             have hcz139_8 : wc.cell? ⟨gb113, 8, none⟩ = some (.slice A0_8 l0_8.length c0_8) := (blk_cell BK113.out 8).trans rfl
             have hfz139_0 := blk_frozen BK113.out 0
             have hfz139_1 := blk_frozen BK113.out 1
             have hfz139_2 := blk_frozen BK113.out 2
             have hfz139_3 := blk_frozen BK113.out 3
             have hfz139_4 := blk_frozen BK113.out 4
             have hfz139_5 := blk_frozen BK113.out 5
             have hfz139_6 := blk_frozen BK113.out 6
             have hfz139_7 := blk_frozen BK113.out 7
             have hfz139_8 := blk_frozen BK113.out 8
             go_wp2
             repeat (go_quiet (fail); try go_wp2)
             go_ret
             exact ⟨by first | rfl | (simp [errW_none, errW_some] <;> rfl) | (simp [*, errW_none, errW_some] <;> rfl), by repeat (first | (with_reducible first | exact HB.out | apply below_alloc | apply pw_below_drewN | apply below_drew1 | refine below_set ?_ GE113.out) | exact HB.out)⟩
           ·rw [if_neg c134] at H
            have c134b0 : ((l0_7.length : Int) == 0) = false := beq_eq_false_iff_ne.mpr c134
            have c134b1 : ((l0_7.length : Int) != 0) = true := bne_iff_ne.mpr c134
            have c134b2 : ¬ (l0_7 = []) := fun h_ => c134 (by rw [h_]; rfl)
            obtain rfl := Option.some.inj H
            have hcz140_0 : wc.cell? ⟨gb113, 0, none⟩ = some (.int .i64 a0_0) := (blk_cell BK113.out 0).trans rfl
            have hcz140_1 : wc.cell? ⟨gb113, 1, none⟩ = some (.int .i64 a0_1) := (blk_cell BK113.out 1).trans rfl
            have hcz140_2 : wc.cell? ⟨gb113, 2, none⟩ = some (.int .i64 a0_2) := (blk_cell BK113.out 2).trans rfl
            have hcz140_3 : wc.cell? ⟨gb113, 3, none⟩ = some (.int .i64 a0_3) := (blk_cell BK113.out 3).trans rfl
            have hcz140_4 : wc.cell? ⟨gb113, 4, none⟩ = some (.int .i64 a0_4) := (blk_cell BK113.out 4).trans rfl
            have hcz140_5 : wc.cell? ⟨gb113, 5, none⟩ = some (.int .i64 a0_5) := (blk_cell BK113.out 5).trans rfl
            have hcz140_6 : wc.cell? ⟨gb113, 6, none⟩ = some (.string a0_6) := (blk_cell BK113.out 6).trans rfl
            have hcz140_7 : wc.cell? ⟨gb113, 7, none⟩ = some (.slice A0_7 l0_7.length c0_7) := (blk_cell BK113.out 7).trans rfl
            have hcz140_8 : wc.cell? ⟨gb113, 8, none⟩ = some (.slice A0_8 l0_8.length c0_8) := (blk_cell BK113.out 8).trans rfl
            have hfz140_0 := blk_frozen BK113.out 0
            have hfz140_1 := blk_frozen BK113.out 1
            have hfz140_2 := blk_frozen BK113.out 2
            have hfz140_3 := blk_frozen BK113.out 3
            have hfz140_4 := blk_frozen BK113.out 4
            have hfz140_5 := blk_frozen BK113.out 5
            have hfz140_6 := blk_frozen BK113.out 6
            have hfz140_7 := blk_frozen BK113.out 7
            have hfz140_8 := blk_frozen BK113.out 8
            go_wp2
            repeat (go_quiet (fail); try go_wp2)
            go_ret
            exact ⟨by first | rfl | (simp [errW_none, errW_some] <;> rfl) | (simp [*, errW_none, errW_some] <;> rfl), by repeat (first | (with_reducible first | exact HB.out | apply below_alloc | apply pw_below_drewN | apply below_drew1 | refine below_set ?_ GE113.out) | exact HB.out)⟩
         ·rw [if_neg c131] at H
          have c131b0 : (a0_0 == 5) = false := beq_eq_false_iff_ne.mpr c131
          have c131b1 : (a0_0 != 5) = true := bne_iff_ne.mpr c131
          by_cases c141 : a0_0 = 6
          ·rw [if_pos c141] at H
           have c141b0 : (a0_0 == 6) = true := beq_iff_eq.mpr c141
           have c141b1 : (a0_0 != 6) = false := bne_eq_false_iff_eq.mpr c141
           clear c141
           by_cases c142 : a0_5 > 0
           ·rw [if_pos c142] at H
            have c142b0 : decide (0 < a0_5) = true := decide_eq_true c142
            clear c142
            obtain rfl := Option.some.inj H
            have hcz143_0 : wc.cell? ⟨gb113, 0, none⟩ = some (.int .i64 a0_0) := (blk_cell BK113.out 0).trans rfl
            have hcz143_1 : wc.cell? ⟨gb113, 1, none⟩ = some (.int .i64 a0_1) := (blk_cell BK113.out 1).trans rfl
            have hcz143_2 : wc.cell? ⟨gb113, 2, none⟩ = some (.int .i64 a0_2) := (blk_cell BK113.out 2).trans rfl
            have hcz143_3 : wc.cell? ⟨gb113, 3, none⟩ = some (.int .i64 a0_3) := (blk_cell BK113.out 3).trans rfl
            have hcz143_4 : wc.cell? ⟨gb113, 4, none⟩ = some (.int .i64 a0_4) := (blk_cell BK113.out 4).trans rfl
            have hcz143_5 : wc.cell? ⟨gb113, 5, none⟩ = some (.int .i64 a0_5) := (blk_cell BK113.out 5).trans rfl
            have hcz143_6 : wc.cell? ⟨gb113, 6, none⟩ = some (.string a0_6) := (blk_cell BK113.out 6).trans rfl
            have hcz143_7 : wc.cell? ⟨gb113, 7, none⟩ = some (.slice A0_7 l0_7.length c0_7) := (blk_cell BK113.out 7).trans rfl
            have hcz143_8 : wc.cell? ⟨gb113, 8, none⟩ = some (.slice A0_8 l0_8.length c0_8) := (blk_cell BK113.out 8).trans rfl
            have hfz143_0 := blk_frozen BK113.out 0
            have hfz143_1 := blk_frozen BK113.out 1
            have hfz143_2 := blk_frozen BK113.out 2
            have hfz143_3 := blk_frozen BK113.out 3
            have hfz143_4 := blk_frozen BK113.out 4
            have hfz143_5 := blk_frozen BK113.out 5
            have hfz143_6 := blk_frozen BK113.out 6
            have hfz143_7 := blk_frozen BK113.out 7
            have hfz143_8 := blk_frozen BK113.out 8
            go_wp2
            repeat (go_quiet (fail); try go_wp2)
            go_ret
            exact ⟨by first | rfl | (simp [errW_none, errW_some] <;> rfl) | (simp [*, errW_none, errW_some] <;> rfl), by repeat (first | (with_reducible first | exact HB.out | apply below_alloc | apply pw_below_drewN | apply below_drew1 | refine below_set ?_ GE113.out) | exact HB.out)⟩
           ·rw [if_neg c142] at H
            have c142b0 : decide (0 < a0_5) = false := decide_eq_false c142
            clear c142
            by_cases c144 : (l0_7.length : Int) = 0
            ·rw [if_pos c144] at H
             have c144b0 : ((l0_7.length : Int) == 0) = true := beq_iff_eq.mpr c144
             have c144b1 : ((l0_7.length : Int) != 0) = false := bne_eq_false_iff_eq.mpr c144
             clear c144
             by_cases c145 : (l0_8.length : Int) = 0
             ·rw [if_pos c145] at H
              have c145b0 : ((l0_8.length : Int) == 0) = true := beq_iff_eq.mpr c145
              have c145b1 : ((l0_8.length : Int) != 0) = false := bne_eq_false_iff_eq.mpr c145
              clear c145
              by_cases c146 : a0_6.toList = ([] : List UInt8)
              ·rw [if_pos c146] at H
               have c146b0 : (a0_6.toList == ([] : List UInt8)) = true := beq_iff_eq.mpr c146
               have c146b1 : (a0_6.toList != ([] : List UInt8)) = false := bne_eq_false_iff_eq.mpr c146
               clear c146
               obtain rfl := Option.some.inj H
               have hcz147_0 : wc.cell? ⟨gb113, 0, none⟩ = some (.int .i64 a0_0) := (blk_cell BK113.out 0).trans rfl
               have hcz147_1 : wc.cell? ⟨gb113, 1, none⟩ = some (.int .i64 a0_1) := (blk_cell BK113.out 1).trans rfl
               have hcz147_2 : wc.cell? ⟨gb113, 2, none⟩ = some (.int .i64 a0_2) := (blk_cell BK113.out 2).trans rfl
               have hcz147_3 : wc.cell? ⟨gb113, 3, none⟩ = some (.int .i64 a0_3) := (blk_cell BK113.out 3).trans rfl
               have hcz147_4 : wc.cell? ⟨gb113, 4, none⟩ = some (.int .i64 a0_4) := (blk_cell BK113.out 4).trans rfl
               have hcz147_5 : wc.cell? ⟨gb113, 5, none⟩ = some (.int .i64 a0_5) := (blk_cell BK113.out 5).trans rfl
               have hcz147_6 : wc.cell? ⟨gb113, 6, none⟩ = some (.string a0_6) := (blk_cell BK113.out 6).trans rfl
               have hcz147_7 : wc.cell? ⟨gb113, 7, none⟩ = some (.slice A0_7 l0_7.length c0_7) := (blk_cell BK113.out 7).trans rfl
               have hcz147_8 : wc.cell? ⟨gb113, 8, none⟩ = some (.slice A0_8 l0_8.length c0_8) := (blk_cell BK113.out 8).trans rfl
               have hfz147_0 := blk_frozen BK113.out 0
               have hfz147_1 := blk_frozen BK113.out 1
               have hfz147_2 := blk_frozen BK113.out 2
               have hfz147_3 := blk_frozen BK113.out 3
               have hfz147_4 := blk_frozen BK113.out 4
               have hfz147_5 := blk_frozen BK113.out 5
               have hfz147_6 := blk_frozen BK113.out 6
               have hfz147_7 := blk_frozen BK113.out 7
               have hfz147_8 := blk_frozen BK113.out 8
               go_wp2
               repeat (go_quiet (fail); try go_wp2)
               go_ret
               exact ⟨by first | rfl | (simp [errW_none, errW_some] <;> rfl) | (simp [*, errW_none, errW_some] <;> rfl), by repeat (first | (with_reducible first | exact HB.out | apply below_alloc | apply pw_below_drewN | apply below_drew1 | refine below_set ?_ GE113.out) | exact HB.out)⟩
              ·rw [if_neg c146] at H
               have c146b0 : (a0_6.toList == ([] : List UInt8)) = false := beq_eq_false_iff_ne.mpr c146
               have c146b1 : (a0_6.toList != ([] : List UInt8)) = true := bne_iff_ne.mpr c146
               obtain rfl := Option.some.inj H
               have hcz148_0 : wc.cell? ⟨gb113, 0, none⟩ = some (.int .i64 a0_0) := (blk_cell BK113.out 0).trans rfl
               have hcz148_1 : wc.cell? ⟨gb113, 1, none⟩ = some (.int .i64 a0_1) := (blk_cell BK113.out 1).trans rfl
               have hcz148_2 : wc.cell? ⟨gb113, 2, none⟩ = some (.int .i64 a0_2) := (blk_cell BK113.out 2).trans rfl
               have hcz148_3 : wc.cell? ⟨gb113, 3, none⟩ = some (.int .i64 a0_3) := (blk_cell BK113.out 3).trans rfl
               have hcz148_4 : wc.cell? ⟨gb113, 4, none⟩ = some (.int .i64 a0_4) := (blk_cell BK113.out 4).trans rfl
               have hcz148_5 : wc.cell? ⟨gb113, 5, none⟩ = some (.int .i64 a0_5) := (blk_cell BK113.out 5).trans rfl
               have hcz148_6 : wc.cell? ⟨gb113, 6, none⟩ = some (.string a0_6) := (blk_cell BK113.out 6).trans rfl
               have hcz148_7 : wc.cell? ⟨gb113, 7, none⟩ = some (.slice A0_7 l0_7.length c0_7) := (blk_cell BK113.out 7).trans rfl
               have hcz148_8 : wc.cell? ⟨gb113, 8, none⟩ = some (.slice A0_8 l0_8.length c0_8) := (blk_cell BK113.out 8).trans rfl
               have hfz148_0 := blk_frozen BK113.out 0
               have hfz148_1 := blk_frozen BK113.out 1
               have hfz148_2 := blk_frozen BK113.out 2
               have hfz148_3 := blk_frozen BK113.out 3
               have hfz148_4 := blk_frozen BK113.out 4
               have hfz148_5 := blk_frozen BK113.out 5
               have hfz148_6 := blk_frozen BK113.out 6
               have hfz148_7 := blk_frozen BK113.out 7
               have hfz148_8 := blk_frozen BK113.out 8
               go_wp2
               repeat (go_quiet (fail); try go_wp2)
               go_ret
               exact ⟨by first | rfl | (simp [errW_none, errW_some] <;> rfl) | (simp [*, errW_none, errW_some] <;> rfl), by repeat (first | (with_reducible first | exact HB.out | apply below_alloc | apply pw_below_drewN | apply below_drew1 | refine below_set ?_ GE113.out) | exact HB.out)⟩
             ·rw [if_neg c145] at H
              have c145b0 : ((l0_8.length : Int) == 0) = false := beq_eq_false_iff_ne.mpr c145
              have c145b1 : ((l0_8.length : Int) != 0) = true := bne_iff_ne.mpr c145
              have c145b2 : ¬ (l0_8 = []) := fun h_ => c145 (by rw [h_]; rfl)
              obtain rfl := Option.some.inj H
              have hcz149_0 : wc.cell? ⟨gb113, 0, none⟩ = some (.int .i64 a0_0) := (blk_cell BK113.out 0).trans rfl
              have hcz149_1 : wc.cell? ⟨gb113, 1, none⟩ = some (.int .i64 a0_1) := (blk_cell BK113.out 1).trans rfl
              have hcz149_2 : wc.cell? ⟨gb113, 2, none⟩ = some (.int .i64 a0_2) := (blk_cell BK113.out 2).trans rfl
              have hcz149_3 : wc.cell? ⟨gb113, 3, none⟩ = some (.int .i64 a0_3) := (blk_cell BK113.out 3).trans rfl
              have hcz149_4 : wc.cell? ⟨gb113, 4, none⟩ = some (.int .i64 a0_4) := (blk_cell BK113.out 4).trans rfl
              have hcz149_5 : wc.cell? ⟨gb113, 5, none⟩ = some (.int .i64 a0_5) := (blk_cell BK113.out 5).trans rfl
              have hcz149_6 : wc.cell? ⟨gb113, 6, none⟩ = some (.string a0_6) := (blk_cell BK113.out 6).trans rfl
              have hcz149_7 : wc.cell? ⟨gb113, 7, none⟩ = some (.slice A0_7 l0_7.length c0_7) := (blk_cell BK113.out 7).trans rfl
              have hcz149_8 : wc.cell? ⟨gb113, 8, none⟩ = some (.slice A0_8 l0_8.length c0_8) := (blk_cell BK113.out 8).trans rfl
              have hfz149_0 := blk_frozen BK113.out 0
              have hfz149_1 := blk_frozen BK113.out 1
              have hfz149_2 := blk_frozen BK113.out 2
              have hfz149_3 := blk_frozen BK113.out 3
              have hfz149_4 := blk_frozen BK113.out 4
              have hfz149_5 := blk_frozen BK113.out 5
              have hfz149_6 := blk_frozen BK113.out 6
              have hfz149_7 := blk_frozen BK113.out 7
              have hfz149_8 := blk_frozen BK113.out 8
              go_wp2
              repeat (go_quiet (fail); try go_wp2)
              go_ret
              exact ⟨by first | rfl | (simp [errW_none, errW_some] <;> rfl) | (simp [*, errW_none, errW_some] <;> rfl), by repeat (first | (with_reducible first | exact HB.out | apply below_alloc | apply pw_below_drewN | apply below_drew1 | refine below_set ?_ GE113.out) | exact HB.out)⟩
            ·rw [if_neg c144] at H
             have c144b0 : ((l0_7.length : Int) == 0) = false := beq_eq_false_iff_ne.mpr c144
             have c144b1 : ((l0_7.length : Int) != 0) = true := bne_iff_ne.mpr c144
             have c144b2 : ¬ (l0_7 = []) := fun h_ => c144 (by rw [h_]; rfl)
             obtain rfl := Option.some.inj H
             have hcz150_0 : wc.cell? ⟨gb113, 0, none⟩ = some (.int .i64 a0_0) := (blk_cell BK113.out 0).trans rfl
             have hcz150_1 : wc.cell? ⟨gb113, 1, none⟩ = some (.int .i64 a0_1) := (blk_cell BK113.out 1).trans rfl
             have hcz150_2 : wc.cell? ⟨gb113, 2, none⟩ = some (.int .i64 a0_2) := (blk_cell BK113.out 2).trans rfl
             have hcz150_3 : wc.cell? ⟨gb113, 3, none⟩ = some (.int .i64 a0_3) := (blk_cell BK113.out 3).trans rfl
             have hcz150_4 : wc.cell? ⟨gb113, 4, none⟩ = some (.int .i64 a0_4) := (blk_cell BK113.out 4).trans rfl
             have hcz150_5 : wc.cell? ⟨gb113, 5, none⟩ = some (.int .i64 a0_5) := (blk_cell BK113.out 5).trans rfl
             have hcz150_6 : wc.cell? ⟨gb113, 6, none⟩ = some (.string a0_6) := (blk_cell BK113.out 6).trans rfl
             have hcz150_7 : wc.cell? ⟨gb113, 7, none⟩ = some (.slice A0_7 l0_7.length c0_7) := (blk_cell BK113.out 7).trans rfl
             have hcz150_8 : wc.cell? ⟨gb113, 8, none⟩ = some (.slice A0_8 l0_8.length c0_8) := (blk_cell BK113.out 8).trans rfl
             have hfz150_0 := blk_frozen BK113.out 0
             have hfz150_1 := blk_frozen BK113.out 1
             have hfz150_2 := blk_frozen BK113.out 2
             have hfz150_3 := blk_frozen BK113.out 3
             have hfz150_4 := blk_frozen BK113.out 4
             have hfz150_5 := blk_frozen BK113.out 5
             have hfz150_6 := blk_frozen BK113.out 6
             have hfz150_7 := blk_frozen BK113.out 7
             have hfz150_8 := blk_frozen BK113.out 8
             go_wp2
             repeat (go_quiet (fail); try go_wp2)
             go_ret
             exact ⟨by first | rfl | (simp [errW_none, errW_some] <;> rfl) | (simp [*, errW_none, errW_some] <;> rfl), by repeat (first | (with_reducible first | exact HB.out | apply below_alloc | apply pw_below_drewN | apply below_drew1 | refine below_set ?_ GE113.out) | exact HB.out)⟩
          ·rw [if_neg c141] at H
           have c141b0 : (a0_0 == 6) = false := beq_eq_false_iff_ne.mpr c141
           have c141b1 : (a0_0 != 6) = true := bne_iff_ne.mpr c141
           by_cases c151 : a0_0 = 7
           ·rw [if_pos c151] at H
            have c151b0 : (a0_0 == 7) = true := beq_iff_eq.mpr c151
            have c151b1 : (a0_0 != 7) = false := bne_eq_false_iff_eq.mpr c151
            clear c151
            by_cases c152 : a0_5 > 0
            ·rw [if_pos c152] at H
             have c152b0 : decide (0 < a0_5) = true := decide_eq_true c152
             clear c152
             obtain rfl := Option.some.inj H
             have hcz153_0 : wc.cell? ⟨gb113, 0, none⟩ = some (.int .i64 a0_0) := (blk_cell BK113.out 0).trans rfl
             have hcz153_1 : wc.cell? ⟨gb113, 1, none⟩ = some (.int .i64 a0_1) := (blk_cell BK113.out 1).trans rfl
             have hcz153_2 : wc.cell? ⟨gb113, 2, none⟩ = some (.int .i64 a0_2) := (blk_cell BK113.out 2).trans rfl
             have hcz153_3 : wc.cell? ⟨gb113, 3, none⟩ = some (.int .i64 a0_3) := (blk_cell BK113.out 3).trans rfl
             have hcz153_4 : wc.cell? ⟨gb113, 4, none⟩ = some (.int .i64 a0_4) := (blk_cell BK113.out 4).trans rfl
             have hcz153_5 : wc.cell? ⟨gb113, 5, none⟩ = some (.int .i64 a0_5) := (blk_cell BK113.out 5).trans rfl
             have hcz153_6 : wc.cell? ⟨gb113, 6, none⟩ = some (.string a0_6) := (blk_cell BK113.out 6).trans rfl
             have hcz153_7 : wc.cell? ⟨gb113, 7, none⟩ = some (.slice A0_7 l0_7.length c0_7) := (blk_cell BK113.out 7).trans rfl
             have hcz153_8 : wc.cell? ⟨gb113, 8, none⟩ = some (.slice A0_8 l0_8.length c0_8) := (blk_cell BK113.out 8).trans rfl
             have hfz153_0 := blk_frozen BK113.out 0
             have hfz153_1 := blk_frozen BK113.out 1
             have hfz153_2 := blk_frozen BK113.out 2
             have hfz153_3 := blk_frozen BK113.out 3
             have hfz153_4 := blk_frozen BK113.out 4
             have hfz153_5 := blk_frozen BK113.out 5
             have hfz153_6 := blk_frozen BK113.out 6
             have hfz153_7 := blk_frozen BK113.out 7
             have hfz153_8 := blk_frozen BK113.out 8
             go_wp2
             repeat (go_quiet (fail); try go_wp2)
             go_ret
             exact ⟨by first | rfl | (simp [errW_none, errW_some] <;> rfl) | (simp [*, errW_none, errW_some] <;> rfl), by repeat (first | (with_reducible first | exact HB.out | apply below_alloc | apply pw_below_drewN | apply below_drew1 | refine below_set ?_ GE113.out) | exact HB.out)⟩
            ·rw [if_neg c152] at H
             have c152b0 : decide (0 < a0_5) = false := decide_eq_false c152
             clear c152
             by_cases c154 : (l0_7.length : Int) = 0
             ·rw [if_pos c154] at H
              have c154b0 : ((l0_7.length : Int) == 0) = true := beq_iff_eq.mpr c154
              have c154b1 : ((l0_7.length : Int) != 0) = false := bne_eq_false_iff_eq.mpr c154
              clear c154
              by_cases c155 : (l0_8.length : Int) = 0
              ·rw [if_pos c155] at H
               have c155b0 : ((l0_8.length : Int) == 0) = true := beq_iff_eq.mpr c155
               have c155b1 : ((l0_8.length : Int) != 0) = false := bne_eq_false_iff_eq.mpr c155
               clear c155
               by_cases c156 : a0_6.toList = ([] : List UInt8)
               ·rw [if_pos c156] at H
                have c156b0 : (a0_6.toList == ([] : List UInt8)) = true := beq_iff_eq.mpr c156
                have c156b1 : (a0_6.toList != ([] : List UInt8)) = false := bne_eq_false_iff_eq.mpr c156
                clear c156
                obtain rfl := Option.some.inj H
                have hcz157_0 : wc.cell? ⟨gb113, 0, none⟩ = some (.int .i64 a0_0) := (blk_cell BK113.out 0).trans rfl
                have hcz157_1 : wc.cell? ⟨gb113, 1, none⟩ = some (.int .i64 a0_1) := (blk_cell BK113.out 1).trans rfl
                have hcz157_2 : wc.cell? ⟨gb113, 2, none⟩ = some (.int .i64 a0_2) := (blk_cell BK113.out 2).trans rfl
                have hcz157_3 : wc.cell? ⟨gb113, 3, none⟩ = some (.int .i64 a0_3) := (blk_cell BK113.out 3).trans rfl
                have hcz157_4 : wc.cell? ⟨gb113, 4, none⟩ = some (.int .i64 a0_4) := (blk_cell BK113.out 4).trans rfl
                have hcz157_5 : wc.cell? ⟨gb113, 5, none⟩ = some (.int .i64 a0_5) := (blk_cell BK113.out 5).trans rfl
                have hcz157_6 : wc.cell? ⟨gb113, 6, none⟩ = some (.string a0_6) := (blk_cell BK113.out 6).trans rfl
                have hcz157_7 : wc.cell? ⟨gb113, 7, none⟩ = some (.slice A0_7 l0_7.length c0_7) := (blk_cell BK113.out 7).trans rfl
                have hcz157_8 : wc.cell? ⟨gb113, 8, none⟩ = some (.slice A0_8 l0_8.length c0_8) := (blk_cell BK113.out 8).trans rfl
                have hfz157_0 := blk_frozen BK113.out 0
                have hfz157_1 := blk_frozen BK113.out 1
                have hfz157_2 := blk_frozen BK113.out 2
                have hfz157_3 := blk_frozen BK113.out 3
                have hfz157_4 := blk_frozen BK113.out 4
                have hfz157_5 := blk_frozen BK113.out 5
                have hfz157_6 := blk_frozen BK113.out 6
                have hfz157_7 := blk_frozen BK113.out 7
                have hfz157_8 := blk_frozen BK113.out 8
                go_wp2
                repeat (go_quiet (fail); try go_wp2)
                go_ret
                exact ⟨by first | rfl | (simp [errW_none, errW_some] <;> rfl) | (simp [*, errW_none, errW_some] <;> rfl), by repeat (first | (with_reducible first | exact HB.out | apply below_alloc | apply pw_below_drewN | apply below_drew1 | refine below_set ?_ GE113.out) | exact HB.out)⟩
               ·rw [if_neg c156] at H
                have c156b0 : (a0_6.toList == ([] : List UInt8)) = false := beq_eq_false_iff_ne.mpr c156
                have c156b1 : (a0_6.toList != ([] : List UInt8)) = true := bne_iff_ne.mpr c156
                obtain rfl := Option.some.inj H
                have hcz158_0 : wc.cell? ⟨gb113, 0, none⟩ = some (.int .i64 a0_0) := (blk_cell BK113.out 0).trans rfl
                have hcz158_1 : wc.cell? ⟨gb113, 1, none⟩ = some (.int .i64 a0_1) := (blk_cell BK113.out 1).trans rfl
                have hcz158_2 : wc.cell? ⟨gb113, 2, none⟩ = some (.int .i64 a0_2) := (blk_cell BK113.out 2).trans rfl
                have hcz158_3 : wc.cell? ⟨gb113, 3, none⟩ = some (.int .i64 a0_3) := (blk_cell BK113.out 3).trans rfl
                have hcz158_4 : wc.cell? ⟨gb113, 4, none⟩ = some (.int .i64 a0_4) := (blk_cell BK113.out 4).trans rfl
                have hcz158_5 : wc.cell? ⟨gb113, 5, none⟩ = some (.int .i64 a0_5) := (blk_cell BK113.out 5).trans rfl
                have hcz158_6 : wc.cell? ⟨gb113, 6, none⟩ = some (.string a0_6) := (blk_cell BK113.out 6).trans rfl
                have hcz158_7 : wc.cell? ⟨gb113, 7, none⟩ = some (.slice A0_7 l0_7.length c0_7) := (blk_cell BK113.out 7).trans rfl
                have hcz158_8 : wc.cell? ⟨gb113, 8, none⟩ = some (.slice A0_8 l0_8.length c0_8) := (blk_cell BK113.out 8).trans rfl
                have hfz158_0 := blk_frozen BK113.out 0
                have hfz158_1 := blk_frozen BK113.out 1
                have hfz158_2 := blk_frozen BK113.out 2
                have hfz158_3 := blk_frozen BK113.out 3
                have hfz158_4 := blk_frozen BK113.out 4
                have hfz158_5 := blk_frozen BK113.out 5
                have hfz158_6 := blk_frozen BK113.out 6
                have hfz158_7 := blk_frozen BK113.out 7
                have hfz158_8 := blk_frozen BK113.out 8
                go_wp2
                repeat (go_quiet (fail); try go_wp2)
                go_ret
                exact ⟨by first | rfl | (simp [errW_none, errW_some] <;> rfl) | (simp [*, errW_none, errW_some] <;> rfl), by repeat (first | (with_reducible first | exact HB.out | apply below_alloc | apply pw_below_drewN | apply below_drew1 | refine below_set ?_ GE113.out) | exact HB.out)⟩
              ·rw [if_neg c155] at H
               have c155b0 : ((l0_8.length : Int) == 0) = false := beq_eq_false_iff_ne.mpr c155
               have c155b1 : ((l0_8.length : Int) != 0) = true := bne_iff_ne.mpr c155
               have c155b2 : ¬ (l0_8 = []) := fun h_ => c155 (by rw [h_]; rfl)
               obtain rfl := Option.some.inj H
               have hcz159_0 : wc.cell? ⟨gb113, 0, none⟩ = some (.int .i64 a0_0) := (blk_cell BK113.out 0).trans rfl
               have hcz159_1 : wc.cell? ⟨gb113, 1, none⟩ = some (.int .i64 a0_1) := (blk_cell BK113.out 1).trans rfl
               have hcz159_2 : wc.cell? ⟨gb113, 2, none⟩ = some (.int .i64 a0_2) := (blk_cell BK113.out 2).trans rfl
               have hcz159_3 : wc.cell? ⟨gb113, 3, none⟩ = some (.int .i64 a0_3) := (blk_cell BK113.out 3).trans rfl
               have hcz159_4 : wc.cell? ⟨gb113, 4, none⟩ = some (.int .i64 a0_4) := (blk_cell BK113.out 4).trans rfl
               have hcz159_5 : wc.cell? ⟨gb113, 5, none⟩ = some (.int .i64 a0_5) := (blk_cell BK113.out 5).trans rfl
               have hcz159_6 : wc.cell? ⟨gb113, 6, none⟩ = some (.string a0_6) := (blk_cell BK113.out 6).trans rfl
               have hcz159_7 : wc.cell? ⟨gb113, 7, none⟩ = some (.slice A0_7 l0_7.length c0_7) := (blk_cell BK113.out 7).trans rfl
               have hcz159_8 : wc.cell? ⟨gb113, 8, none⟩ = some (.slice A0_8 l0_8.length c0_8) := (blk_cell BK113.out 8).trans rfl
               have hfz159_0 := blk_frozen BK113.out 0
               have hfz159_1 := blk_frozen BK113.out 1
               have hfz159_2 := blk_frozen BK113.out 2
               have hfz159_3 := blk_frozen BK113.out 3
               have hfz159_4 := blk_frozen BK113.out 4
               have hfz159_5 := blk_frozen BK113.out 5
               have hfz159_6 := blk_frozen BK113.out 6
               have hfz159_7 := blk_frozen BK113.out 7
               have hfz159_8 := blk_frozen BK113.out 8
               go_wp2
               repeat (go_quiet (fail); try go_wp2)
               go_ret
               exact ⟨by first | rfl | (simp [errW_none, errW_some] <;> rfl) | (simp [*, errW_none, errW_some] <;> rfl), by repeat (first | (with_reducible first | exact HB.out | apply below_alloc | apply pw_below_drewN | apply below_drew1 | refine below_set ?_ GE113.out) | exact HB.out)⟩
             ·rw [if_neg c154] at H
              have c154b0 : ((l0_7.length : Int) == 0) = false := beq_eq_false_iff_ne.mpr c154
              have c154b1 : ((l0_7.length : Int) != 0) = true := bne_iff_ne.mpr c154
              have c154b2 : ¬ (l0_7 = []) := fun h_ => c154 (by rw [h_]; rfl)
              obtain rfl := Option.some.inj H
              have hcz160_0 : wc.cell? ⟨gb113, 0, none⟩ = some (.int .i64 a0_0) := (blk_cell BK113.out 0).trans rfl
              have hcz160_1 : wc.cell? ⟨gb113, 1, none⟩ = some (.int .i64 a0_1) := (blk_cell BK113.out 1).trans rfl
              have hcz160_2 : wc.cell? ⟨gb113, 2, none⟩ = some (.int .i64 a0_2) := (blk_cell BK113.out 2).trans rfl
              have hcz160_3 : wc.cell? ⟨gb113, 3, none⟩ = some (.int .i64 a0_3) := (blk_cell BK113.out 3).trans rfl
              have hcz160_4 : wc.cell? ⟨gb113, 4, none⟩ = some (.int .i64 a0_4) := (blk_cell BK113.out 4).trans rfl
              have hcz160_5 : wc.cell? ⟨gb113, 5, none⟩ = some (.int .i64 a0_5) := (blk_cell BK113.out 5).trans rfl
              have hcz160_6 : wc.cell? ⟨gb113, 6, none⟩ = some (.string a0_6) := (blk_cell BK113.out 6).trans rfl
              have hcz160_7 : wc.cell? ⟨gb113, 7, none⟩ = some (.slice A0_7 l0_7.length c0_7) := (blk_cell BK113.out 7).trans rfl
              have hcz160_8 : wc.cell? ⟨gb113, 8, none⟩ = some (.slice A0_8 l0_8.length c0_8) := (blk_cell BK113.out 8).trans rfl
              have hfz160_0 := blk_frozen BK113.out 0
              have hfz160_1 := blk_frozen BK113.out 1
              have hfz160_2 := blk_frozen BK113.out 2
              have hfz160_3 := blk_frozen BK113.out 3
              have hfz160_4 := blk_frozen BK113.out 4
              have hfz160_5 := blk_frozen BK113.out 5
              have hfz160_6 := blk_frozen BK113.out 6
              have hfz160_7 := blk_frozen BK113.out 7
              have hfz160_8 := blk_frozen BK113.out 8
              go_wp2
              repeat (go_quiet (fail); try go_wp2)
              go_ret
              exact ⟨by first | rfl | (simp [errW_none, errW_some] <;> rfl) | (simp [*, errW_none, errW_some] <;> rfl), by repeat (first | (with_reducible first | exact HB.out | apply below_alloc | apply pw_below_drewN | apply below_drew1 | refine below_set ?_ GE113.out) | exact HB.out)⟩
           ·rw [if_neg c151] at H
            have c151b0 : (a0_0 == 7) = false := beq_eq_false_iff_ne.mpr c151
            have c151b1 : (a0_0 != 7) = true := bne_iff_ne.mpr c151
            obtain rfl := Option.some.inj H
            have hcz161_0 : wc.cell? ⟨gb113, 0, none⟩ = some (.int .i64 a0_0) := (blk_cell BK113.out 0).trans rfl
            have hcz161_1 : wc.cell? ⟨gb113, 1, none⟩ = some (.int .i64 a0_1) := (blk_cell BK113.out 1).trans rfl
            have hcz161_2 : wc.cell? ⟨gb113, 2, none⟩ = some (.int .i64 a0_2) := (blk_cell BK113.out 2).trans rfl
            have hcz161_3 : wc.cell? ⟨gb113, 3, none⟩ = some (.int .i64 a0_3) := (blk_cell BK113.out 3).trans rfl
            have hcz161_4 : wc.cell? ⟨gb113, 4, none⟩ = some (.int .i64 a0_4) := (blk_cell BK113.out 4).trans rfl
            have hcz161_5 : wc.cell? ⟨gb113, 5, none⟩ = some (.int .i64 a0_5) := (blk_cell BK113.out 5).trans rfl
            have hcz161_6 : wc.cell? ⟨gb113, 6, none⟩ = some (.string a0_6) := (blk_cell BK113.out 6).trans rfl
            have hcz161_7 : wc.cell? ⟨gb113, 7, none⟩ = some (.slice A0_7 l0_7.length c0_7) := (blk_cell BK113.out 7).trans rfl
            have hcz161_8 : wc.cell? ⟨gb113, 8, none⟩ = some (.slice A0_8 l0_8.length c0_8) := (blk_cell BK113.out 8).trans rfl
            have hfz161_0 := blk_frozen BK113.out 0
            have hfz161_1 := blk_frozen BK113.out 1
            have hfz161_2 := blk_frozen BK113.out 2
            have hfz161_3 := blk_frozen BK113.out 3
            have hfz161_4 := blk_frozen BK113.out 4
            have hfz161_5 := blk_frozen BK113.out 5
            have hfz161_6 := blk_frozen BK113.out 6
            have hfz161_7 := blk_frozen BK113.out 7
            have hfz161_8 := blk_frozen BK113.out 8
            go_wp2
            repeat (go_quiet (fail); try go_wp2)
            go_ret
            exact ⟨by first | rfl | (simp [errW_none, errW_some] <;> rfl) | (simp [*, errW_none, errW_some] <;> rfl), by repeat (first | (with_reducible first | exact HB.out | apply below_alloc | apply pw_below_drewN | apply below_drew1 | refine below_set ?_ GE113.out) | exact HB.out)⟩

end Go.Proofs.Ytpfhdgacjeklaaa.PLocks
