/- Texts of this proof, one behind the other (merged by a program of this session). -/
import Derived.Test.YtegmmefijihdeaaDoorM1ee7bc
import Derived.Test.YtegmmefijihdeaaDoorMda869c
import Derived.Test.YtegmmefijihdeaaDoorM242456
namespace Go.Proofs.YtegmmefijihdeaaDoor.PS
open Go.RowKit Go.Proofs.YtegmmefijihdeaaDoorW.PrintWords Go.Proofs.YtegmmefijihdeaaDoorW.PrintLast Go.Proofs.YtegmmefijihdeaaDoorW.PrintMore
attribute [local go_sem] Mk.str_leq Mk.str_gtr Mk.str_geq max2_int min2_int max_two min_two max_three min_three max_four min_four   -- for this text's walks alone
set_option linter.unusedVariables false
set_option linter.unusedSimpArgs false

/-! ### mend_One: function 43 -/
def mend_One.f (k : Nat) (a0 : Int) (a1 : Int) (l2 : List (S62)) (a3 : Int) : Option (ByteArray × Int) := (mend_all.f k a0 a1 l2).bind fun bt537 => (if bt537.2 = 0 then (if a3 < 0 then (some ((⟨#[]⟩ : ByteArray), 1)) else (if a3 ≥ (bt537.1.length : Int) then (some ((⟨#[]⟩ : ByteArray), 1)) else (if 0 ≤ a3 then (if a3 < (bt537.1.length : Int) then (some (rdOf ByteArray.empty bt537.1 a3, 0)) else (none)) else (none)))) else (some ((⟨#[]⟩ : ByteArray), bt537.2)))
theorem mend_One.mono : ∀ a0 a1 a2 a3 k, LeO (mend_One.f k a0 a1 a2 a3) (mend_One.f (k + 1) a0 a1 a2 a3) := by
 intro a0 a1 a2 a3 k
 unfold mend_One.f
 repeat' first
   | (with_reducible exact mend_all.mono _ _ _ _)
   | (with_reducible exact LeO.refl _)
   | (with_reducible exact LeO.none _)
   | (with_reducible refine LeO.ite ?_ ?_)
   | (with_reducible refine LeO.bind ?_ (fun _ => ?_))
   | exact mend_all.mono _ _ _ _
   | exact LeO.none _
   | refine LeO.ite ?_ ?_
   | refine LeO.bind ?_ (fun _ => ?_)
set_option maxHeartbeats 8000000 in
set_option maxRecDepth 100000 in
theorem mend_One.calls (k : Nat) (a0 : Int) (a1 : Int) (A2 : Option Addr) (c2 : Nat) (l2 : List (S62)) (a3 : Int) (r1 : ByteArray) (r2 : Int) (w : World) (hr2 : Kd.C k62 w A2 l2.length l2) (hc2 : l2.length ≤ c2) (h : mend_One.f k a0 a1 l2 a3 = some (r1, r2)) :
  Calls Tryd.prog 43 #[.int .i64 a0, .int .i64 a1, .slice A2 l2.length c2, .int .i64 a3] w fun e w' => e = .returned (.tuple #[.string r1, .int .i64 r2]) ∧ Below w.heap.size w w' := by
 have HR2 := Aside0.mk hr2
 have HC2 := Aside0.mk hc2
 clear hr2 hc2
 have HB := Aside0.mk (Below.refl w.heap.size w)
 have H : ((mend_all.f k a0 a1 l2).bind fun bt537 => (if bt537.2 = 0 then (if a3 < 0 then (some ((⟨#[]⟩ : ByteArray), 1)) else (if a3 ≥ (bt537.1.length : Int) then (some ((⟨#[]⟩ : ByteArray), 1)) else (if 0 ≤ a3 then (if a3 < (bt537.1.length : Int) then (some (rdOf ByteArray.empty bt537.1 a3, 0)) else (none)) else (none)))) else (some ((⟨#[]⟩ : ByteArray), bt537.2)))) = some (r1, r2) := h
 clear h
 replace H := Option.bind_eq_some_iff.mp H
 obtain ⟨⟨t537, t538⟩, A50, H⟩ := H
 replace H : (if t538 = 0 then (if a3 < 0 then (some ((⟨#[]⟩ : ByteArray), 1)) else (if a3 ≥ (t537.length : Int) then (some ((⟨#[]⟩ : ByteArray), 1)) else (if 0 ≤ a3 then (if a3 < (t537.length : Int) then (some (rdOf ByteArray.empty t537 a3, 0)) else (none)) else (none)))) else (some ((⟨#[]⟩ : ByteArray), t538))) = some (r1, r2) := H
 have A5 := Aside0.mk A50
 clear A50
 by_cases c6 : t538 = 0
 ·rw [if_pos c6] at H
  have c6b0 : (t538 == 0) = true := beq_iff_eq.mpr c6
  have c6b1 : (t538 != 0) = false := bne_eq_false_iff_eq.mpr c6
  clear c6
  by_cases c7 : a3 < 0
  ·rw [if_pos c7] at H
   have c7b0 : decide (a3 < 0) = true := decide_eq_true c7
   clear c7
   simp only [Option.some.injEq, Prod.mk.injEq] at H
   obtain ⟨rfl, rfl⟩ := H
   go_enter Tryd.func43, Tryd.ntmps43
   go_wp2_with (first | ((with_reducible refine gate_callee (f := 65) rfl ?_); refine goesL_ (some 16) rfl rfl Tryd.func65 (by kernel_rfl) rfl #[.int .i64 a0, .int .i64 a1, .slice A2 l2.length c2] rfl (by (try simp only [List.map_toArray, List.map_cons, List.map_nil]); first | done | rfl | (simp only [List.length_drop, List.length_take]; rfl)) ?_; (with_reducible refine (mend_all.calls k a0 a1 _ _ l2 t537 t538 _ ?side1 ?side2 A5.out).mono ?_); (case side1 => repeat (first | exact HR2.out | (with_reducible refine Kd.C_alloc ?_ _) | (with_reducible refine Kd.C_drewN ?_ _) | (with_reducible refine Kd.C_drew ?_))); (case side2 => exact HC2.out); rintro e w8 ⟨v539, rfl, ho0, hb⟩; refine ⟨_, rfl, ?_⟩; have n0_ := Aside0.mk (Kd.R_lower ho0 (below_size (by repeat (first | (with_reducible first | exact HB.out | apply below_alloc | apply pw_below_drewN | apply below_drew1) | exact HB.out)))); have n1_ := Aside0.mk (below_step (by repeat (first | (with_reducible first | exact HB.out | apply below_alloc | apply pw_below_drewN | apply below_drew1) | exact HB.out)) hb); clear HB; have HO540 := n0_; have HB := n1_; clear n0_ n1_; (try clear hb); (try clear hb2); (try clear hk); (try clear hi); (try clear ho0)))
   go_ret2
   exact ⟨by first | rfl | (simp [errW_none, errW_some] <;> rfl) | (simp [*, errW_none, errW_some] <;> rfl), by repeat (first | (with_reducible first | exact HB.out | apply below_alloc | apply pw_below_drewN | apply below_drew1) | exact HB.out)⟩
  ·rw [if_neg c7] at H
   have c7b0 : decide (a3 < 0) = false := decide_eq_false c7
   clear c7
   by_cases c9 : a3 ≥ (t537.length : Int)
   ·rw [if_pos c9] at H
    have c9b0 : decide ((t537.length : Int) ≤ a3) = true := decide_eq_true c9
    clear c9
    simp only [Option.some.injEq, Prod.mk.injEq] at H
    obtain ⟨rfl, rfl⟩ := H
    go_enter Tryd.func43, Tryd.ntmps43
    go_wp2_with (first | ((with_reducible refine gate_callee (f := 65) rfl ?_); refine goesL_ (some 16) rfl rfl Tryd.func65 (by kernel_rfl) rfl #[.int .i64 a0, .int .i64 a1, .slice A2 l2.length c2] rfl (by (try simp only [List.map_toArray, List.map_cons, List.map_nil]); first | done | rfl | (simp only [List.length_drop, List.length_take]; rfl)) ?_; (with_reducible refine (mend_all.calls k a0 a1 _ _ l2 t537 t538 _ ?side1 ?side2 A5.out).mono ?_); (case side1 => repeat (first | exact HR2.out | (with_reducible refine Kd.C_alloc ?_ _) | (with_reducible refine Kd.C_drewN ?_ _) | (with_reducible refine Kd.C_drew ?_))); (case side2 => exact HC2.out); rintro e w10 ⟨v539, rfl, ho0, hb⟩; refine ⟨_, rfl, ?_⟩; have n0_ := Aside0.mk (Kd.R_lower ho0 (below_size (by repeat (first | (with_reducible first | exact HB.out | apply below_alloc | apply pw_below_drewN | apply below_drew1) | exact HB.out)))); have n1_ := Aside0.mk (below_step (by repeat (first | (with_reducible first | exact HB.out | apply below_alloc | apply pw_below_drewN | apply below_drew1) | exact HB.out)) hb); clear HB; have HO540 := n0_; have HB := n1_; clear n0_ n1_; (try clear hb); (try clear hb2); (try clear hk); (try clear hi); (try clear ho0); obtain ⟨Ao11, co11, eo11⟩ := Kd.R_slice HO540.out; subst eo11))
    go_ret2
    exact ⟨by first | rfl | (simp [errW_none, errW_some] <;> rfl) | (simp [*, errW_none, errW_some] <;> rfl), by repeat (first | (with_reducible first | exact HB.out | apply below_alloc | apply pw_below_drewN | apply below_drew1) | exact HB.out)⟩
   ·rw [if_neg c9] at H
    have c9b0 : decide ((t537.length : Int) ≤ a3) = false := decide_eq_false c9
    clear c9
    by_cases c12 : 0 ≤ a3
    ·rw [if_pos c12] at H
     have c12b0 : decide (0 ≤ a3) = true := decide_eq_true c12
     clear c12
     by_cases c13 : a3 < (t537.length : Int)
     ·rw [if_pos c13] at H
      have c13b0 : decide (a3 < (t537.length : Int)) = true := decide_eq_true c13
      clear c13
      simp only [Option.some.injEq, Prod.mk.injEq] at H
      obtain ⟨rfl, rfl⟩ := H
      go_enter Tryd.func43, Tryd.ntmps43
      go_wp2_with (first | ((with_reducible refine gate_callee (f := 65) rfl ?_); refine goesL_ (some 16) rfl rfl Tryd.func65 (by kernel_rfl) rfl #[.int .i64 a0, .int .i64 a1, .slice A2 l2.length c2] rfl (by (try simp only [List.map_toArray, List.map_cons, List.map_nil]); first | done | rfl | (simp only [List.length_drop, List.length_take]; rfl)) ?_; (with_reducible refine (mend_all.calls k a0 a1 _ _ l2 t537 t538 _ ?side1 ?side2 A5.out).mono ?_); (case side1 => repeat (first | exact HR2.out | (with_reducible refine Kd.C_alloc ?_ _) | (with_reducible refine Kd.C_drewN ?_ _) | (with_reducible refine Kd.C_drew ?_))); (case side2 => exact HC2.out); rintro e w14 ⟨v539, rfl, ho0, hb⟩; refine ⟨_, rfl, ?_⟩; have n0_ := Aside0.mk (Kd.R_lower ho0 (below_size (by repeat (first | (with_reducible first | exact HB.out | apply below_alloc | apply pw_below_drewN | apply below_drew1) | exact HB.out)))); have n1_ := Aside0.mk (below_step (by repeat (first | (with_reducible first | exact HB.out | apply below_alloc | apply pw_below_drewN | apply below_drew1) | exact HB.out)) hb); clear HB; have HO540 := n0_; have HB := n1_; clear n0_ n1_; (try clear hb); (try clear hb2); (try clear hk); (try clear hi); (try clear ho0); obtain ⟨Ao15, co15, eo15⟩ := Kd.R_slice HO540.out; subst eo15; have p541 : 0 ≤ (a3 : Int) := of_decide_eq_true (by first | (with_reducible assumption) | assumption); have q541 : a3 < (t537.length : Int) := of_decide_eq_true (by first | (with_reducible assumption) | assumption); obtain ⟨ad541, e541, hx541_0⟩ := Kd.at_string (Kd.R_reads' HO540.out).2.2 a3 p541 q541; cases e541; replace p541 := eq_true p541; replace q541 := eq_true q541))
      go_ret2
      exact ⟨by first | rfl | (simp [errW_none, errW_some] <;> rfl) | (simp [*, errW_none, errW_some] <;> rfl), by repeat (first | (with_reducible first | exact HB.out | apply below_alloc | apply pw_below_drewN | apply below_drew1) | exact HB.out)⟩
     ·rw [if_neg c13] at H
      exact absurd H (by simp)
    ·rw [if_neg c12] at H
     exact absurd H (by simp)
 ·rw [if_neg c6] at H
  have c6b0 : (t538 == 0) = false := beq_eq_false_iff_ne.mpr c6
  have c6b1 : (t538 != 0) = true := bne_iff_ne.mpr c6
  simp only [Option.some.injEq, Prod.mk.injEq] at H
  obtain ⟨rfl, rfl⟩ := H
  go_enter Tryd.func43, Tryd.ntmps43
  go_wp2_with (first | ((with_reducible refine gate_callee (f := 65) rfl ?_); refine goesL_ (some 16) rfl rfl Tryd.func65 (by kernel_rfl) rfl #[.int .i64 a0, .int .i64 a1, .slice A2 l2.length c2] rfl (by (try simp only [List.map_toArray, List.map_cons, List.map_nil]); first | done | rfl | (simp only [List.length_drop, List.length_take]; rfl)) ?_; (with_reducible refine (mend_all.calls k a0 a1 _ _ l2 t537 t538 _ ?side1 ?side2 A5.out).mono ?_); (case side1 => repeat (first | exact HR2.out | (with_reducible refine Kd.C_alloc ?_ _) | (with_reducible refine Kd.C_drewN ?_ _) | (with_reducible refine Kd.C_drew ?_))); (case side2 => exact HC2.out); rintro e w16 ⟨v539, rfl, ho0, hb⟩; refine ⟨_, rfl, ?_⟩; have n0_ := Aside0.mk (Kd.R_lower ho0 (below_size (by repeat (first | (with_reducible first | exact HB.out | apply below_alloc | apply pw_below_drewN | apply below_drew1) | exact HB.out)))); have n1_ := Aside0.mk (below_step (by repeat (first | (with_reducible first | exact HB.out | apply below_alloc | apply pw_below_drewN | apply below_drew1) | exact HB.out)) hb); clear HB; have HO540 := n0_; have HB := n1_; clear n0_ n1_; (try clear hb); (try clear hb2); (try clear hk); (try clear hi); (try clear ho0)))
  go_ret2
  exact ⟨by first | rfl | (simp [errW_none, errW_some] <;> rfl) | (simp [*, errW_none, errW_some] <;> rfl), by repeat (first | (with_reducible first | exact HB.out | apply below_alloc | apply pw_below_drewN | apply below_drew1) | exact HB.out)⟩

end Go.Proofs.YtegmmefijihdeaaDoor.PS
namespace Go.Proofs.YtegmmefijihdeaaDoor.PS
open Go.RowKit Go.Proofs.YtegmmefijihdeaaDoorW.PrintWords Go.Proofs.YtegmmefijihdeaaDoorW.PrintLast Go.Proofs.YtegmmefijihdeaaDoorW.PrintMore
attribute [local go_sem] Mk.str_leq Mk.str_gtr Mk.str_geq max2_int min2_int max_two min_two max_three min_three max_four min_four   -- for this text's walks alone
set_option linter.unusedVariables false
set_option linter.unusedSimpArgs false

/-! ### mend_Agree: function 45 -/
def mend_Agree.l0 : Nat → List ByteArray → List (S62) → Int → Int → Option (Bool × Int)
 | 0, _, _, _, _ => none
 | k + 1, x8, x22, x23, x24 => if x24 < x23 then (if 0 ≤ x24 then (if x24 < (x22.length : Int) then (if 0 ≤ ((rd_T62 x22 x24).f0) then (if ((rd_T62 x22 x24).f0) < (x8.length : Int) then (if (rdOf ByteArray.empty x8 ((rd_T62 x22 x24).f0)).toList = ((rd_T62 x22 x24).f1).toList then (mend_Agree.l0 k x8 x22 x23 (wrap64 (x24 + 1))) else (some (false, 0))) else (none)) else (none)) else (none)) else (none)) else (some (true, 0))
def mend_Agree.f (k : Nat) (a0 : Int) (a1 : Int) (l2 : List (S62)) : Option (Bool × Int) := (mend_all.f k a0 a1 l2).bind fun bt579 => (if bt579.2 = 0 then (mend_Agree.l0 k bt579.1 l2 (l2.length : Int) 0) else (some (false, bt579.2)))
theorem mend_Agree.mono_l : ∀ k, (∀ y0 y1 y2 y3, LeO (mend_Agree.l0 k y0 y1 y2 y3) (mend_Agree.l0 (k + 1) y0 y1 y2 y3))
 | 0 => fun _ _ _ _ r h => by simp [mend_Agree.l0] at h
 | k + 1 => by
  have ih0 := mend_Agree.mono_l k
  ·intro y0 y1 y2 y3
   unfold mend_Agree.l0
   repeat' first
   | (with_reducible exact ih0 _ _ _ _)
   | (with_reducible exact mend_all.mono _ _ _ _)
   | (with_reducible exact LeO.refl _)
   | (with_reducible exact LeO.none _)
   | (with_reducible refine LeO.ite ?_ ?_)
   | (with_reducible refine LeO.bind ?_ (fun _ => ?_))
   | exact ih0 _ _ _ _
   | exact mend_all.mono _ _ _ _
   | exact LeO.none _
   | refine LeO.ite ?_ ?_
   | refine LeO.bind ?_ (fun _ => ?_)
theorem mend_Agree.mono : ∀ a0 a1 a2 k, LeO (mend_Agree.f k a0 a1 a2) (mend_Agree.f (k + 1) a0 a1 a2) := by
 intro a0 a1 a2 k
 have ih0 := mend_Agree.mono_l k
 unfold mend_Agree.f
 repeat' first
   | (with_reducible exact ih0 _ _ _ _)
   | (with_reducible exact mend_all.mono _ _ _ _)
   | (with_reducible exact LeO.refl _)
   | (with_reducible exact LeO.none _)
   | (with_reducible refine LeO.ite ?_ ?_)
   | (with_reducible refine LeO.bind ?_ (fun _ => ?_))
   | exact ih0 _ _ _ _
   | exact mend_all.mono _ _ _ _
   | exact LeO.none _
   | refine LeO.ite ?_ ?_
   | refine LeO.bind ?_ (fun _ => ?_)
set_option maxHeartbeats 8000000 in
set_option maxRecDepth 100000 in
theorem mend_Agree.calls (k : Nat) (a0 : Int) (a1 : Int) (A2 : Option Addr) (c2 : Nat) (l2 : List (S62)) (r1 : Bool) (r2 : Int) (w : World) (hr2 : Kd.C k62 w A2 l2.length l2) (hc2 : l2.length ≤ c2) (h : mend_Agree.f k a0 a1 l2 = some (r1, r2)) :
  Calls Tryd.prog 45 #[.int .i64 a0, .int .i64 a1, .slice A2 l2.length c2] w fun e w' => e = .returned (.tuple #[.bool r1, .int .i64 r2]) ∧ Below w.heap.size w w' := by
 have hu62 := Tryd.underlying62
 have HR2 := Aside0.mk hr2
 have HC2 := Aside0.mk hc2
 clear hr2 hc2
 have HB := Aside0.mk (Below.refl w.heap.size w)
 have H : ((mend_all.f k a0 a1 l2).bind fun bt579 => (if bt579.2 = 0 then (mend_Agree.l0 k bt579.1 l2 (l2.length : Int) 0) else (some (false, bt579.2)))) = some (r1, r2) := h
 clear h
 replace H := Option.bind_eq_some_iff.mp H
 obtain ⟨⟨t579, t580⟩, A40, H⟩ := H
 replace H : (if t580 = 0 then (mend_Agree.l0 k t579 l2 (l2.length : Int) 0) else (some (false, t580))) = some (r1, r2) := H
 have A4 := Aside0.mk A40
 clear A40
 by_cases c5 : t580 = 0
 ·rw [if_pos c5] at H
  have c5b0 : (t580 == 0) = true := beq_iff_eq.mpr c5
  have c5b1 : (t580 != 0) = false := bne_eq_false_iff_eq.mpr c5
  clear c5
  have H' := Aside0.mk H
  clear H
  go_enter Tryd.func45, Tryd.ntmps45
  go_wp2_with (first | (go_at_call 65; (with_reducible refine (mend_all.calls k a0 a1 _ _ l2 t579 t580 _ ?side1 ?side2 A4.out).mono ?_); (case side1 => repeat (first | exact HR2.out | (with_reducible refine Kd.C_alloc ?_ _) | (with_reducible refine Kd.C_drewN ?_ _) | (with_reducible refine Kd.C_drew ?_))); (case side2 => exact HC2.out); rintro e w6 ⟨v581, rfl, ho0, hb⟩; have n0_ := Aside0.mk (Kd.R_lower ho0 (below_size (by repeat (first | (with_reducible first | exact HB.out | apply below_alloc | apply pw_below_drewN | apply below_drew1) | exact HB.out)))); have n1_ := Aside0.mk (below_step (by repeat (first | (with_reducible first | exact HB.out | apply below_alloc | apply pw_below_drewN | apply below_drew1) | exact HB.out)) hb); clear HB; have HO582 := n0_; have HB := n1_; clear n0_ n1_; (try clear hb); (try clear hb2); (try clear hk); (try clear hi); (try clear ho0)))
  repeat (go_quiet (first | (go_at_call 65; (with_reducible refine (mend_all.calls k a0 a1 _ _ l2 t579 t580 _ ?side1 ?side2 A4.out).mono ?_); (case side1 => repeat (first | exact HR2.out | (with_reducible refine Kd.C_alloc ?_ _) | (with_reducible refine Kd.C_drewN ?_ _) | (with_reducible refine Kd.C_drew ?_))); (case side2 => exact HC2.out); rintro e w6 ⟨v581, rfl, ho0, hb⟩; have n0_ := Aside0.mk (Kd.R_lower ho0 (below_size (by repeat (first | (with_reducible first | exact HB.out | apply below_alloc | apply pw_below_drewN | apply below_drew1) | exact HB.out)))); have n1_ := Aside0.mk (below_step (by repeat (first | (with_reducible first | exact HB.out | apply below_alloc | apply pw_below_drewN | apply below_drew1) | exact HB.out)) hb); clear HB; have HO582 := n0_; have HB := n1_; clear n0_ n1_; (try clear hb); (try clear hb2); (try clear hk); (try clear hi); (try clear ho0))); try go_wp2_with (first | (go_at_call 65; (with_reducible refine (mend_all.calls k a0 a1 _ _ l2 t579 t580 _ ?side1 ?side2 A4.out).mono ?_); (case side1 => repeat (first | exact HR2.out | (with_reducible refine Kd.C_alloc ?_ _) | (with_reducible refine Kd.C_drewN ?_ _) | (with_reducible refine Kd.C_drew ?_))); (case side2 => exact HC2.out); rintro e w6 ⟨v581, rfl, ho0, hb⟩; have n0_ := Aside0.mk (Kd.R_lower ho0 (below_size (by repeat (first | (with_reducible first | exact HB.out | apply below_alloc | apply pw_below_drewN | apply below_drew1) | exact HB.out)))); have n1_ := Aside0.mk (below_step (by repeat (first | (with_reducible first | exact HB.out | apply below_alloc | apply pw_below_drewN | apply below_drew1) | exact HB.out)) hb); clear HB; have HO582 := n0_; have HB := n1_; clear n0_ n1_; (try clear hb); (try clear hb2); (try clear hk); (try clear hi); (try clear ho0))))
  go_loopg [24] k (fun kq v24 w' => ∃ (x24_1 : Int), v24 = .int .i64 x24_1 ∧ Aside0 (mend_Agree.l0 kq t579 l2 (l2.length : Int) x24_1 = some (r1, r2)) ∧ Aside0 (kq ≤ k) ∧ Aside0 (Kd.R Kd.string 9 w' w.heap.size (fun _ => True) v581 t579) ∧ Aside0 (Below w.heap.size w w'))
  case atStart => exact ⟨(0), (by first | rfl | (simp; done) | (simp [*]; done)), H', ⟨Nat.le_refl _⟩, ⟨by (with_reducible repeat (first | apply Kd.R_alloc | apply Kd.R_drewN | apply Kd.R_drew)); exact HO582.out⟩, ⟨by repeat (first | (with_reducible first | exact HB.out | apply below_alloc | apply pw_below_drewN | apply below_drew1) | exact HB.out)⟩⟩
  case round =>
   clear H'
   try clear c2
   try clear p2
   try clear c4
   try clear c5
   try clear c5b0
   try clear c5b1
   obtain ⟨x24_1, rfl, HA, HK1, HO_8, HB⟩ := hrel
   cases gk with
   | zero => exact absurd HA.out (by simp [mend_Agree.l0])
   | succ k1 =>
    have H := HA.out
    clear HA
    simp only [mend_Agree.l0] at H
    by_cases c7 : x24_1 < (l2.length : Int)
    ·rw [if_pos c7] at H
     have c7b0 : decide (x24_1 < (l2.length : Int)) = true := decide_eq_true c7
     clear c7
     by_cases c8 : 0 ≤ x24_1
     ·rw [if_pos c8] at H
      have c8b0 : decide (0 ≤ x24_1) = true := decide_eq_true c8
      clear c8
      by_cases c9 : x24_1 < (l2.length : Int)
      ·rw [if_pos c9] at H
       have c9b0 : decide (x24_1 < (l2.length : Int)) = true := decide_eq_true c9
       clear c9
       by_cases c10 : 0 ≤ ((rd_T62 l2 x24_1).f0)
       ·rw [if_pos c10] at H
        have c10b0 : decide (0 ≤ ((rd_T62 l2 x24_1).f0)) = true := decide_eq_true c10
        clear c10
        by_cases c11 : ((rd_T62 l2 x24_1).f0) < (t579.length : Int)
        ·rw [if_pos c11] at H
         have c11b0 : decide (((rd_T62 l2 x24_1).f0) < (t579.length : Int)) = true := decide_eq_true c11
         clear c11
         by_cases c12 : (rdOf ByteArray.empty t579 ((rd_T62 l2 x24_1).f0)).toList = ((rd_T62 l2 x24_1).f1).toList
         ·rw [if_pos c12] at H
          have c12b0 : ((rdOf ByteArray.empty t579 ((rd_T62 l2 x24_1).f0)).toList == ((rd_T62 l2 x24_1).f1).toList) = true := beq_iff_eq.mpr c12
          have c12b1 : ((rdOf ByteArray.empty t579 ((rd_T62 l2 x24_1).f0)).toList != ((rd_T62 l2 x24_1).f1).toList) = false := bne_eq_false_iff_eq.mpr c12
          clear c12
          have H' := Aside0.mk H
          clear H
          have p583 : 0 ≤ (x24_1 : Int) := of_decide_eq_true (by first | (with_reducible assumption) | assumption)
          have q583 : x24_1 < (l2.length : Int) := of_decide_eq_true (by first | (with_reducible assumption) | assumption)
          obtain ⟨ad583, e583, hx583_0, hx583_1⟩ := at_T62 HR2.out x24_1 p583 q583
          cases e583
          replace hx583_0 := (HB.out.cell (World.block_lt_of_cell? w _ hx583_0)).trans hx583_0
          replace hx583_1 := (HB.out.cell (World.block_lt_of_cell? w _ hx583_1)).trans hx583_1
          replace p583 := eq_true p583
          replace q583 := eq_true q583
          go_wp2_with (first | ((with_reducible refine gate_dst (N := 11) rfl ?_); refine box_event ?hg (N := 11) ?hd (cs := #[.int .i64 0, .string (⟨#[]⟩ : ByteArray)]) (t := 62) ?hr ?_; (case hd => rfl); (case hg => rfl); (case hr => first | (go_simp; done) | (go_simp; rfl)); intro gb584 hg w13 hbox hb; have n0_ := Aside0.mk (Kd.R_below (by (with_reducible repeat (first | apply Kd.R_alloc | apply Kd.R_drewN | apply Kd.R_drew)); exact HO_8.out) hb); have n1_ := Aside0.mk (below_step (by repeat (first | (with_reducible first | exact HB.out | apply below_alloc | apply pw_below_drewN | apply below_drew1) | exact HB.out)) hb); have n2_ := Aside0.mk (hbox); have n3_ := Aside0.mk ((by rw [hg]; exact (below_size (by repeat (first | (with_reducible first | exact HB.out | apply below_alloc | apply pw_below_drewN | apply below_drew1) | exact HB.out))) : w.heap.size ≤ gb584)); have n4_ := Aside0.mk ((by rw [hg]; exact (below_size (by repeat (first | (with_reducible first | exact HB.out | apply below_alloc | apply pw_below_drewN | apply below_drew1) | exact HB.out))) : w.heap.size ≤ gb584)); clear HO_8; clear HB; have HO_8 := n0_; have HB := n1_; have BK584 := n2_; have GW584 := n3_; have GE584 := n4_; clear n0_ n1_ n2_ n3_ n4_; clear hb hbox hg; have hcz14_0 : w13.cell? ⟨gb584, 0, none⟩ = some (.int .i64 0) := (blk_cell BK584.out 0).trans rfl; have hcz14_1 : w13.cell? ⟨gb584, 1, none⟩ = some (.string (⟨#[]⟩ : ByteArray)) := (blk_cell BK584.out 1).trans rfl; have hfz14_0 := blk_frozen BK584.out 0; have hfz14_1 := blk_frozen BK584.out 1; obtain ⟨Ao15, co15, eo15⟩ := Kd.R_slice HO_8.out; subst eo15; have p585 : 0 ≤ (((rd_T62 l2 x24_1).f0) : Int) := of_decide_eq_true (by first | (with_reducible assumption) | assumption); have q585 : ((rd_T62 l2 x24_1).f0) < (t579.length : Int) := of_decide_eq_true (by first | (with_reducible assumption) | assumption); obtain ⟨ad585, e585, hx585_0⟩ := Kd.at_string (Kd.R_reads' HO_8.out).2.2 ((rd_T62 l2 x24_1).f0) p585 q585; cases e585; have hn585_0 : ad585.block ≠ gb584 := Kd.own_blk (Kd.R_ne HO_8.out BK584.out (by decide)); have hn585_1 : ad585.block ≠ gb584 := Kd.own_blk (Kd.R_ne HO_8.out BK584.out (by decide)); replace hx585_0 := (cell_far (p := ⟨gb584, 0, none⟩) (by first | (rw [add_block]; exact hn585_0) | (show (Addr.add _ _).block ≠ _; rw [add_block]; exact hn585_0) | exact hn585_0) (.int .i64 ((rd_T62 l2 x24_1).f0))).trans hx585_0; replace hx585_0 := (cell_far (p := ⟨gb584, 1, none⟩) (by first | (rw [add_block]; exact hn585_1) | (show (Addr.add _ _).block ≠ _; rw [add_block]; exact hn585_1) | exact hn585_1) (.string ((rd_T62 l2 x24_1).f1))).trans hx585_0; (try have hy585_0 := fun (n_ : Nat) => (show ((((w13.drewN n_).setCell ⟨gb584, 0, none⟩ (.int .i64 ((rd_T62 l2 x24_1).f0))).setCell ⟨gb584, 1, none⟩ (.string ((rd_T62 l2 x24_1).f1)))).cell? _ = some _ from hx585_0)); clear hn585_0; clear hn585_1; replace p585 := eq_true p585; replace q585 := eq_true q585))
          repeat (go_quiet (first | ((with_reducible refine gate_dst (N := 11) rfl ?_); refine box_event ?hg (N := 11) ?hd (cs := #[.int .i64 0, .string (⟨#[]⟩ : ByteArray)]) (t := 62) ?hr ?_; (case hd => rfl); (case hg => rfl); (case hr => first | (go_simp; done) | (go_simp; rfl)); intro gb584 hg w13 hbox hb; have n0_ := Aside0.mk (Kd.R_below (by (with_reducible repeat (first | apply Kd.R_alloc | apply Kd.R_drewN | apply Kd.R_drew)); exact HO_8.out) hb); have n1_ := Aside0.mk (below_step (by repeat (first | (with_reducible first | exact HB.out | apply below_alloc | apply pw_below_drewN | apply below_drew1) | exact HB.out)) hb); have n2_ := Aside0.mk (hbox); have n3_ := Aside0.mk ((by rw [hg]; exact (below_size (by repeat (first | (with_reducible first | exact HB.out | apply below_alloc | apply pw_below_drewN | apply below_drew1) | exact HB.out))) : w.heap.size ≤ gb584)); have n4_ := Aside0.mk ((by rw [hg]; exact (below_size (by repeat (first | (with_reducible first | exact HB.out | apply below_alloc | apply pw_below_drewN | apply below_drew1) | exact HB.out))) : w.heap.size ≤ gb584)); clear HO_8; clear HB; have HO_8 := n0_; have HB := n1_; have BK584 := n2_; have GW584 := n3_; have GE584 := n4_; clear n0_ n1_ n2_ n3_ n4_; clear hb hbox hg; have hcz14_0 : w13.cell? ⟨gb584, 0, none⟩ = some (.int .i64 0) := (blk_cell BK584.out 0).trans rfl; have hcz14_1 : w13.cell? ⟨gb584, 1, none⟩ = some (.string (⟨#[]⟩ : ByteArray)) := (blk_cell BK584.out 1).trans rfl; have hfz14_0 := blk_frozen BK584.out 0; have hfz14_1 := blk_frozen BK584.out 1; obtain ⟨Ao15, co15, eo15⟩ := Kd.R_slice HO_8.out; subst eo15; have p585 : 0 ≤ (((rd_T62 l2 x24_1).f0) : Int) := of_decide_eq_true (by first | (with_reducible assumption) | assumption); have q585 : ((rd_T62 l2 x24_1).f0) < (t579.length : Int) := of_decide_eq_true (by first | (with_reducible assumption) | assumption); obtain ⟨ad585, e585, hx585_0⟩ := Kd.at_string (Kd.R_reads' HO_8.out).2.2 ((rd_T62 l2 x24_1).f0) p585 q585; cases e585; have hn585_0 : ad585.block ≠ gb584 := Kd.own_blk (Kd.R_ne HO_8.out BK584.out (by decide)); have hn585_1 : ad585.block ≠ gb584 := Kd.own_blk (Kd.R_ne HO_8.out BK584.out (by decide)); replace hx585_0 := (cell_far (p := ⟨gb584, 0, none⟩) (by first | (rw [add_block]; exact hn585_0) | (show (Addr.add _ _).block ≠ _; rw [add_block]; exact hn585_0) | exact hn585_0) (.int .i64 ((rd_T62 l2 x24_1).f0))).trans hx585_0; replace hx585_0 := (cell_far (p := ⟨gb584, 1, none⟩) (by first | (rw [add_block]; exact hn585_1) | (show (Addr.add _ _).block ≠ _; rw [add_block]; exact hn585_1) | exact hn585_1) (.string ((rd_T62 l2 x24_1).f1))).trans hx585_0; (try have hy585_0 := fun (n_ : Nat) => (show ((((w13.drewN n_).setCell ⟨gb584, 0, none⟩ (.int .i64 ((rd_T62 l2 x24_1).f0))).setCell ⟨gb584, 1, none⟩ (.string ((rd_T62 l2 x24_1).f1)))).cell? _ = some _ from hx585_0)); clear hn585_0; clear hn585_1; replace p585 := eq_true p585; replace q585 := eq_true q585)); try go_wp2_with (first | ((with_reducible refine gate_dst (N := 11) rfl ?_); refine box_event ?hg (N := 11) ?hd (cs := #[.int .i64 0, .string (⟨#[]⟩ : ByteArray)]) (t := 62) ?hr ?_; (case hd => rfl); (case hg => rfl); (case hr => first | (go_simp; done) | (go_simp; rfl)); intro gb584 hg w13 hbox hb; have n0_ := Aside0.mk (Kd.R_below (by (with_reducible repeat (first | apply Kd.R_alloc | apply Kd.R_drewN | apply Kd.R_drew)); exact HO_8.out) hb); have n1_ := Aside0.mk (below_step (by repeat (first | (with_reducible first | exact HB.out | apply below_alloc | apply pw_below_drewN | apply below_drew1) | exact HB.out)) hb); have n2_ := Aside0.mk (hbox); have n3_ := Aside0.mk ((by rw [hg]; exact (below_size (by repeat (first | (with_reducible first | exact HB.out | apply below_alloc | apply pw_below_drewN | apply below_drew1) | exact HB.out))) : w.heap.size ≤ gb584)); have n4_ := Aside0.mk ((by rw [hg]; exact (below_size (by repeat (first | (with_reducible first | exact HB.out | apply below_alloc | apply pw_below_drewN | apply below_drew1) | exact HB.out))) : w.heap.size ≤ gb584)); clear HO_8; clear HB; have HO_8 := n0_; have HB := n1_; have BK584 := n2_; have GW584 := n3_; have GE584 := n4_; clear n0_ n1_ n2_ n3_ n4_; clear hb hbox hg; have hcz14_0 : w13.cell? ⟨gb584, 0, none⟩ = some (.int .i64 0) := (blk_cell BK584.out 0).trans rfl; have hcz14_1 : w13.cell? ⟨gb584, 1, none⟩ = some (.string (⟨#[]⟩ : ByteArray)) := (blk_cell BK584.out 1).trans rfl; have hfz14_0 := blk_frozen BK584.out 0; have hfz14_1 := blk_frozen BK584.out 1; obtain ⟨Ao15, co15, eo15⟩ := Kd.R_slice HO_8.out; subst eo15; have p585 : 0 ≤ (((rd_T62 l2 x24_1).f0) : Int) := of_decide_eq_true (by first | (with_reducible assumption) | assumption); have q585 : ((rd_T62 l2 x24_1).f0) < (t579.length : Int) := of_decide_eq_true (by first | (with_reducible assumption) | assumption); obtain ⟨ad585, e585, hx585_0⟩ := Kd.at_string (Kd.R_reads' HO_8.out).2.2 ((rd_T62 l2 x24_1).f0) p585 q585; cases e585; have hn585_0 : ad585.block ≠ gb584 := Kd.own_blk (Kd.R_ne HO_8.out BK584.out (by decide)); have hn585_1 : ad585.block ≠ gb584 := Kd.own_blk (Kd.R_ne HO_8.out BK584.out (by decide)); replace hx585_0 := (cell_far (p := ⟨gb584, 0, none⟩) (by first | (rw [add_block]; exact hn585_0) | (show (Addr.add _ _).block ≠ _; rw [add_block]; exact hn585_0) | exact hn585_0) (.int .i64 ((rd_T62 l2 x24_1).f0))).trans hx585_0; replace hx585_0 := (cell_far (p := ⟨gb584, 1, none⟩) (by first | (rw [add_block]; exact hn585_1) | (show (Addr.add _ _).block ≠ _; rw [add_block]; exact hn585_1) | exact hn585_1) (.string ((rd_T62 l2 x24_1).f1))).trans hx585_0; (try have hy585_0 := fun (n_ : Nat) => (show ((((w13.drewN n_).setCell ⟨gb584, 0, none⟩ (.int .i64 ((rd_T62 l2 x24_1).f0))).setCell ⟨gb584, 1, none⟩ (.string ((rd_T62 l2 x24_1).f1)))).cell? _ = some _ from hx585_0)); clear hn585_0; clear hn585_1; replace p585 := eq_true p585; replace q585 := eq_true q585)))
          go_roundg k1
          case measure => have := HK1.out; omega
          case rel => exact ⟨(wrap64 (x24_1 + 1)), (by first | rfl | (simp; done) | (simp [*]; done)), H', ⟨by have := HK1.out; omega⟩, ⟨by (with_reducible repeat (first | apply Kd.R_alloc | apply Kd.R_drewN | apply Kd.R_drew)); exact Kd.R_mono (Kd.R_far (p := ⟨gb584, 1, none⟩) (Kd.R_far (p := ⟨gb584, 0, none⟩) (Kd.R_types HO_8.out BK584.out (by decide)) (fun _ hk => hk.2) (.int .i64 ((rd_T62 l2 x24_1).f0))) (fun _ hk => hk.2) (.string ((rd_T62 l2 x24_1).f1))) (fun _ hk => trivial)⟩, ⟨by repeat (first | (with_reducible first | exact HB.out | apply below_alloc | apply pw_below_drewN | apply below_drew1 | refine below_set ?_ GE584.out) | exact HB.out)⟩⟩
         ·rw [if_neg c12] at H
          have c12b0 : ((rdOf ByteArray.empty t579 ((rd_T62 l2 x24_1).f0)).toList == ((rd_T62 l2 x24_1).f1).toList) = false := beq_eq_false_iff_ne.mpr c12
          have c12b1 : ((rdOf ByteArray.empty t579 ((rd_T62 l2 x24_1).f0)).toList != ((rd_T62 l2 x24_1).f1).toList) = true := bne_iff_ne.mpr c12
          simp only [Option.some.injEq, Prod.mk.injEq] at H
          obtain ⟨rfl, rfl⟩ := H
          have p583 : 0 ≤ (x24_1 : Int) := of_decide_eq_true (by first | (with_reducible assumption) | assumption)
          have q583 : x24_1 < (l2.length : Int) := of_decide_eq_true (by first | (with_reducible assumption) | assumption)
          obtain ⟨ad583, e583, hx583_0, hx583_1⟩ := at_T62 HR2.out x24_1 p583 q583
          cases e583
          replace hx583_0 := (HB.out.cell (World.block_lt_of_cell? w _ hx583_0)).trans hx583_0
          replace hx583_1 := (HB.out.cell (World.block_lt_of_cell? w _ hx583_1)).trans hx583_1
          replace p583 := eq_true p583
          replace q583 := eq_true q583
          go_wp2_with (first | ((with_reducible refine gate_dst (N := 11) rfl ?_); refine box_event ?hg (N := 11) ?hd (cs := #[.int .i64 0, .string (⟨#[]⟩ : ByteArray)]) (t := 62) ?hr ?_; (case hd => rfl); (case hg => rfl); (case hr => first | (go_simp; done) | (go_simp; rfl)); intro gb584 hg w16 hbox hb; have n0_ := Aside0.mk (Kd.R_below (by (with_reducible repeat (first | apply Kd.R_alloc | apply Kd.R_drewN | apply Kd.R_drew)); exact HO_8.out) hb); have n1_ := Aside0.mk (below_step (by repeat (first | (with_reducible first | exact HB.out | apply below_alloc | apply pw_below_drewN | apply below_drew1) | exact HB.out)) hb); have n2_ := Aside0.mk (hbox); have n3_ := Aside0.mk ((by rw [hg]; exact (below_size (by repeat (first | (with_reducible first | exact HB.out | apply below_alloc | apply pw_below_drewN | apply below_drew1) | exact HB.out))) : w.heap.size ≤ gb584)); have n4_ := Aside0.mk ((by rw [hg]; exact (below_size (by repeat (first | (with_reducible first | exact HB.out | apply below_alloc | apply pw_below_drewN | apply below_drew1) | exact HB.out))) : w.heap.size ≤ gb584)); clear HO_8; clear HB; have HO_8 := n0_; have HB := n1_; have BK584 := n2_; have GW584 := n3_; have GE584 := n4_; clear n0_ n1_ n2_ n3_ n4_; clear hb hbox hg; have hcz17_0 : w16.cell? ⟨gb584, 0, none⟩ = some (.int .i64 0) := (blk_cell BK584.out 0).trans rfl; have hcz17_1 : w16.cell? ⟨gb584, 1, none⟩ = some (.string (⟨#[]⟩ : ByteArray)) := (blk_cell BK584.out 1).trans rfl; have hfz17_0 := blk_frozen BK584.out 0; have hfz17_1 := blk_frozen BK584.out 1; obtain ⟨Ao18, co18, eo18⟩ := Kd.R_slice HO_8.out; subst eo18; have p585 : 0 ≤ (((rd_T62 l2 x24_1).f0) : Int) := of_decide_eq_true (by first | (with_reducible assumption) | assumption); have q585 : ((rd_T62 l2 x24_1).f0) < (t579.length : Int) := of_decide_eq_true (by first | (with_reducible assumption) | assumption); obtain ⟨ad585, e585, hx585_0⟩ := Kd.at_string (Kd.R_reads' HO_8.out).2.2 ((rd_T62 l2 x24_1).f0) p585 q585; cases e585; have hn585_0 : ad585.block ≠ gb584 := Kd.own_blk (Kd.R_ne HO_8.out BK584.out (by decide)); have hn585_1 : ad585.block ≠ gb584 := Kd.own_blk (Kd.R_ne HO_8.out BK584.out (by decide)); replace hx585_0 := (cell_far (p := ⟨gb584, 0, none⟩) (by first | (rw [add_block]; exact hn585_0) | (show (Addr.add _ _).block ≠ _; rw [add_block]; exact hn585_0) | exact hn585_0) (.int .i64 ((rd_T62 l2 x24_1).f0))).trans hx585_0; replace hx585_0 := (cell_far (p := ⟨gb584, 1, none⟩) (by first | (rw [add_block]; exact hn585_1) | (show (Addr.add _ _).block ≠ _; rw [add_block]; exact hn585_1) | exact hn585_1) (.string ((rd_T62 l2 x24_1).f1))).trans hx585_0; (try have hy585_0 := fun (n_ : Nat) => (show ((((w16.drewN n_).setCell ⟨gb584, 0, none⟩ (.int .i64 ((rd_T62 l2 x24_1).f0))).setCell ⟨gb584, 1, none⟩ (.string ((rd_T62 l2 x24_1).f1)))).cell? _ = some _ from hx585_0)); clear hn585_0; clear hn585_1; replace p585 := eq_true p585; replace q585 := eq_true q585))
          repeat (go_quiet (first | ((with_reducible refine gate_dst (N := 11) rfl ?_); refine box_event ?hg (N := 11) ?hd (cs := #[.int .i64 0, .string (⟨#[]⟩ : ByteArray)]) (t := 62) ?hr ?_; (case hd => rfl); (case hg => rfl); (case hr => first | (go_simp; done) | (go_simp; rfl)); intro gb584 hg w16 hbox hb; have n0_ := Aside0.mk (Kd.R_below (by (with_reducible repeat (first | apply Kd.R_alloc | apply Kd.R_drewN | apply Kd.R_drew)); exact HO_8.out) hb); have n1_ := Aside0.mk (below_step (by repeat (first | (with_reducible first | exact HB.out | apply below_alloc | apply pw_below_drewN | apply below_drew1) | exact HB.out)) hb); have n2_ := Aside0.mk (hbox); have n3_ := Aside0.mk ((by rw [hg]; exact (below_size (by repeat (first | (with_reducible first | exact HB.out | apply below_alloc | apply pw_below_drewN | apply below_drew1) | exact HB.out))) : w.heap.size ≤ gb584)); have n4_ := Aside0.mk ((by rw [hg]; exact (below_size (by repeat (first | (with_reducible first | exact HB.out | apply below_alloc | apply pw_below_drewN | apply below_drew1) | exact HB.out))) : w.heap.size ≤ gb584)); clear HO_8; clear HB; have HO_8 := n0_; have HB := n1_; have BK584 := n2_; have GW584 := n3_; have GE584 := n4_; clear n0_ n1_ n2_ n3_ n4_; clear hb hbox hg; have hcz17_0 : w16.cell? ⟨gb584, 0, none⟩ = some (.int .i64 0) := (blk_cell BK584.out 0).trans rfl; have hcz17_1 : w16.cell? ⟨gb584, 1, none⟩ = some (.string (⟨#[]⟩ : ByteArray)) := (blk_cell BK584.out 1).trans rfl; have hfz17_0 := blk_frozen BK584.out 0; have hfz17_1 := blk_frozen BK584.out 1; obtain ⟨Ao18, co18, eo18⟩ := Kd.R_slice HO_8.out; subst eo18; have p585 : 0 ≤ (((rd_T62 l2 x24_1).f0) : Int) := of_decide_eq_true (by first | (with_reducible assumption) | assumption); have q585 : ((rd_T62 l2 x24_1).f0) < (t579.length : Int) := of_decide_eq_true (by first | (with_reducible assumption) | assumption); obtain ⟨ad585, e585, hx585_0⟩ := Kd.at_string (Kd.R_reads' HO_8.out).2.2 ((rd_T62 l2 x24_1).f0) p585 q585; cases e585; have hn585_0 : ad585.block ≠ gb584 := Kd.own_blk (Kd.R_ne HO_8.out BK584.out (by decide)); have hn585_1 : ad585.block ≠ gb584 := Kd.own_blk (Kd.R_ne HO_8.out BK584.out (by decide)); replace hx585_0 := (cell_far (p := ⟨gb584, 0, none⟩) (by first | (rw [add_block]; exact hn585_0) | (show (Addr.add _ _).block ≠ _; rw [add_block]; exact hn585_0) | exact hn585_0) (.int .i64 ((rd_T62 l2 x24_1).f0))).trans hx585_0; replace hx585_0 := (cell_far (p := ⟨gb584, 1, none⟩) (by first | (rw [add_block]; exact hn585_1) | (show (Addr.add _ _).block ≠ _; rw [add_block]; exact hn585_1) | exact hn585_1) (.string ((rd_T62 l2 x24_1).f1))).trans hx585_0; (try have hy585_0 := fun (n_ : Nat) => (show ((((w16.drewN n_).setCell ⟨gb584, 0, none⟩ (.int .i64 ((rd_T62 l2 x24_1).f0))).setCell ⟨gb584, 1, none⟩ (.string ((rd_T62 l2 x24_1).f1)))).cell? _ = some _ from hx585_0)); clear hn585_0; clear hn585_1; replace p585 := eq_true p585; replace q585 := eq_true q585)); try go_wp2_with (first | ((with_reducible refine gate_dst (N := 11) rfl ?_); refine box_event ?hg (N := 11) ?hd (cs := #[.int .i64 0, .string (⟨#[]⟩ : ByteArray)]) (t := 62) ?hr ?_; (case hd => rfl); (case hg => rfl); (case hr => first | (go_simp; done) | (go_simp; rfl)); intro gb584 hg w16 hbox hb; have n0_ := Aside0.mk (Kd.R_below (by (with_reducible repeat (first | apply Kd.R_alloc | apply Kd.R_drewN | apply Kd.R_drew)); exact HO_8.out) hb); have n1_ := Aside0.mk (below_step (by repeat (first | (with_reducible first | exact HB.out | apply below_alloc | apply pw_below_drewN | apply below_drew1) | exact HB.out)) hb); have n2_ := Aside0.mk (hbox); have n3_ := Aside0.mk ((by rw [hg]; exact (below_size (by repeat (first | (with_reducible first | exact HB.out | apply below_alloc | apply pw_below_drewN | apply below_drew1) | exact HB.out))) : w.heap.size ≤ gb584)); have n4_ := Aside0.mk ((by rw [hg]; exact (below_size (by repeat (first | (with_reducible first | exact HB.out | apply below_alloc | apply pw_below_drewN | apply below_drew1) | exact HB.out))) : w.heap.size ≤ gb584)); clear HO_8; clear HB; have HO_8 := n0_; have HB := n1_; have BK584 := n2_; have GW584 := n3_; have GE584 := n4_; clear n0_ n1_ n2_ n3_ n4_; clear hb hbox hg; have hcz17_0 : w16.cell? ⟨gb584, 0, none⟩ = some (.int .i64 0) := (blk_cell BK584.out 0).trans rfl; have hcz17_1 : w16.cell? ⟨gb584, 1, none⟩ = some (.string (⟨#[]⟩ : ByteArray)) := (blk_cell BK584.out 1).trans rfl; have hfz17_0 := blk_frozen BK584.out 0; have hfz17_1 := blk_frozen BK584.out 1; obtain ⟨Ao18, co18, eo18⟩ := Kd.R_slice HO_8.out; subst eo18; have p585 : 0 ≤ (((rd_T62 l2 x24_1).f0) : Int) := of_decide_eq_true (by first | (with_reducible assumption) | assumption); have q585 : ((rd_T62 l2 x24_1).f0) < (t579.length : Int) := of_decide_eq_true (by first | (with_reducible assumption) | assumption); obtain ⟨ad585, e585, hx585_0⟩ := Kd.at_string (Kd.R_reads' HO_8.out).2.2 ((rd_T62 l2 x24_1).f0) p585 q585; cases e585; have hn585_0 : ad585.block ≠ gb584 := Kd.own_blk (Kd.R_ne HO_8.out BK584.out (by decide)); have hn585_1 : ad585.block ≠ gb584 := Kd.own_blk (Kd.R_ne HO_8.out BK584.out (by decide)); replace hx585_0 := (cell_far (p := ⟨gb584, 0, none⟩) (by first | (rw [add_block]; exact hn585_0) | (show (Addr.add _ _).block ≠ _; rw [add_block]; exact hn585_0) | exact hn585_0) (.int .i64 ((rd_T62 l2 x24_1).f0))).trans hx585_0; replace hx585_0 := (cell_far (p := ⟨gb584, 1, none⟩) (by first | (rw [add_block]; exact hn585_1) | (show (Addr.add _ _).block ≠ _; rw [add_block]; exact hn585_1) | exact hn585_1) (.string ((rd_T62 l2 x24_1).f1))).trans hx585_0; (try have hy585_0 := fun (n_ : Nat) => (show ((((w16.drewN n_).setCell ⟨gb584, 0, none⟩ (.int .i64 ((rd_T62 l2 x24_1).f0))).setCell ⟨gb584, 1, none⟩ (.string ((rd_T62 l2 x24_1).f1)))).cell? _ = some _ from hx585_0)); clear hn585_0; clear hn585_1; replace p585 := eq_true p585; replace q585 := eq_true q585)))
          go_ret2
          exact ⟨by first | rfl | (simp [errW_none, errW_some] <;> rfl) | (simp [*, errW_none, errW_some] <;> rfl), by repeat (first | (with_reducible first | exact HB.out | apply below_alloc | apply pw_below_drewN | apply below_drew1 | refine below_set ?_ GE584.out) | exact HB.out)⟩
        ·rw [if_neg c11] at H
         exact absurd H (by simp)
       ·rw [if_neg c10] at H
        exact absurd H (by simp)
      ·rw [if_neg c9] at H
       exact absurd H (by simp)
     ·rw [if_neg c8] at H
      exact absurd H (by simp)
    ·rw [if_neg c7] at H
     have c7b0 : decide (x24_1 < (l2.length : Int)) = false := decide_eq_false c7
     clear c7
     simp only [Option.some.injEq, Prod.mk.injEq] at H
     obtain ⟨rfl, rfl⟩ := H
     go_wp2
     repeat (go_quiet (fail); try go_wp2)
     go_ret2
     exact ⟨by first | rfl | (simp [errW_none, errW_some] <;> rfl) | (simp [*, errW_none, errW_some] <;> rfl), by repeat (first | (with_reducible first | exact HB.out | apply below_alloc | apply pw_below_drewN | apply below_drew1) | exact HB.out)⟩
 ·rw [if_neg c5] at H
  have c5b0 : (t580 == 0) = false := beq_eq_false_iff_ne.mpr c5
  have c5b1 : (t580 != 0) = true := bne_iff_ne.mpr c5
  simp only [Option.some.injEq, Prod.mk.injEq] at H
  obtain ⟨rfl, rfl⟩ := H
  go_enter Tryd.func45, Tryd.ntmps45
  go_wp2_with (first | (go_at_call 65; (with_reducible refine (mend_all.calls k a0 a1 _ _ l2 t579 t580 _ ?side1 ?side2 A4.out).mono ?_); (case side1 => repeat (first | exact HR2.out | (with_reducible refine Kd.C_alloc ?_ _) | (with_reducible refine Kd.C_drewN ?_ _) | (with_reducible refine Kd.C_drew ?_))); (case side2 => exact HC2.out); rintro e w19 ⟨v581, rfl, ho0, hb⟩; have n0_ := Aside0.mk (Kd.R_lower ho0 (below_size (by repeat (first | (with_reducible first | exact HB.out | apply below_alloc | apply pw_below_drewN | apply below_drew1) | exact HB.out)))); have n1_ := Aside0.mk (below_step (by repeat (first | (with_reducible first | exact HB.out | apply below_alloc | apply pw_below_drewN | apply below_drew1) | exact HB.out)) hb); clear HB; have HO582 := n0_; have HB := n1_; clear n0_ n1_; (try clear hb); (try clear hb2); (try clear hk); (try clear hi); (try clear ho0)))
  repeat (go_quiet (first | (go_at_call 65; (with_reducible refine (mend_all.calls k a0 a1 _ _ l2 t579 t580 _ ?side1 ?side2 A4.out).mono ?_); (case side1 => repeat (first | exact HR2.out | (with_reducible refine Kd.C_alloc ?_ _) | (with_reducible refine Kd.C_drewN ?_ _) | (with_reducible refine Kd.C_drew ?_))); (case side2 => exact HC2.out); rintro e w19 ⟨v581, rfl, ho0, hb⟩; have n0_ := Aside0.mk (Kd.R_lower ho0 (below_size (by repeat (first | (with_reducible first | exact HB.out | apply below_alloc | apply pw_below_drewN | apply below_drew1) | exact HB.out)))); have n1_ := Aside0.mk (below_step (by repeat (first | (with_reducible first | exact HB.out | apply below_alloc | apply pw_below_drewN | apply below_drew1) | exact HB.out)) hb); clear HB; have HO582 := n0_; have HB := n1_; clear n0_ n1_; (try clear hb); (try clear hb2); (try clear hk); (try clear hi); (try clear ho0))); try go_wp2_with (first | (go_at_call 65; (with_reducible refine (mend_all.calls k a0 a1 _ _ l2 t579 t580 _ ?side1 ?side2 A4.out).mono ?_); (case side1 => repeat (first | exact HR2.out | (with_reducible refine Kd.C_alloc ?_ _) | (with_reducible refine Kd.C_drewN ?_ _) | (with_reducible refine Kd.C_drew ?_))); (case side2 => exact HC2.out); rintro e w19 ⟨v581, rfl, ho0, hb⟩; have n0_ := Aside0.mk (Kd.R_lower ho0 (below_size (by repeat (first | (with_reducible first | exact HB.out | apply below_alloc | apply pw_below_drewN | apply below_drew1) | exact HB.out)))); have n1_ := Aside0.mk (below_step (by repeat (first | (with_reducible first | exact HB.out | apply below_alloc | apply pw_below_drewN | apply below_drew1) | exact HB.out)) hb); clear HB; have HO582 := n0_; have HB := n1_; clear n0_ n1_; (try clear hb); (try clear hb2); (try clear hk); (try clear hi); (try clear ho0))))
  go_ret2
  exact ⟨by first | rfl | (simp [errW_none, errW_some] <;> rfl) | (simp [*, errW_none, errW_some] <;> rfl), by repeat (first | (with_reducible first | exact HB.out | apply below_alloc | apply pw_below_drewN | apply below_drew1) | exact HB.out)⟩

end Go.Proofs.YtegmmefijihdeaaDoor.PS
namespace Go.Proofs.YtegmmefijihdeaaDoor.PS
open Go.RowKit Go.Proofs.YtegmmefijihdeaaDoorW.PrintWords Go.Proofs.YtegmmefijihdeaaDoorW.PrintLast Go.Proofs.YtegmmefijihdeaaDoorW.PrintMore Go.Proofs.YtegmmefijihdeaaDoor.Gf Go.Proofs.YtegmmefijihdeaaDoor.Fld Go.Proofs.YtegmmefijihdeaaDoor.Grd Go.Proofs.YtegmmefijihdeaaDoor.Rowb
set_option linter.unusedVariables false
set_option linter.unusedSimpArgs false
def oneV (L : List ByteArray) (q : Int) : ByteArray × Int := if q < 0 then (⟨#[]⟩, 1) else if q ≥ (L.length : Int) then (⟨#[]⟩, 1) else (rdOf ByteArray.empty L q, 0)
def agGo (L : List ByteArray) (l : List S62) : Nat → Nat → Bool
  | 0, _ => true
  | d + 1, i => if (rdOf ByteArray.empty L (rd_T62 l (i : Int)).f0).toList = (rd_T62 l (i : Int)).f1.toList then agGo L l d (i + 1) else false
def agreeB (L : List ByteArray) (l : List S62) : Bool := agGo L l l.length 0
theorem oneV_eq (L : List ByteArray) (q : Int) : (if q < 0 then (some ((⟨#[]⟩ : ByteArray), (1 : Int))) else (if q ≥ (L.length : Int) then (some ((⟨#[]⟩ : ByteArray), 1)) else (if 0 ≤ q then (if q < (L.length : Int) then (some (rdOf ByteArray.empty L q, 0)) else (none)) else (none)))) = some (oneV L q) := by
  unfold oneV
  by_cases h1 : q < 0
  · rw [if_pos h1, if_pos h1]
  · rw [if_neg h1, if_neg h1]
    by_cases h2 : q ≥ (L.length : Int)
    · rw [if_pos h2, if_pos h2]
    · rw [if_neg h2, if_neg h2, if_pos (by omega), if_pos (by omega)]
section
variable {K M : Nat} {l : List S62} (g : Good K M l)
include g
theorem Good.one_f (q : Int) (n : Nat) (hn : 256 ≤ n) : mend_One.f n (K : Int) (M : Int) l q = some (oneV (allL K M (shardN l) (dataL K M l)) q) := by
  unfold mend_One.f
  rw [g.all_f n hn, Option.bind_some, if_pos rfl]
  exact oneV_eq _ q
theorem Good.agree_from (hl : l.length < 9223372036854775807) (d : Nat) : ∀ i, i + d = l.length → ∀ k, d + 1 ≤ k → mend_Agree.l0 k (allL K M (shardN l) (dataL K M l)) l (l.length : Int) (i : Int) = some (agGo (allL K M (shardN l) (dataL K M l)) l d i, 0) := by
  have hal : (allL K M (shardN l) (dataL K M l)).length = K + M := allL_len g.dataLen
  induction d with
  | zero =>
    intro i hi k hk
    obtain ⟨m, rfl, _⟩ := pred_of (K := 0) hk
    simp only [mend_Agree.l0]
    rw [if_neg (by omega)]
    rfl
  | succ d ih =>
    intro i hi k hk
    obtain ⟨m, rfl, hm⟩ := pred_of hk
    have hil : i < l.length := by omega
    have hr := g.rng i hil
    simp only [mend_Agree.l0]
    unfold agGo
    rw [rdT_nat l i hil, if_pos (by omega), if_pos (by omega), if_pos (by omega), if_pos hr.1, if_pos (by rw [hal]; push_cast; exact hr.2)]
    by_cases e : (rdOf ByteArray.empty (allL K M (shardN l) (dataL K M l)) l[i].f0).toList = l[i].f1.toList
    · rw [if_pos e, if_pos e, w64_in ((i : Int) + 1) (by omega) (by omega)]
      exact ih (i + 1) (by omega) m hm
    · rw [if_neg e, if_neg e]
theorem Good.agree_f (n : Nat) (hn : l.length + 256 ≤ n) (hl : l.length < 9223372036854775807) : mend_Agree.f n (K : Int) (M : Int) l = some (agreeB (allL K M (shardN l) (dataL K M l)) l, 0) := by
  unfold mend_Agree.f
  rw [g.all_f n (by omega), Option.bind_some, if_pos rfl]
  exact g.agree_from hl l.length 0 (by omega) n (by omega)
end
end Go.Proofs.YtegmmefijihdeaaDoor.PS
namespace Go.Proofs.YtegmmefijihdeaaDoor.PS
open Go.RowKit Go.Proofs.YtegmmefijihdeaaDoorW.PrintWords Go.Proofs.YtegmmefijihdeaaDoorW.PrintLast Go.Proofs.YtegmmefijihdeaaDoorW.PrintMore
attribute [local go_sem] Mk.str_leq Mk.str_gtr Mk.str_geq max2_int min2_int max_two min_two max_three min_three max_four min_four   -- for this text's walks alone
set_option linter.unusedVariables false
set_option linter.unusedSimpArgs false

/-! ### corncribref02_Check: function 91 -/
def corncribref02_Check.f (a0_0 : Int) (a0_1 : Int) (a0_2 : ByteArray) : Option (Int) := if a0_0 < 1 then (some 4) else (if a0_0 > 255 then (some 4) else (if a0_1 < 1 then (some 4) else (if a0_1 > 255 then (some 4) else (if (a0_2.size : Int) = (wrap64 (a0_0 * a0_1)) then (some 0) else (some 4)))))
set_option maxHeartbeats 8000000 in
set_option maxRecDepth 100000 in
theorem corncribref02_Check.calls (a0_0 : Int) (a0_1 : Int) (a0_2 : ByteArray) (r : Int) (w : World) (h : corncribref02_Check.f a0_0 a0_1 a0_2 = some r) :
  Calls Tryd.prog 91 #[.agg #[.int .i64 a0_0, .int .i64 a0_1, .string a0_2]] w fun e w' => e = .returned (.int .i64 r) ∧ Below w.heap.size w w' := by
 have hu74 := Tryd.underlying74
 have HB := Aside0.mk (Below.refl w.heap.size w)
 have H : (if a0_0 < 1 then (some 4) else (if a0_0 > 255 then (some 4) else (if a0_1 < 1 then (some 4) else (if a0_1 > 255 then (some 4) else (if (a0_2.size : Int) = (wrap64 (a0_0 * a0_1)) then (some 0) else (some 4)))))) = some r := h
 clear h
 by_cases c2 : a0_0 < 1
 ·rw [if_pos c2] at H
  have c2b0 : decide (a0_0 < 1) = true := decide_eq_true c2
  clear c2
  obtain rfl := Option.some.inj H
  go_enter Tryd.func91, Tryd.ntmps91
  go_wp2_with (first | ((with_reducible refine gate_dst (N := 1) rfl ?_); (try (refine gate_guard (by rfl) ?_; dsimp only)); refine box_event ?hg (N := 1) ?hd (cs := #[.int .i64 a0_0, .int .i64 a0_1, .string a0_2]) (t := 74) ?hr ?_; (case hd => rfl); (case hg => rfl); (case hr => first | (go_simp; done) | (go_simp; rfl)); intro gb413 hg w3 hbox hb; have n0_ := Aside0.mk (below_step (by repeat (first | (with_reducible first | exact HB.out | apply below_alloc | apply pw_below_drewN | apply below_drew1) | exact HB.out)) hb); have n1_ := Aside0.mk (hbox); have n2_ := Aside0.mk ((by rw [hg]; exact (below_size (by repeat (first | (with_reducible first | exact HB.out | apply below_alloc | apply pw_below_drewN | apply below_drew1) | exact HB.out))) : w.heap.size ≤ gb413)); have n3_ := Aside0.mk ((by rw [hg]; exact (below_size (by repeat (first | (with_reducible first | exact HB.out | apply below_alloc | apply pw_below_drewN | apply below_drew1) | exact HB.out))) : w.heap.size ≤ gb413)); clear HB; have HB := n0_; have BK413 := n1_; have GW413 := n2_; have GE413 := n3_; clear n0_ n1_ n2_ n3_; clear hb hbox hg; have hcz4_0 : w3.cell? ⟨gb413, 0, none⟩ = some (.int .i64 a0_0) := (blk_cell BK413.out 0).trans rfl; have hcz4_1 : w3.cell? ⟨gb413, 1, none⟩ = some (.int .i64 a0_1) := (blk_cell BK413.out 1).trans rfl; have hcz4_2 : w3.cell? ⟨gb413, 2, none⟩ = some (.string a0_2) := (blk_cell BK413.out 2).trans rfl; have hfz4_0 := blk_frozen BK413.out 0; have hfz4_1 := blk_frozen BK413.out 1; have hfz4_2 := blk_frozen BK413.out 2))
  go_ret
  exact ⟨by first | rfl | (simp [errW_none, errW_some] <;> rfl) | (simp [*, errW_none, errW_some] <;> rfl), by repeat (first | (with_reducible first | exact HB.out | apply below_alloc | apply pw_below_drewN | apply below_drew1 | refine below_set ?_ GE413.out) | exact HB.out)⟩
 ·rw [if_neg c2] at H
  have c2b0 : decide (a0_0 < 1) = false := decide_eq_false c2
  clear c2
  by_cases c5 : a0_0 > 255
  ·rw [if_pos c5] at H
   have c5b0 : decide (255 < a0_0) = true := decide_eq_true c5
   clear c5
   obtain rfl := Option.some.inj H
   go_enter Tryd.func91, Tryd.ntmps91
   go_wp2_with (first | ((with_reducible refine gate_dst (N := 1) rfl ?_); (try (refine gate_guard (by rfl) ?_; dsimp only)); refine box_event ?hg (N := 1) ?hd (cs := #[.int .i64 a0_0, .int .i64 a0_1, .string a0_2]) (t := 74) ?hr ?_; (case hd => rfl); (case hg => rfl); (case hr => first | (go_simp; done) | (go_simp; rfl)); intro gb413 hg w6 hbox hb; have n0_ := Aside0.mk (below_step (by repeat (first | (with_reducible first | exact HB.out | apply below_alloc | apply pw_below_drewN | apply below_drew1) | exact HB.out)) hb); have n1_ := Aside0.mk (hbox); have n2_ := Aside0.mk ((by rw [hg]; exact (below_size (by repeat (first | (with_reducible first | exact HB.out | apply below_alloc | apply pw_below_drewN | apply below_drew1) | exact HB.out))) : w.heap.size ≤ gb413)); have n3_ := Aside0.mk ((by rw [hg]; exact (below_size (by repeat (first | (with_reducible first | exact HB.out | apply below_alloc | apply pw_below_drewN | apply below_drew1) | exact HB.out))) : w.heap.size ≤ gb413)); clear HB; have HB := n0_; have BK413 := n1_; have GW413 := n2_; have GE413 := n3_; clear n0_ n1_ n2_ n3_; clear hb hbox hg; have hcz7_0 : w6.cell? ⟨gb413, 0, none⟩ = some (.int .i64 a0_0) := (blk_cell BK413.out 0).trans rfl; have hcz7_1 : w6.cell? ⟨gb413, 1, none⟩ = some (.int .i64 a0_1) := (blk_cell BK413.out 1).trans rfl; have hcz7_2 : w6.cell? ⟨gb413, 2, none⟩ = some (.string a0_2) := (blk_cell BK413.out 2).trans rfl; have hfz7_0 := blk_frozen BK413.out 0; have hfz7_1 := blk_frozen BK413.out 1; have hfz7_2 := blk_frozen BK413.out 2))
   go_ret
   exact ⟨by first | rfl | (simp [errW_none, errW_some] <;> rfl) | (simp [*, errW_none, errW_some] <;> rfl), by repeat (first | (with_reducible first | exact HB.out | apply below_alloc | apply pw_below_drewN | apply below_drew1 | refine below_set ?_ GE413.out) | exact HB.out)⟩
  ·rw [if_neg c5] at H
   have c5b0 : decide (255 < a0_0) = false := decide_eq_false c5
   clear c5
   by_cases c8 : a0_1 < 1
   ·rw [if_pos c8] at H
    have c8b0 : decide (a0_1 < 1) = true := decide_eq_true c8
    clear c8
    obtain rfl := Option.some.inj H
    go_enter Tryd.func91, Tryd.ntmps91
    go_wp2_with (first | ((with_reducible refine gate_dst (N := 1) rfl ?_); (try (refine gate_guard (by rfl) ?_; dsimp only)); refine box_event ?hg (N := 1) ?hd (cs := #[.int .i64 a0_0, .int .i64 a0_1, .string a0_2]) (t := 74) ?hr ?_; (case hd => rfl); (case hg => rfl); (case hr => first | (go_simp; done) | (go_simp; rfl)); intro gb413 hg w9 hbox hb; have n0_ := Aside0.mk (below_step (by repeat (first | (with_reducible first | exact HB.out | apply below_alloc | apply pw_below_drewN | apply below_drew1) | exact HB.out)) hb); have n1_ := Aside0.mk (hbox); have n2_ := Aside0.mk ((by rw [hg]; exact (below_size (by repeat (first | (with_reducible first | exact HB.out | apply below_alloc | apply pw_below_drewN | apply below_drew1) | exact HB.out))) : w.heap.size ≤ gb413)); have n3_ := Aside0.mk ((by rw [hg]; exact (below_size (by repeat (first | (with_reducible first | exact HB.out | apply below_alloc | apply pw_below_drewN | apply below_drew1) | exact HB.out))) : w.heap.size ≤ gb413)); clear HB; have HB := n0_; have BK413 := n1_; have GW413 := n2_; have GE413 := n3_; clear n0_ n1_ n2_ n3_; clear hb hbox hg; have hcz10_0 : w9.cell? ⟨gb413, 0, none⟩ = some (.int .i64 a0_0) := (blk_cell BK413.out 0).trans rfl; have hcz10_1 : w9.cell? ⟨gb413, 1, none⟩ = some (.int .i64 a0_1) := (blk_cell BK413.out 1).trans rfl; have hcz10_2 : w9.cell? ⟨gb413, 2, none⟩ = some (.string a0_2) := (blk_cell BK413.out 2).trans rfl; have hfz10_0 := blk_frozen BK413.out 0; have hfz10_1 := blk_frozen BK413.out 1; have hfz10_2 := blk_frozen BK413.out 2))
    go_ret
    exact ⟨by first | rfl | (simp [errW_none, errW_some] <;> rfl) | (simp [*, errW_none, errW_some] <;> rfl), by repeat (first | (with_reducible first | exact HB.out | apply below_alloc | apply pw_below_drewN | apply below_drew1 | refine below_set ?_ GE413.out) | exact HB.out)⟩
   ·rw [if_neg c8] at H
    have c8b0 : decide (a0_1 < 1) = false := decide_eq_false c8
    clear c8
    by_cases c11 : a0_1 > 255
    ·rw [if_pos c11] at H
     have c11b0 : decide (255 < a0_1) = true := decide_eq_true c11
     clear c11
     obtain rfl := Option.some.inj H
     go_enter Tryd.func91, Tryd.ntmps91
     go_wp2_with (first | ((with_reducible refine gate_dst (N := 1) rfl ?_); (try (refine gate_guard (by rfl) ?_; dsimp only)); refine box_event ?hg (N := 1) ?hd (cs := #[.int .i64 a0_0, .int .i64 a0_1, .string a0_2]) (t := 74) ?hr ?_; (case hd => rfl); (case hg => rfl); (case hr => first | (go_simp; done) | (go_simp; rfl)); intro gb413 hg w12 hbox hb; have n0_ := Aside0.mk (below_step (by repeat (first | (with_reducible first | exact HB.out | apply below_alloc | apply pw_below_drewN | apply below_drew1) | exact HB.out)) hb); have n1_ := Aside0.mk (hbox); have n2_ := Aside0.mk ((by rw [hg]; exact (below_size (by repeat (first | (with_reducible first | exact HB.out | apply below_alloc | apply pw_below_drewN | apply below_drew1) | exact HB.out))) : w.heap.size ≤ gb413)); have n3_ := Aside0.mk ((by rw [hg]; exact (below_size (by repeat (first | (with_reducible first | exact HB.out | apply below_alloc | apply pw_below_drewN | apply below_drew1) | exact HB.out))) : w.heap.size ≤ gb413)); clear HB; have HB := n0_; have BK413 := n1_; have GW413 := n2_; have GE413 := n3_; clear n0_ n1_ n2_ n3_; clear hb hbox hg; have hcz13_0 : w12.cell? ⟨gb413, 0, none⟩ = some (.int .i64 a0_0) := (blk_cell BK413.out 0).trans rfl; have hcz13_1 : w12.cell? ⟨gb413, 1, none⟩ = some (.int .i64 a0_1) := (blk_cell BK413.out 1).trans rfl; have hcz13_2 : w12.cell? ⟨gb413, 2, none⟩ = some (.string a0_2) := (blk_cell BK413.out 2).trans rfl; have hfz13_0 := blk_frozen BK413.out 0; have hfz13_1 := blk_frozen BK413.out 1; have hfz13_2 := blk_frozen BK413.out 2))
     go_ret
     exact ⟨by first | rfl | (simp [errW_none, errW_some] <;> rfl) | (simp [*, errW_none, errW_some] <;> rfl), by repeat (first | (with_reducible first | exact HB.out | apply below_alloc | apply pw_below_drewN | apply below_drew1 | refine below_set ?_ GE413.out) | exact HB.out)⟩
    ·rw [if_neg c11] at H
     have c11b0 : decide (255 < a0_1) = false := decide_eq_false c11
     clear c11
     by_cases c14 : (a0_2.size : Int) = (wrap64 (a0_0 * a0_1))
     ·rw [if_pos c14] at H
      have c14b0 : ((a0_2.size : Int) == (wrap64 (a0_0 * a0_1))) = true := beq_iff_eq.mpr c14
      have c14b1 : ((a0_2.size : Int) != (wrap64 (a0_0 * a0_1))) = false := bne_eq_false_iff_eq.mpr c14
      clear c14
      obtain rfl := Option.some.inj H
      go_enter Tryd.func91, Tryd.ntmps91
      go_wp2_with (first | ((with_reducible refine gate_dst (N := 1) rfl ?_); (try (refine gate_guard (by rfl) ?_; dsimp only)); refine box_event ?hg (N := 1) ?hd (cs := #[.int .i64 a0_0, .int .i64 a0_1, .string a0_2]) (t := 74) ?hr ?_; (case hd => rfl); (case hg => rfl); (case hr => first | (go_simp; done) | (go_simp; rfl)); intro gb413 hg w15 hbox hb; have n0_ := Aside0.mk (below_step (by repeat (first | (with_reducible first | exact HB.out | apply below_alloc | apply pw_below_drewN | apply below_drew1) | exact HB.out)) hb); have n1_ := Aside0.mk (hbox); have n2_ := Aside0.mk ((by rw [hg]; exact (below_size (by repeat (first | (with_reducible first | exact HB.out | apply below_alloc | apply pw_below_drewN | apply below_drew1) | exact HB.out))) : w.heap.size ≤ gb413)); have n3_ := Aside0.mk ((by rw [hg]; exact (below_size (by repeat (first | (with_reducible first | exact HB.out | apply below_alloc | apply pw_below_drewN | apply below_drew1) | exact HB.out))) : w.heap.size ≤ gb413)); clear HB; have HB := n0_; have BK413 := n1_; have GW413 := n2_; have GE413 := n3_; clear n0_ n1_ n2_ n3_; clear hb hbox hg; have hcz16_0 : w15.cell? ⟨gb413, 0, none⟩ = some (.int .i64 a0_0) := (blk_cell BK413.out 0).trans rfl; have hcz16_1 : w15.cell? ⟨gb413, 1, none⟩ = some (.int .i64 a0_1) := (blk_cell BK413.out 1).trans rfl; have hcz16_2 : w15.cell? ⟨gb413, 2, none⟩ = some (.string a0_2) := (blk_cell BK413.out 2).trans rfl; have hfz16_0 := blk_frozen BK413.out 0; have hfz16_1 := blk_frozen BK413.out 1; have hfz16_2 := blk_frozen BK413.out 2))
      go_ret
      exact ⟨by first | rfl | (simp [errW_none, errW_some] <;> rfl) | (simp [*, errW_none, errW_some] <;> rfl), by repeat (first | (with_reducible first | exact HB.out | apply below_alloc | apply pw_below_drewN | apply below_drew1 | refine below_set ?_ GE413.out) | exact HB.out)⟩
     ·rw [if_neg c14] at H
      have c14b0 : ((a0_2.size : Int) == (wrap64 (a0_0 * a0_1))) = false := beq_eq_false_iff_ne.mpr c14
      have c14b1 : ((a0_2.size : Int) != (wrap64 (a0_0 * a0_1))) = true := bne_iff_ne.mpr c14
      obtain rfl := Option.some.inj H
      go_enter Tryd.func91, Tryd.ntmps91
      go_wp2_with (first | ((with_reducible refine gate_dst (N := 1) rfl ?_); (try (refine gate_guard (by rfl) ?_; dsimp only)); refine box_event ?hg (N := 1) ?hd (cs := #[.int .i64 a0_0, .int .i64 a0_1, .string a0_2]) (t := 74) ?hr ?_; (case hd => rfl); (case hg => rfl); (case hr => first | (go_simp; done) | (go_simp; rfl)); intro gb413 hg w17 hbox hb; have n0_ := Aside0.mk (below_step (by repeat (first | (with_reducible first | exact HB.out | apply below_alloc | apply pw_below_drewN | apply below_drew1) | exact HB.out)) hb); have n1_ := Aside0.mk (hbox); have n2_ := Aside0.mk ((by rw [hg]; exact (below_size (by repeat (first | (with_reducible first | exact HB.out | apply below_alloc | apply pw_below_drewN | apply below_drew1) | exact HB.out))) : w.heap.size ≤ gb413)); have n3_ := Aside0.mk ((by rw [hg]; exact (below_size (by repeat (first | (with_reducible first | exact HB.out | apply below_alloc | apply pw_below_drewN | apply below_drew1) | exact HB.out))) : w.heap.size ≤ gb413)); clear HB; have HB := n0_; have BK413 := n1_; have GW413 := n2_; have GE413 := n3_; clear n0_ n1_ n2_ n3_; clear hb hbox hg; have hcz18_0 : w17.cell? ⟨gb413, 0, none⟩ = some (.int .i64 a0_0) := (blk_cell BK413.out 0).trans rfl; have hcz18_1 : w17.cell? ⟨gb413, 1, none⟩ = some (.int .i64 a0_1) := (blk_cell BK413.out 1).trans rfl; have hcz18_2 : w17.cell? ⟨gb413, 2, none⟩ = some (.string a0_2) := (blk_cell BK413.out 2).trans rfl; have hfz18_0 := blk_frozen BK413.out 0; have hfz18_1 := blk_frozen BK413.out 1; have hfz18_2 := blk_frozen BK413.out 2))
      go_ret
      exact ⟨by first | rfl | (simp [errW_none, errW_some] <;> rfl) | (simp [*, errW_none, errW_some] <;> rfl), by repeat (first | (with_reducible first | exact HB.out | apply below_alloc | apply pw_below_drewN | apply below_drew1 | refine below_set ?_ GE413.out) | exact HB.out)⟩

end Go.Proofs.YtegmmefijihdeaaDoor.PS
namespace Go.Proofs.YtegmmefijihdeaaDoor.PS
open Go.RowKit Go.Proofs.YtegmmefijihdeaaDoorW.PrintWords Go.Proofs.YtegmmefijihdeaaDoorW.PrintLast Go.Proofs.YtegmmefijihdeaaDoorW.PrintMore
attribute [local go_sem] Mk.str_leq Mk.str_gtr Mk.str_geq max2_int min2_int max_two min_two max_three min_three max_four min_four   -- for this text's walks alone
set_option linter.unusedVariables false
set_option linter.unusedSimpArgs false

/-! ### corncribref02_rows: function 92 -/
def corncribref02_rows.l0 : Nat → List ByteArray → Int → Int → Int → ByteArray → Option (List ByteArray)
 | 0, _, _, _, _, _ => none
 | k + 1, x3, x4, x415000, x415001, x415002 => if x4 < x415000 then (if 0 ≤ (wrap64 (x4 * x415001)) then (if (wrap64 (x4 * x415001)) ≤ (wrap64 ((wrap64 (x4 * x415001)) + x415001)) then (if (wrap64 ((wrap64 (x4 * x415001)) + x415001)) ≤ (x415002.size : Int) then (if x3.length < 8796093022208 then (corncribref02_rows.l0 k (x3 ++ [x415002.extract ((wrap64 (x4 * x415001)) : Int).toNat ((wrap64 ((wrap64 (x4 * x415001)) + x415001)) : Int).toNat]) (wrap64 (x4 + 1)) x415000 x415001 x415002) else (none)) else (none)) else (none)) else (none)) else (some x3)
def corncribref02_rows.f (k : Nat) (a0_0 : Int) (a0_1 : Int) (a0_2 : ByteArray) : Option (List ByteArray) := corncribref02_rows.l0 k ([] : List ByteArray) 0 a0_0 a0_1 a0_2
theorem corncribref02_rows.mono_l : ∀ k, (∀ y0 y1 y2 y3 y4, LeO (corncribref02_rows.l0 k y0 y1 y2 y3 y4) (corncribref02_rows.l0 (k + 1) y0 y1 y2 y3 y4))
 | 0 => fun _ _ _ _ _ r h => by simp [corncribref02_rows.l0] at h
 | k + 1 => by
  have ih0 := corncribref02_rows.mono_l k
  ·intro y0 y1 y2 y3 y4
   unfold corncribref02_rows.l0
   repeat' first
   | (with_reducible exact ih0 _ _ _ _ _)
   | (with_reducible exact LeO.refl _)
   | (with_reducible exact LeO.none _)
   | (with_reducible refine LeO.ite ?_ ?_)
   | (with_reducible refine LeO.bind ?_ (fun _ => ?_))
   | exact ih0 _ _ _ _ _
   | exact LeO.none _
   | refine LeO.ite ?_ ?_
   | refine LeO.bind ?_ (fun _ => ?_)
theorem corncribref02_rows.mono : ∀ a0 a1 a2 k, LeO (corncribref02_rows.f k a0 a1 a2) (corncribref02_rows.f (k + 1) a0 a1 a2) := by
 intro a0 a1 a2 k
 have ih0 := corncribref02_rows.mono_l k
 unfold corncribref02_rows.f
 repeat' first
   | (with_reducible exact ih0 _ _ _ _ _)
   | (with_reducible exact LeO.refl _)
   | (with_reducible exact LeO.none _)
   | (with_reducible refine LeO.ite ?_ ?_)
   | (with_reducible refine LeO.bind ?_ (fun _ => ?_))
   | exact ih0 _ _ _ _ _
   | exact LeO.none _
   | refine LeO.ite ?_ ?_
   | refine LeO.bind ?_ (fun _ => ?_)
set_option maxHeartbeats 8000000 in
set_option maxRecDepth 100000 in
theorem corncribref02_rows.calls (k : Nat) (a0_0 : Int) (a0_1 : Int) (a0_2 : ByteArray) (r : List ByteArray) (w : World) (h : corncribref02_rows.f k a0_0 a0_1 a0_2 = some r) :
  Calls Tryd.prog 92 #[.agg #[.int .i64 a0_0, .int .i64 a0_1, .string a0_2]] w fun e w' => ∃ v0_ : Value, e = .returned (v0_) ∧ Kd.R Kd.string 9 w' w.heap.size (fun _ => True) v0_ r ∧ Below w.heap.size w w' := by
 have hu74 := Tryd.underlying74
 have HB := Aside0.mk (Below.refl w.heap.size w)
 have H : (corncribref02_rows.l0 k ([] : List ByteArray) 0 a0_0 a0_1 a0_2) = some r := h
 clear h
 have H' := Aside0.mk H
 clear H
 go_enter Tryd.func92, Tryd.ntmps92
 go_wp2_with (first | ((with_reducible refine gate_dst (N := 1) rfl ?_); refine box_event ?hg (N := 1) ?hd (cs := #[.int .i64 a0_0, .int .i64 a0_1, .string a0_2]) (t := 74) ?hr ?_; (case hd => rfl); (case hg => rfl); (case hr => first | (go_simp; done) | (go_simp; rfl)); intro gb414 hg w2 hbox hb; have n0_ := Aside0.mk (below_step (by repeat (first | (with_reducible first | exact HB.out | apply below_alloc | apply pw_below_drewN | apply below_drew1) | exact HB.out)) hb); have n1_ := Aside0.mk (hbox); have n2_ := Aside0.mk ((by rw [hg]; exact (below_size (by repeat (first | (with_reducible first | exact HB.out | apply below_alloc | apply pw_below_drewN | apply below_drew1) | exact HB.out))) : w.heap.size ≤ gb414)); have n3_ := Aside0.mk ((by rw [hg]; exact (below_size (by repeat (first | (with_reducible first | exact HB.out | apply below_alloc | apply pw_below_drewN | apply below_drew1) | exact HB.out))) : w.heap.size ≤ gb414)); clear HB; have HB := n0_; have BK414 := n1_; have GW414 := n2_; have GE414 := n3_; clear n0_ n1_ n2_ n3_; clear hb hbox hg))
 go_loopg [3, 4] k (fun kq v3 v4 w' => ∃ (x3_1 : List ByteArray) (x4_1 : Int), v4 = .int .i64 x4_1 ∧ Aside0 (corncribref02_rows.l0 kq x3_1 x4_1 a0_0 a0_1 a0_2 = some r) ∧ Aside0 (kq ≤ k) ∧ Aside0 (Kd.R Kd.string 9 w' w.heap.size (fun _ => True) v3 x3_1) ∧ Aside0 (w'.heap[gb414]? = some (.cells #[.int .i64 a0_0, .int .i64 a0_1, .string a0_2] 74 (0, 0))) ∧ Aside0 (Below w.heap.size w w'))
 case atStart => exact ⟨(([] : List ByteArray)), (0), (by first | rfl | (simp; done) | (simp [*]; done)), H', ⟨Nat.le_refl _⟩, ⟨by first | exact Kd.R_nil _ _ _ _ _ | exact Kd.N_nil _ _ _ _ _ | exact Kd.V_nil _ _ _ _ _ | exact Kd.Q_nil _ _ _ _ _ | exact Kd.S_nil _ _ _ _ _⟩, ⟨by (with_reducible repeat (first | refine blk_drewN ?_ _ | refine blk_drew ?_ | refine blk_alloc ?_ _)); exact BK414.out⟩, ⟨by repeat (first | (with_reducible first | exact HB.out | apply below_alloc | apply pw_below_drewN | apply below_drew1 | refine below_set ?_ GE414.out) | exact HB.out)⟩⟩
 case round =>
  clear H'
  try clear p2
  obtain ⟨x3_1, x4_1, rfl, HA, HK1, HO_3, BK414, HB⟩ := hrel
  cases gk with
  | zero => exact absurd HA.out (by simp [corncribref02_rows.l0])
  | succ k1 =>
   have H := HA.out
   clear HA
   simp only [corncribref02_rows.l0] at H
   by_cases c3 : x4_1 < a0_0
   ·rw [if_pos c3] at H
    have c3b0 : decide (x4_1 < a0_0) = true := decide_eq_true c3
    clear c3
    obtain ⟨ji4, hji4⟩ : ∃ j_ : Int, (wrap64 (x4_1 * a0_1)) = j_ := ⟨_, rfl⟩
    replace H : (if 0 ≤ (ji4) then (if (ji4) ≤ (wrap64 ((ji4) + a0_1)) then (if (wrap64 ((ji4) + a0_1)) ≤ (a0_2.size : Int) then (if x3_1.length < 8796093022208 then (corncribref02_rows.l0 k1 (x3_1 ++ [a0_2.extract ((ji4) : Int).toNat ((wrap64 ((ji4) + a0_1)) : Int).toNat]) (wrap64 (x4_1 + 1)) a0_0 a0_1 a0_2) else (none)) else (none)) else (none)) else (none)) = some r := by first | (rw [hji4] at H; exact H) | (simp only [hji4] at H ⊢; exact H)
    have hji4w : (IntKind.i64.wrap (x4_1 * a0_1)) = ji4 := (i64_w _).trans hji4
    by_cases c5 : 0 ≤ (ji4)
    ·rw [if_pos c5] at H
     have c5b0 := eq_true c5
     have c5b1 : decide (0 ≤ (ji4)) = true := decide_eq_true c5
     clear c5
     by_cases c6 : (ji4) ≤ (wrap64 ((ji4) + a0_1))
     ·rw [if_pos c6] at H
      have c6b0 := eq_true c6
      have c6b1 : decide ((ji4) ≤ (wrap64 ((ji4) + a0_1))) = true := decide_eq_true c6
      by_cases c7 : (wrap64 ((ji4) + a0_1)) ≤ (a0_2.size : Int)
      ·rw [if_pos c7] at H
       have c7b0 := eq_true c7
       have c7b1 : decide ((wrap64 ((ji4) + a0_1)) ≤ (a0_2.size : Int)) = true := decide_eq_true c7
       by_cases c8 : x3_1.length < 8796093022208
       ·rw [if_pos c8] at H
        have LMc8 := Aside0.mk c8
        clear c8
        obtain ⟨y415, hy415⟩ : ∃ y_ : List ByteArray, y_ = (x3_1 ++ [a0_2.extract ((ji4) : Int).toNat ((wrap64 ((ji4) + a0_1)) : Int).toNat]) := ⟨_, rfl⟩
        replace H : (corncribref02_rows.l0 k1 y415 (wrap64 (x4_1 + 1)) a0_0 a0_1 a0_2) = some r := by first | (rw [hy415]; with_reducible exact H) | (have H2_ := (Option.bind_some _ _).symm.trans H; rw [hy415]; with_reducible exact H2_) | (have H2_ := (Option.bind_some _ _).symm.trans H; with_reducible exact H2_) | with_reducible exact H | (rw [hy415]; exact H) | exact H
        have Ny415 := Aside0.mk hy415
        clear hy415
        have H' := Aside0.mk H
        clear H
        have hcz9_0 : wr.cell? ⟨gb414, 0, none⟩ = some (.int .i64 a0_0) := (blk_cell BK414.out 0).trans rfl
        have hcz9_1 : wr.cell? ⟨gb414, 1, none⟩ = some (.int .i64 a0_1) := (blk_cell BK414.out 1).trans rfl
        have hcz9_2 : wr.cell? ⟨gb414, 2, none⟩ = some (.string a0_2) := (blk_cell BK414.out 2).trans rfl
        have hfz9_0 := blk_frozen BK414.out 0
        have hfz9_1 := blk_frozen BK414.out 1
        have hfz9_2 := blk_frozen BK414.out 2
        go_wp2_with (first | ((with_reducible refine gate_builtin (b := .append) (xs := #[.tmp 11, .tmp 26]) rfl ?_); at_builtin; refine Kd.R_append Kd.string (w0 := w) w.heap.size rfl (.tmp 11) (.tmp 26) 25 9 (.string ⟨#[]⟩) 16 rfl Tryd.underlying25 info9 rfl (by decide) (by omega) u3 x3_1 (a0_2.extract ((ji4) : Int).toNat ((wrap64 ((ji4) + a0_1)) : Int).toNat) [.string (a0_2.extract ((ji4) : Int).toNat ((wrap64 ((ji4) + a0_1)) : Int).toNat)] (fun _ => True) (fun _ => False) rfl rfl ?aP (fun _ hk => hk.elim) ?aF ?aO ?aB ?aS ?aL ?_; (case aP => exact rfl); (case aB => exact (by repeat (first | (with_reducible first | exact HB.out | apply below_alloc | apply pw_below_drewN | apply below_drew1 | refine below_set ?_ GE414.out) | exact HB.out))); (case aF => exact (fun _ _ => trivial)); (case aO => exact (by (with_reducible repeat (first | apply Kd.R_alloc | apply Kd.R_drewN | apply Kd.R_drew)); exact HO_3.out)); (case aS => exact (below_size (by repeat (first | (with_reducible first | exact HB.out | apply below_alloc | apply pw_below_drewN | apply below_drew1 | refine below_set ?_ GE414.out) | exact HB.out)))); (case aL => have := LMc8.out; omega); intro v416 w10 ho hb hg hat; rw [← Ny415.out] at ho; have n0_ := Aside0.mk (blk_grown (g := gb414) (o := .cells #[.int .i64 a0_0, .int .i64 a0_1, .string a0_2] 74 (0, 0)) (by (with_reducible repeat (first | refine blk_drewN ?_ _ | refine blk_drew ?_ | refine blk_alloc ?_ _)); exact BK414.out) hg (Kd.R_ne HO_3.out BK414.out (by decide))); have n1_ := Aside0.mk (hb); have n2_ := Aside0.mk (ho); clear BK414; clear HB; clear HO_3; have BK414 := n0_; have HB := n1_; have HO417 := n2_; clear n0_ n1_ n2_; clear ho hb hg hat))
        go_roundg k1
        case measure => have := HK1.out; omega
        case rel => exact ⟨(y415), (wrap64 (x4_1 + 1)), (by first | rfl | (simp; done) | (simp [*]; done)), H', ⟨by have := HK1.out; omega⟩, ⟨by (with_reducible repeat (first | apply Kd.R_alloc | apply Kd.R_drewN | apply Kd.R_drew)); exact HO417.out⟩, ⟨by (with_reducible repeat (first | refine blk_drewN ?_ _ | refine blk_drew ?_ | refine blk_alloc ?_ _)); exact BK414.out⟩, ⟨by repeat (first | (with_reducible first | exact HB.out | apply below_alloc | apply pw_below_drewN | apply below_drew1 | refine below_set ?_ GE414.out) | exact HB.out)⟩⟩
       ·rw [if_neg c8] at H
        exact absurd H (by simp)
      ·rw [if_neg c7] at H
       exact absurd H (by simp)
     ·rw [if_neg c6] at H
      exact absurd H (by simp)
    ·rw [if_neg c5] at H
     exact absurd H (by simp)
   ·rw [if_neg c3] at H
    have c3b0 : decide (x4_1 < a0_0) = false := decide_eq_false c3
    clear c3
    obtain rfl := Option.some.inj H
    have hcz11_0 : wr.cell? ⟨gb414, 0, none⟩ = some (.int .i64 a0_0) := (blk_cell BK414.out 0).trans rfl
    have hcz11_1 : wr.cell? ⟨gb414, 1, none⟩ = some (.int .i64 a0_1) := (blk_cell BK414.out 1).trans rfl
    have hcz11_2 : wr.cell? ⟨gb414, 2, none⟩ = some (.string a0_2) := (blk_cell BK414.out 2).trans rfl
    have hfz11_0 := blk_frozen BK414.out 0
    have hfz11_1 := blk_frozen BK414.out 1
    have hfz11_2 := blk_frozen BK414.out 2
    go_wp2
    go_ret
    exact ⟨_, by first | rfl | (simp [errW_none, errW_some] <;> rfl) | (simp [*, errW_none, errW_some] <;> rfl), by (with_reducible repeat (first | apply Kd.R_alloc | apply Kd.R_drewN | apply Kd.R_drew)); exact HO_3.out, by repeat (first | (with_reducible first | exact HB.out | apply below_alloc | apply pw_below_drewN | apply below_drew1 | refine below_set ?_ GE414.out) | exact HB.out)⟩

end Go.Proofs.YtegmmefijihdeaaDoor.PS
namespace Go.Proofs.YtegmmefijihdeaaDoor.PS
open Go.RowKit Go.Proofs.YtegmmefijihdeaaDoorW.PrintWords Go.Proofs.YtegmmefijihdeaaDoorW.PrintLast Go.Proofs.YtegmmefijihdeaaDoorW.PrintMore
attribute [local go_sem] Mk.str_leq Mk.str_gtr Mk.str_geq max2_int min2_int max_two min_two max_three min_three max_four min_four   -- for this text's walks alone
set_option linter.unusedVariables false
set_option linter.unusedSimpArgs false

/-! ### corncribref02_plus: function 93 -/
def corncribref02_plus.l0 : Nat → ByteArray → ByteArray → List Int → Int → Option (ByteArray)
 | 0, _, _, _, _ => none
 | k + 1, x0, x7, x8, x9 => if x9 < (x0.size : Int) then (if 0 ≤ x9 then (if x9 < (x7.size : Int) then (if x8.length < 140737488355328 then (corncribref02_plus.l0 k x0 x7 (x8 ++ [Go.bits .xor .u8 (bt x0 x9) (bt x7 x9)]) (wrap64 (x9 + 1))) else (none)) else (none)) else (none)) else (some (strOfNums x8))
def corncribref02_plus.f (k : Nat) (a0 : ByteArray) (a1 : Int) (a2 : ByteArray) : Option (ByteArray) := (corncribref01_Scale.f k a1 a2).bind fun t418 => (corncribref02_plus.l0 k a0 t418 ([] : List Int) 0)
theorem corncribref02_plus.mono_l : ∀ k, (∀ y0 y1 y2 y3, LeO (corncribref02_plus.l0 k y0 y1 y2 y3) (corncribref02_plus.l0 (k + 1) y0 y1 y2 y3))
 | 0 => fun _ _ _ _ r h => by simp [corncribref02_plus.l0] at h
 | k + 1 => by
  have ih0 := corncribref02_plus.mono_l k
  ·intro y0 y1 y2 y3
   unfold corncribref02_plus.l0
   repeat' first
   | (with_reducible exact ih0 _ _ _ _)
   | (with_reducible exact corncribref01_Scale.mono _ _ _)
   | (with_reducible exact LeO.refl _)
   | (with_reducible exact LeO.none _)
   | (with_reducible refine LeO.ite ?_ ?_)
   | (with_reducible refine LeO.bind ?_ (fun _ => ?_))
   | exact ih0 _ _ _ _
   | exact corncribref01_Scale.mono _ _ _
   | exact LeO.none _
   | refine LeO.ite ?_ ?_
   | refine LeO.bind ?_ (fun _ => ?_)
theorem corncribref02_plus.mono : ∀ a0 a1 a2 k, LeO (corncribref02_plus.f k a0 a1 a2) (corncribref02_plus.f (k + 1) a0 a1 a2) := by
 intro a0 a1 a2 k
 have ih0 := corncribref02_plus.mono_l k
 unfold corncribref02_plus.f
 repeat' first
   | (with_reducible exact ih0 _ _ _ _)
   | (with_reducible exact corncribref01_Scale.mono _ _ _)
   | (with_reducible exact LeO.refl _)
   | (with_reducible exact LeO.none _)
   | (with_reducible refine LeO.ite ?_ ?_)
   | (with_reducible refine LeO.bind ?_ (fun _ => ?_))
   | exact ih0 _ _ _ _
   | exact corncribref01_Scale.mono _ _ _
   | exact LeO.none _
   | refine LeO.ite ?_ ?_
   | refine LeO.bind ?_ (fun _ => ?_)
def corncribref02_plus.T6 : Bool × List (List Nat × List Nat) := (true, [([], []), ([], []), ([], []), ([1, 2], [1, 2]), ([], []), ([], []), ([4, 5], [4, 5]), ([3, 6], [3, 6]), ([7], [7]), ([0, 8], [0, 8]), ([9, 9, 0, 1, 2, 3, 4, 5, 6, 7, 8, 9], [0, 9])])
def corncribref02_plus.B6 : List Nat := [0, 0, 0, 6, 0, 0, 48, 126, 254, 511, 1023]
theorem corncribref02_plus.tab6 : rtab .any (opsOf Tryd.f93 6) = corncribref02_plus.T6 := by kernel_rfl
theorem corncribref02_plus.bits6 : waitsOk corncribref02_plus.T6.2 corncribref02_plus.B6 = true := by kernel_rfl
set_option maxHeartbeats 8000000 in
set_option maxRecDepth 100000 in
theorem corncribref02_plus.calls (k : Nat) (a0 : ByteArray) (a1 : Int) (a2 : ByteArray) (r : ByteArray) (w : World) (h : corncribref02_plus.f k a0 a1 a2 = some r) :
  Calls Tryd.prog 93 #[.string a0, .int .u8 a1, .string a2] w fun e w' => e = .returned (.string r) ∧ Below w.heap.size w w' := by
 have HB := Aside0.mk (Below.refl w.heap.size w)
 have H : ((corncribref01_Scale.f k a1 a2).bind fun t418 => (corncribref02_plus.l0 k a0 t418 ([] : List Int) 0)) = some r := h
 clear h
 replace H := Option.bind_eq_some_iff.mp H
 obtain ⟨t418, A40, H⟩ := H
 replace H : (corncribref02_plus.l0 k a0 t418 ([] : List Int) 0) = some r := H
 have A4 := Aside0.mk A40
 clear A40
 have H' := Aside0.mk H
 clear H
 go_enter Tryd.func93, Tryd.ntmps93
 go_wp2_with (first | ((with_reducible refine gate_callee (f := 83) rfl ?_); refine goesL_ (some 12) rfl rfl Tryd.func83 (by kernel_rfl) rfl #[.int .u8 a1, .string a2] rfl (by (try simp only [List.map_toArray, List.map_cons, List.map_nil]); first | done | rfl | (simp only [List.length_drop, List.length_take]; rfl)) ?_; (with_reducible refine (corncribref01_Scale.calls k a1 a2 t418 _ A4.out).mono ?_); rintro e w5 ⟨rfl, hb⟩; refine ⟨_, rfl, ?_⟩; have n0_ := Aside0.mk (below_step (by repeat (first | (with_reducible first | exact HB.out | apply below_alloc | apply pw_below_drewN | apply below_drew1) | exact HB.out)) hb); clear HB; have HB := n0_; clear n0_; (try clear hb); (try clear hb2); (try clear hk); (try clear hi)))
 go_loopg [8, 9] k (fun kq v8 v9 w' => ∃ (x8_1 : List Int) (x9_1 : Int), v9 = .int .i64 x9_1 ∧ Aside0 (corncribref02_plus.l0 kq a0 t418 x8_1 x9_1 = some r) ∧ Aside0 (kq ≤ k) ∧ Aside0 (Kd.R (Kd.int .u8) 5 w' w.heap.size (fun _ => True) v8 x8_1) ∧ Aside0 (Below w.heap.size w w'))
 case atStart => exact ⟨(([] : List Int)), (0), (by first | rfl | (simp; done) | (simp [*]; done)), H', ⟨Nat.le_refl _⟩, ⟨by first | exact Kd.R_nil _ _ _ _ _ | exact Kd.N_nil _ _ _ _ _ | exact Kd.V_nil _ _ _ _ _ | exact Kd.Q_nil _ _ _ _ _ | exact Kd.S_nil _ _ _ _ _⟩, ⟨by repeat (first | (with_reducible first | exact HB.out | apply below_alloc | apply pw_below_drewN | apply below_drew1) | exact HB.out)⟩⟩
 case round =>
  clear H'
  try clear p2
  obtain ⟨x8_1, x9_1, rfl, HA, HK1, HO_8, HB⟩ := hrel
  cases gk with
  | zero => exact absurd HA.out (by simp [corncribref02_plus.l0])
  | succ k1 =>
   have H := HA.out
   clear HA
   simp only [corncribref02_plus.l0] at H
   by_cases c6 : x9_1 < (a0.size : Int)
   ·rw [if_pos c6] at H
    have c6b0 : decide (x9_1 < (a0.size : Int)) = true := decide_eq_true c6
    clear c6
    by_cases c7 : 0 ≤ x9_1
    ·rw [if_pos c7] at H
     have c7b0 : decide (0 ≤ x9_1) = true := decide_eq_true c7
     clear c7
     by_cases c9 : x9_1 < (t418.size : Int)
     ·rw [if_pos c9] at H
      have c9b0 : decide (x9_1 < (t418.size : Int)) = true := decide_eq_true c9
      clear c9
      by_cases c11 : x8_1.length < 140737488355328
      ·rw [if_pos c11] at H
       have LMc11 := Aside0.mk c11
       clear c11
       obtain ⟨y419, hy419⟩ : ∃ y_ : List Int, y_ = (x8_1 ++ [Go.bits .xor .u8 (bt a0 x9_1) (bt t418 x9_1)]) := ⟨_, rfl⟩
       replace H : (corncribref02_plus.l0 k1 a0 t418 y419 (wrap64 (x9_1 + 1))) = some r := by first | (rw [hy419]; with_reducible exact H) | (have H2_ := (Option.bind_some _ _).symm.trans H; rw [hy419]; with_reducible exact H2_) | (have H2_ := (Option.bind_some _ _).symm.trans H; with_reducible exact H2_) | with_reducible exact H | (rw [hy419]; exact H) | exact H
       have Ny419 := Aside0.mk hy419
       clear hy419
       have H' := Aside0.mk H
       clear H
       try go_wp2
       have n0_ := Aside0.mk (Kd.R_drew HO_8.out)
       have n1_ := Aside0.mk (below_drew1 HB.out)
       clear HO_8
       clear HB
       have HO_8 := n0_
       have HB := n1_
       clear n0_ n1_
       have p8 : 0 ≤ (x9_1 : Int) := of_decide_eq_true (by first | (with_reducible assumption) | assumption)
       have q8 : x9_1 < (a0.size : Int) := of_decide_eq_true (by first | (with_reducible assumption) | assumption)
       have hx8 := bt_at a0 x9_1
       replace p8 := eq_true p8
       replace q8 := eq_true q8
       have p10 : 0 ≤ (x9_1 : Int) := of_decide_eq_true (by first | (with_reducible assumption) | assumption)
       have q10 : x9_1 < (t418.size : Int) := of_decide_eq_true (by first | (with_reducible assumption) | assumption)
       have hx10 := bt_at t418 x9_1
       replace p10 := eq_true p10
       replace q10 := eq_true q10
       refine start_ (n := 11) (S := fun w' => True) (ds := []) #[false, false, false, false, false, false, false, false, false, false, false] (by kernel_rfl) rfl rfl trivial (fun hHeld => ?_); refine with_tabW corncribref02_plus.tab6 corncribref02_plus.bits6 (fun HT_ HW_ => ?_)
       generalize wr.drew = w12 at HO_8 HB hHeld ⊢
       refine pure_ (i := 0) (N := some 19) (v := ?_) (a' := ?_) #[true, false, false, false, false, false, false, false, false, false, false] rfl rfl (any_of HT_.out (by kernel_rfl)) (fun _ _ _ h => h) (Or.inl ⟨by rfl, ?_⟩) ?_ ?_
       rotate_left
       ·intro w'
        go_simp
        with_reducible rfl
       rotate_left
       ·simp only [Act.put, List.setIfInBounds_toArray, List.set_cons_zero, List.set_cons_succ, i64_w, i32_w]
        rfl
       refine pure_ (i := 1) (N := some 20) (v := ?_) (a' := ?_) #[true, true, false, false, false, false, false, false, false, false, false] rfl rfl (any_of HT_.out (by kernel_rfl)) (fun _ _ _ h => h) (Or.inl ⟨by rfl, ?_⟩) ?_ ?_
       rotate_left
       ·intro w'
        go_simp
        with_reducible rfl
       rotate_left
       ·simp only [Act.put, List.setIfInBounds_toArray, List.set_cons_zero, List.set_cons_succ, i64_w, i32_w]
        rfl
       refine pure_ (i := 2) (N := some 21) (v := ?_) (a' := ?_) #[true, true, true, false, false, false, false, false, false, false, false] rfl rfl (any_of HT_.out (by kernel_rfl)) (fun _ _ _ h => h) (Or.inl ⟨by rfl, ?_⟩) ?_ ?_
       rotate_left
       ·intro w'
        go_simp
        with_reducible rfl
       rotate_left
       ·simp only [Act.put, List.setIfInBounds_toArray, List.set_cons_zero, List.set_cons_succ, i64_w, i32_w]
        rfl
       refine pure_ (i := 4) (N := some 23) (v := ?_) (a' := ?_) #[true, true, true, false, true, false, false, false, false, false, false] rfl rfl (any_of HT_.out (by kernel_rfl)) (fun _ _ _ h => h) (Or.inl ⟨by rfl, ?_⟩) ?_ ?_
       rotate_left
       ·intro w'
        go_simp
        with_reducible rfl
       rotate_left
       ·simp only [Act.put, List.setIfInBounds_toArray, List.set_cons_zero, List.set_cons_succ, i64_w, i32_w]
        rfl
       refine pure_ (i := 5) (N := some 24) (v := ?_) (a' := ?_) #[true, true, true, false, true, true, false, false, false, false, false] rfl rfl (any_of HT_.out (by kernel_rfl)) (fun _ _ _ h => h) (Or.inl ⟨by rfl, ?_⟩) ?_ ?_
       rotate_left
       ·intro w'
        go_simp
        with_reducible rfl
       rotate_left
       ·simp only [Act.put, List.setIfInBounds_toArray, List.set_cons_zero, List.set_cons_succ, i64_w, i32_w]
        rfl
       refine take_ (i := 3) (N := some 22) (v := ?_) (a' := ?_) #[true, true, true, true, true, true, false, false, false, false, false] rfl rfl (take_ofW HT_.out HW_.out (by kernel_rfl)) (fun _ _ _ h => h) (Or.inl ⟨by rfl, ?_⟩) hHeld ?_ ?_
       rotate_left
       ·intro w' _
        go_simp
        with_reducible rfl
       rotate_left
       ·simp only [Act.put, List.setIfInBounds_toArray, List.set_cons_zero, List.set_cons_succ, i64_w, i32_w]
        rfl
       refine take_ (i := 6) (N := some 25) (v := ?_) (a' := ?_) #[true, true, true, true, true, true, true, false, false, false, false] rfl rfl (take_ofW HT_.out HW_.out (by kernel_rfl)) (fun _ _ _ h => h) (Or.inl ⟨by rfl, ?_⟩) hHeld ?_ ?_
       rotate_left
       ·intro w' _
        go_simp
        with_reducible rfl
       rotate_left
       ·simp only [Act.put, List.setIfInBounds_toArray, List.set_cons_zero, List.set_cons_succ, i64_w, i32_w]
        rfl
       refine pure_ (i := 7) (N := some 26) (v := ?_) (a' := ?_) #[true, true, true, true, true, true, true, true, false, false, false] rfl rfl (any_of HT_.out (by kernel_rfl)) (fun _ _ _ h => h) (Or.inl ⟨by rfl, ?_⟩) ?_ ?_
       rotate_left
       ·intro w'
        go_simp
        with_reducible rfl
       rotate_left
       ·simp only [Act.put, List.setIfInBounds_toArray, List.set_cons_zero, List.set_cons_succ, i64_w, i32_w]
        rfl
       refine one_ (i := 8) (N := some 27) #[true, true, true, true, true, true, true, true, true, false, false] rfl rfl (one_of HT_.out (by kernel_rfl)) (by decide) (fun K hK => ?_)
       refine value_ (w1 := ?_) (v := ?_) (by rfl) rfl ?_ ?_
       rotate_left 2
       ·go_simp
        constructor
        ·rfl
        ·rfl
       refine hK.out _ _ trivial (fun hHeld => ?_)
       clear hK K
       refine norm_ (a' := ?_) ?_ ?_
       rotate_left
       ·show Act.put _ (some 27) _ = _
        simp only [Act.put, List.setIfInBounds_toArray, List.set_cons_zero, List.set_cons_succ, i64_w, i32_w]
        rfl
       refine one_ (i := 9) (N := some 28) #[true, true, true, true, true, true, true, true, true, true, false] rfl rfl (one_of HT_.out (by kernel_rfl)) (by decide) (fun K hK => ?_)
       refine Kd.R_append_step (Kd.int .u8) (w0 := w) w.heap.size (by rfl) (.tmp 19) (.tmp 27) 60 5 (.int .u8 0) 1 rfl Tryd.underlying60 info5 rfl (by decide) (by omega) u8 x8_1 (Go.bits .xor .u8 (bt a0 x9_1) (bt t418 x9_1)) [.int .u8 (Go.bits .xor .u8 (bt a0 x9_1) (bt t418 x9_1))] (fun _ => True) (fun _ => False) rfl rfl ?aP (fun _ hk => hk.elim) ?aF ?aO ?aB ?aS ?aL ?_
       (case aP => exact rfl)
       (case aB => exact (by repeat (first | (with_reducible first | exact HB.out | apply below_alloc | apply pw_below_drewN | apply below_drew1) | exact HB.out)))
       (case aF => exact (fun _ _ => trivial))
       (case aO => exact (by (with_reducible repeat (first | apply Kd.R_alloc | apply Kd.R_drewN | apply Kd.R_drew)); exact HO_8.out))
       (case aS => exact (below_size (by repeat (first | (with_reducible first | exact HB.out | apply below_alloc | apply pw_below_drewN | apply below_drew1) | exact HB.out))))
       (case aL => have := LMc11.out; omega)
       intro v420 w13 ho hb hg hat
       rw [← Ny419.out] at ho
       have n0_ := Aside0.mk (hb)
       have n1_ := Aside0.mk (ho)
       clear HB
       clear HO_8
       have HB := n0_
       have HO421 := n1_
       clear n0_ n1_
       clear ho hb hg hat
       refine hK.out _ _ trivial (fun hHeld => ?_)
       clear hK K
       refine norm_ (a' := ?_) ?_ ?_
       rotate_left
       ·show Act.put _ (some 28) _ = _
        simp only [Act.put, List.setIfInBounds_toArray, List.set_cons_zero, List.set_cons_succ, i64_w, i32_w]
        rfl
       refine pure_ (i := 10) (N := some 8) (v := ?_) (a' := ?_) #[true, true, true, true, true, true, true, true, true, true, true] rfl rfl (any_of HT_.out (by kernel_rfl)) (fun _ _ _ h => h) (Or.inl ⟨by rfl, ?_⟩) ?_ ?_
       rotate_left
       ·intro w'
        go_simp
        with_reducible rfl
       rotate_left
       ·simp only [Act.put, List.setIfInBounds_toArray, List.set_cons_zero, List.set_cons_succ, i64_w, i32_w]
        rfl
       refine done_ (done_of HT_.out (by kernel_rfl)) ?_
       try go_wp2
       go_roundg k1
       case measure => have := HK1.out; omega
       case rel => exact ⟨(y419), (wrap64 (x9_1 + 1)), (by first | rfl | (simp; done) | (simp [*]; done)), H', ⟨by have := HK1.out; omega⟩, ⟨by (with_reducible repeat (first | apply Kd.R_alloc | apply Kd.R_drewN | apply Kd.R_drew)); exact HO421.out⟩, ⟨by repeat (first | (with_reducible first | exact HB.out | apply below_alloc | apply pw_below_drewN | apply below_drew1) | exact HB.out)⟩⟩
      ·rw [if_neg c11] at H
       exact absurd H (by simp)
     ·rw [if_neg c9] at H
      exact absurd H (by simp)
    ·rw [if_neg c7] at H
     exact absurd H (by simp)
   ·rw [if_neg c6] at H
    have c6b0 : decide (x9_1 < (a0.size : Int)) = false := decide_eq_false c6
    clear c6
    obtain rfl := Option.some.inj H
    have hcv14 := own_string (P := Tryd.prog) Tryd.underlying60 Tryd.underlying5 Tryd.underlying9 (Kd.own_of_R HO_8.out)
    go_wp2
    go_ret
    exact ⟨by first | rfl | (simp [errW_none, errW_some] <;> rfl) | (simp [*, errW_none, errW_some] <;> rfl), by repeat (first | (with_reducible first | exact HB.out | apply below_alloc | apply pw_below_drewN | apply below_drew1) | exact HB.out)⟩

end Go.Proofs.YtegmmefijihdeaaDoor.PS
namespace Go.Proofs.YtegmmefijihdeaaDoor.PS
open Go.RowKit Go.Proofs.YtegmmefijihdeaaDoorW.PrintWords Go.Proofs.YtegmmefijihdeaaDoorW.PrintLast Go.Proofs.YtegmmefijihdeaaDoorW.PrintMore Go.Proofs.YtegmmefijihdeaaDoor.Gf Go.Proofs.YtegmmefijihdeaaDoor.Grd Go.Proofs.YtegmmefijihdeaaDoor.Rowb Go.Proofs.YtegmmefijihdeaaDoor.Fld
set_option linter.unusedVariables false
set_option linter.unusedSimpArgs false
/-! Closed forms. -/
theorem refcheck2_f (R C : Nat) (s : ByteArray) (h1 : 1 ≤ R) (h2 : R ≤ 255) (h3 : 1 ≤ C) (h4 : C ≤ 255) (h5 : s.size = R * C) : corncribref02_Check.f (R : Int) (C : Int) s = some 0 := by
  unfold corncribref02_Check.f
  have hb : R * C ≤ 255 * 255 := Nat.mul_le_mul h2 h4
  have e : (R : Int) * (C : Int) = ((R * C : Nat) : Int) := by push_cast; rfl
  rw [if_neg (by omega), if_neg (by omega), if_neg (by omega), if_neg (by omega), e, w64_in _ (by omega) (by omega), if_pos (by omega)]
theorem rows_from (R C : Nat) (s : ByteArray) (h2 : R ≤ 255) (h4 : C ≤ 255) (h5 : s.size = R * C) (d : Nat) : ∀ i, i + d = R → ∀ k, d + 1 ≤ k →
    corncribref02_rows.l0 k ((gridOf i C s).map txt) (i : Int) (R : Int) (C : Int) s = some ((gridOf R C s).map txt) := by
  have hb : R * C ≤ 255 * 255 := Nat.mul_le_mul h2 h4
  induction d with
  | zero =>
    intro i hi k hk
    obtain ⟨m, rfl, _⟩ := pred_of (K := 0) hk
    simp only [corncribref02_rows.l0]
    rw [if_neg (by omega), show i = R by omega]
  | succ d ih =>
    intro i hi k hk
    obtain ⟨m, rfl, hm⟩ := pred_of hk
    have e : (i : Int) * (C : Int) = ((i * C : Nat) : Int) := by push_cast; rfl
    have hin : i * C + C ≤ R * C := by
      have : (i + 1) * C ≤ R * C := Nat.mul_le_mul_right _ (by omega)
      rw [Nat.succ_mul] at this
      exact this
    simp only [corncribref02_rows.l0]
    rw [e, w64_in ((i * C : Nat) : Int) (by omega) (by omega), w64_in (((i * C : Nat) : Int) + (C : Int)) (by omega) (by omega), if_pos (by omega), if_pos (by omega), if_pos (by omega), if_pos (by omega), if_pos (by rw [List.length_map, gridOf_len]; omega), w64_in ((i : Int) + 1) (by omega) (by omega), Int.toNat_natCast, show (((i * C : Nat) : Int) + (C : Int)).toNat = i * C + C by omega]
    have e2 : (gridOf i C s).map txt ++ [s.extract (i * C) (i * C + C)] = (gridOf (i + 1) C s).map txt := by
      unfold gridOf
      rw [List.range_succ, List.map_append, List.map_append]
      congr 1
      simp only [List.map_cons, List.map_nil, List.cons.injEq, and_true]
      apply ByteArray.ext
      apply Array.ext'
      rw [ByteArray.data_extract, Array.toList_extract]
      show _ = (txt _).data.toList
      rw [txt_list]
      simp [List.extract_eq_take_drop]
    rw [e2]
    exact ih (i + 1) (by omega) m hm
theorem rows_f (R C : Nat) (s : ByteArray) (h2 : R ≤ 255) (h4 : C ≤ 255) (h5 : s.size = R * C) (k : Nat) (hk : R + 1 ≤ k) : corncribref02_rows.f k (R : Int) (C : Int) s = some ((gridOf R C s).map txt) :=
  rows_from R C s h2 h4 h5 R 0 (by omega) k hk
theorem plus_from (a b : List UInt8) (h : a.length = b.length) (hl : a.length ≤ 255) (d : Nat) : ∀ i, i + d = a.length → ∀ k, d + 1 ≤ k →
    corncribref02_plus.l0 k (txt a) (txt b) (ints ((List.zipWith (fun x y => x ^^^ y) a b).take i)) (i : Int) = some (txt (List.zipWith (fun x y => x ^^^ y) a b)) := by
  have hz : (List.zipWith (fun x y => x ^^^ y) a b).length = a.length := by simp [h]
  induction d with
  | zero =>
    intro i hi k hk
    obtain ⟨m, rfl, _⟩ := pred_of (K := 0) hk
    simp only [corncribref02_plus.l0]
    rw [if_neg (by rw [txt_size]; omega), str_ints, List.take_of_length_le (by omega)]
  | succ d ih =>
    intro i hi k hk
    obtain ⟨m, rfl, hm⟩ := pred_of hk
    simp only [corncribref02_plus.l0]
    rw [if_pos (by rw [txt_size]; omega), if_pos (by omega), if_pos (by rw [txt_size]; omega), if_pos (by rw [ints_len, List.length_take]; omega), w64_in ((i : Int) + 1) (by omega) (by omega), bt_nat _ i (by rw [txt_size]; omega), bt_nat _ i (by rw [txt_size]; omega), txt_list, txt_list, xor_u8 _ _ (b_lt _) (b_lt _), ← UInt8.toNat_xor, ints_snoc]
    have e : (List.zipWith (fun x y => x ^^^ y) a b).take i ++ [a.getD i 0 ^^^ b.getD i 0] = (List.zipWith (fun x y => x ^^^ y) a b).take (i + 1) := by
      rw [List.take_succ_eq_append_getElem (by omega), List.getElem_zipWith, getD_lt _ _ _ (by omega), getD_lt _ _ _ (by omega)]
    rw [e]
    exact ih (i + 1) (by omega) m hm
theorem zip_map_add (x : UInt8) : ∀ (a b : List UInt8), List.zipWith (fun x y => x ^^^ y) a (b.map (gmul x)) = addR x b a
  | [], b => by simp [addR]
  | a :: l, [] => by simp [addR]
  | a :: l, b :: m => by
    have := zip_map_add x l m
    unfold addR at this ⊢
    simp only [List.map_cons, List.zipWith_cons_cons, this]
theorem plus_f (a b : List UInt8) (x : UInt8) (h : a.length = b.length) (hl : a.length ≤ 255) (k : Nat) (hk : 600 ≤ k) : corncribref02_plus.f k (txt a) (x.toNat : Int) (txt b) = some (txt (addR x b a)) := by
  unfold corncribref02_plus.f
  rw [scale_f x (txt b) (by rw [txt_size]; omega) k (by rw [txt_size]; omega), Option.bind_some, txt_list, ← zip_map_add]
  exact plus_from a (b.map (gmul x)) (by simpa using h) hl a.length 0 (by omega) k (by omega)
/-! Rows of texts. -/
/-- The row at g begins with the texts l. -/
def TxtAt (W : World) (g : Nat) (l : List ByteArray) : Prop := ∃ cur, W.heap[g]? = some (.cells cur 9 (0, 0)) ∧ cur.toList.take l.length = l.map Value.string
section
variable {W W' : World} {g : Nat} {l : List ByteArray}
theorem TxtAt.below (h : TxtAt W g l) (hb : Below W.heap.size W W') : TxtAt W' g l := by
  obtain ⟨cur, h1, h2⟩ := h
  exact ⟨cur, blk_below h1 hb, h2⟩
theorem TxtAt.heap (h : TxtAt W g l) (e : W'.heap = W.heap) : TxtAt W' g l := by unfold TxtAt; rw [e]; exact h
theorem TxtAt.cell (h : TxtAt W g l) (i : Nat) (hi : i < l.length) : W.cell? ⟨g, i, none⟩ = some (.string l[i]) := by
  obtain ⟨cur, h1, h2⟩ := h
  rw [blk_cell h1 i, ← Array.getElem?_toList]
  have : (cur.toList.take l.length)[i]? = some (.string l[i]) := by rw [h2, List.getElem?_map, List.getElem?_eq_getElem hi]; rfl
  rw [List.getElem?_take, if_pos hi] at this
  exact this
theorem TxtAt.frozen (h : TxtAt W g l) (i : Nat) : W.frozen? ⟨g, i, none⟩ = false := by
  obtain ⟨cur, h1, h2⟩ := h
  exact blk_frozen h1 i
theorem TxtAt.far (h : TxtAt W g l) {p : Addr} (hp : g ≠ p.block) (u : Value) : TxtAt (W.setCell p u) g l := by
  obtain ⟨cur, h1, h2⟩ := h
  exact ⟨cur, blk_far h1 hp u, h2⟩
theorem TxtAt.put (h : TxtAt W g l) (i : Nat) (hi : i < l.length) (s : ByteArray) : TxtAt (W.setCell ⟨g, i, none⟩ (.string s)) g (l.set i s) := by
  obtain ⟨cur, h1, h2⟩ := h
  refine ⟨_, blk_set h1 i (.string s), ?_⟩
  rw [List.length_set, List.map_set, ← h2]
  rw [Array.toList_setIfInBounds, List.take_set]
theorem TxtAt.of {base : Nat} {ok : Nat → Prop} {v : Value} (h : Kd.R Kd.string 9 W base ok v l) (hl : 0 < l.length) : ∃ g c, v = .slice (some ⟨g, 0, none⟩) l.length c ∧ base ≤ g ∧ TxtAt W g l := by
  have ho := Kd.own_of_R h
  rcases ho.2 with ⟨_, h0⟩ | ⟨g, c, cur, rfl, hg, hh, h1, h2, h3, h4⟩
  · omega
  · exact ⟨g, c, rfl, hg, cur, hh, by rw [Nat.mul_one] at h4; exact h4⟩
end
/-- What the document's Inverse works on. -/
structure SA (w : World) (b2 gl gr : Nat) (W : World) (L R : Grid) : Prop where
  l : TxtAt W gl (L.map txt)
  r : TxtAt W gr (R.map txt)
  ne : gl ≠ gr
  res : W.heap[b2]? = some (.cells #[.int .i64 0, .int .i64 0, .string ⟨#[]⟩] 74 (0, 0))
  bel : Below w.heap.size w W
  lw : w.heap.size ≤ gl
  rw_ : w.heap.size ≤ gr
theorem blk_txt_ne {W : World} {g b : Nat} {l : List ByteArray} {cs : Array Value} (h : TxtAt W g l) (hb : W.heap[b]? = some (.cells cs 74 (0, 0))) : b ≠ g := by
  obtain ⟨cur, h1, _⟩ := h
  intro e
  subst e
  rw [h1] at hb
  injection hb with hb
  injection hb with _ hb _
  exact absurd hb (by decide)
section
variable {w W W' : World} {b2 gl gr : Nat} {L R : Grid}
theorem SA.symm (h : SA w b2 gl gr W L R) : SA w b2 gr gl W R L := ⟨h.r, h.l, fun e => h.ne e.symm, h.res, h.bel, h.rw_, h.lw⟩
theorem SA.below (h : SA w b2 gl gr W L R) (hb : Below W.heap.size W W') : SA w b2 gl gr W' L R := ⟨h.l.below hb, h.r.below hb, h.ne, blk_below h.res hb, h.bel.trans (hb.mono h.bel.size), h.lw, h.rw_⟩
theorem SA.congr (h : SA w b2 gl gr W L R) (e : W'.heap = W.heap) (hb : Below w.heap.size w W') : SA w b2 gl gr W' L R := ⟨h.l.heap e, h.r.heap e, h.ne, by rw [e]; exact h.res, hb, h.lw, h.rw_⟩
theorem SA.call {Wd : World} (h : SA w b2 gl gr W L R) (hd : Below W.heap.size W Wd) (hb : Below Wd.heap.size Wd W') : SA w b2 gl gr W' L R := h.below (hd.trans (hb.mono hd.size))
theorem SA.put (h : SA w b2 gl gr W L R) (i : Nat) (hi : i < L.length) (x : List UInt8) : SA w b2 gl gr (W.setCell ⟨gl, i, none⟩ (.string (txt x))) (L.set i x) R :=
  ⟨by rw [List.map_set]; exact h.l.put i (by simpa using hi) _, h.r.far (fun e => h.ne e.symm) _, h.ne, blk_far h.res (blk_txt_ne h.l h.res) _, h.bel.setCell h.lw _, h.lw, h.rw_⟩
theorem SA.cell (h : SA w b2 gl gr W L R) (i : Nat) (hi : i < L.length) : W.cell? ⟨gl, i, none⟩ = some (.string (txt L[i])) ∧ W.frozen? ⟨gl, i, none⟩ = false := by
  refine ⟨?_, h.l.frozen i⟩
  have := h.l.cell i (by simpa using hi)
  rwa [List.getElem_map] at this
theorem SA.swap (h : SA w b2 gl gr W L R) (a b : Nat) (ha : a < L.length) (hb : b < L.length) : SA w b2 gl gr ((W.setCell ⟨gl, a, none⟩ (.string (txt L[b]))).setCell ⟨gl, b, none⟩ (.string (txt L[a]))) (swapR L a b) R := by
  have := (h.put a ha L[b]).put b (by rw [List.length_set]; exact hb) L[a]
  unfold swapR
  rw [rowAt_lt ha, rowAt_lt hb]
  exact this
end
/-- A text row that is cleared. -/
theorem SA.clear {w W : World} {b2 gl gr : Nat} {L2 M R : Grid} {n i c : Nat} (h : SA w b2 gl gr W (clearP c L2 M i) R) (hM : Sq n M) (hi : i < n) (hic : i ≠ c) : SA w b2 gl gr (W.setCell ⟨gl, i, none⟩ (.string (txt (addR (at2 L2 i c) (Gf.rowAt M c) (Gf.rowAt M i))))) (clearP c L2 M (i + 1)) R := by
  have h1 : i < M.length := by rw [hM.len]; exact hi
  have := h.put i (by rw [clearP_len]; exact h1) (addR (at2 L2 i c) (Gf.rowAt M c) (Gf.rowAt M i))
  rw [rowAt_lt h1] at this ⊢
  rwa [clearP_set c L2 M i h1 hic] at this
theorem SA.clearCell {w W : World} {b2 gl gr : Nat} {L2 M R : Grid} {n i c j : Nat} (h : SA w b2 gl gr W (clearP c L2 M i) R) (hM : Sq n M) (hj : j < n) (hij : i ≤ j ∨ j = c) : W.cell? ⟨gl, j, none⟩ = some (.string (txt (Gf.rowAt M j))) ∧ W.frozen? ⟨gl, j, none⟩ = false := by
  have h1 : j < M.length := by rw [hM.len]; exact hj
  have := h.cell j (by rw [clearP_len]; exact h1)
  rw [clearP_get _ _ _ _ _ h1, if_neg (by omega)] at this
  rw [rowAt_lt h1]
  exact this
theorem sq_row {n : Nat} {M : Grid} (hM : Sq n M) {j : Nat} (hj : j < n) : (Gf.rowAt M j).length = n := hM.rows j hj
theorem txt_app (a b : List UInt8) : txt a ++ txt b = txt (a ++ b) := by
  apply ByteArray.ext
  apply Array.ext'
  rw [ByteArray.data_append, Array.toList_append]
  rfl
theorem txt_at {l : List UInt8} (i : Nat) (h : i < (txt l).size) : (txt l)[i] = l.getD i 0 := by
  rw [getD_lt _ _ _ (by rw [txt_size] at h; exact h)]
  rfl
set_option maxRecDepth 100000 in
set_option maxHeartbeats 4000000 in
theorem refinv_walk (w : World) (n : Nat) (M R : Grid) (hM : Sq n M) (hn1 : 1 ≤ n) (hn2 : n ≤ 255) (hR : inverse M = some R) :
    Calls Tryd.prog 64 #[.agg #[.int .i64 (n : Int), .int .i64 (n : Int), .string (txt M.flatten)]] w fun e w' => e = .returned (.tuple #[.agg #[.int .i64 (n : Int), .int .i64 (n : Int), .string (txt R.flatten)], .int .i64 0]) ∧ Below w.heap.size w w' := by
  have hrows : ∀ r, r ∈ M → r.length = n := fun r hr => by
    obtain ⟨i, hi, rfl⟩ := List.getElem_of_mem hr
    have := hM.rows i (by rw [← hM.len]; exact hi)
    rwa [rowAt_lt hi] at this
  have hfl : (txt M.flatten).size = n * n := by rw [txt_size, flat_len M hrows, hM.len]
  have hone : ∀ r, r ∈ oneG n → r.length = n := fun r hr => by obtain ⟨i, hi, rfl⟩ := List.mem_map.1 hr; simp
  have hol : (oneG n).length = n := by simp [oneG]
  have hofl : (txt (oneG n).flatten).size = n * n := by rw [txt_size, flat_len _ hone, hol]
  have HC : Aside0 (∀ W, Calls Tryd.prog 91 #[.agg #[.int .i64 (n : Int), .int .i64 (n : Int), .string (txt M.flatten)]] W fun e w' => e = .returned (.int .i64 0) ∧ Below W.heap.size W w') := ⟨fun W => corncribref02_Check.calls _ _ _ _ W (refcheck2_f n n _ hn1 hn2 hn1 hn2 hfl)⟩
  have HRW : Aside0 (∀ W, Calls Tryd.prog 92 #[.agg #[.int .i64 (n : Int), .int .i64 (n : Int), .string (txt M.flatten)]] W fun e w' => ∃ v0_ : Value, e = .returned (v0_) ∧ Kd.R Kd.string 9 w' W.heap.size (fun _ => True) v0_ (M.map txt) ∧ Below W.heap.size W w') := ⟨fun W => corncribref02_rows.calls 300 _ _ _ _ W (by rw [rows_f n n _ hn2 hn2 hfl 300 (by omega), gridOf_txt n n M hM.len hrows])⟩
  have HRO : Aside0 (∀ W, Calls Tryd.prog 92 #[.agg #[.int .i64 (n : Int), .int .i64 (n : Int), .string (txt (oneG n).flatten)]] W fun e w' => ∃ v0_ : Value, e = .returned (v0_) ∧ Kd.R Kd.string 9 w' W.heap.size (fun _ => True) v0_ ((oneG n).map txt) ∧ Below W.heap.size W w') := ⟨fun W => corncribref02_rows.calls 300 _ _ _ _ W (by rw [rows_f n n _ hn2 hn2 hofl 300 (by omega), gridOf_txt n n _ hol hone])⟩
  have HON : Aside0 (∀ W, Calls Tryd.prog 84 #[.int .i64 (n : Int)] W fun e w' => e = .returned (.agg #[.int .i64 (n : Int), .int .i64 (n : Int), .string (txt (oneG n).flatten)]) ∧ Below W.heap.size W w') := ⟨fun W => corncribref02_One.calls 300 _ _ _ _ W (refone_f n hn2 300 (by omega))⟩
  have HIN : Aside0 (∀ (W : World) (y : UInt8), y ≠ 0 → Calls Tryd.prog 85 #[.int .u8 (y.toNat : Int)] W fun e w' => e = .returned (.tuple #[.int .u8 ((ginv y).toNat : Int), .int .i64 0]) ∧ Drawn0 W w') := ⟨fun W y hy => corncribref01_Inv.calls 300 _ _ _ W (refinv_f y hy 300 (by omega))⟩
  have HSC : Aside0 (∀ (W : World) (x : UInt8) (l : List UInt8), l.length = n → Calls Tryd.prog 83 #[.int .u8 (x.toNat : Int), .string (txt l)] W fun e w' => e = .returned (.string (txt (scaleR x l))) ∧ Below W.heap.size W w') := ⟨fun W x l hl => corncribref01_Scale.calls 300 _ _ _ W (by rw [scale_f x (txt l) (by rw [txt_size]; omega) 300 (by rw [txt_size]; omega), txt_list]; rfl)⟩
  have HPL : Aside0 (∀ (W : World) (x : UInt8) (a b : List UInt8), a.length = n → b.length = n → Calls Tryd.prog 93 #[.string (txt a), .int .u8 (x.toNat : Int), .string (txt b)] W fun e w' => e = .returned (.string (txt (addR x b a))) ∧ Below W.heap.size W w') := ⟨fun W x a b ha hb => corncribref02_plus.calls 600 _ _ _ _ W (plus_f a b x (by omega) (by omega) 600 (by omega))⟩
  have HMN := Aside0.mk hM
  have HIV := Aside0.mk hR
  have HMl : Aside0 ((M.map txt).length = n) := ⟨by rw [List.length_map]; exact hM.len⟩
  have HOl : Aside0 (((oneG n).map txt).length = n) := ⟨by rw [List.length_map]; exact hol⟩
  obtain ⟨t, ht⟩ : ∃ t : ByteArray, t = txt M.flatten := ⟨_, rfl⟩
  rw [← ht] at HC HRW ⊢
  clear ht hfl hrows hone hol hofl hM hR
  go_enter Tryd.func64, Tryd.ntmps64
  have hbx : (w.alloc (.cells #[.int .i64 (n : Int), .int .i64 (n : Int), .string t] 74)).heap[w.heap.size]? = some (.cells #[.int .i64 (n : Int), .int .i64 (n : Int), .string t] 74 (0, 0)) := blk_new _ _
  go_wp2_with fail
  refine (HC.out _).mono ?_
  rintro e w1 ⟨rfl, hb1⟩
  have hsz1 : w.heap.size + 2 ≤ w1.heap.size := by
    have := hb1.size
    simpa using this
  have X1 := Aside0.mk (blk_below (blk_alloc hbx (.cells #[.int .i64 0, .int .i64 0, .string ⟨#[]⟩] 74 (0, 0))) hb1)
  have R1 : Aside0 (w1.heap[w.heap.size + 1]? = some (.cells #[.int .i64 0, .int .i64 0, .string ⟨#[]⟩] 74 (0, 0))) := ⟨by
    have := blk_below (blk_new (w.alloc (.cells #[.int .i64 (n : Int), .int .i64 (n : Int), .string t] 74)) (.cells #[.int .i64 0, .int .i64 0, .string ⟨#[]⟩] 74 (0, 0))) hb1
    simpa using this⟩
  have B1 : Aside0 (Below w.heap.size w w1) := ⟨(((Below.refl _ _).alloc (Nat.le_refl _) _).alloc (by simp) _).trans (hb1.mono (by simp; omega))⟩
  clear hb1 hbx
  have c10 := blk_cell X1.out 0
  have c11 := blk_cell X1.out 1
  have c12 := blk_cell X1.out 2
  go_wp2_with fail
  refine (HRW.out _).mono ?_
  rintro e w2 ⟨vl, rfl, hkl, hb2⟩
  obtain ⟨gl, cl, hvl, hgl, htl⟩ := TxtAt.of hkl (by rw [HMl.out]; exact hn1)
  rw [HMl.out] at hvl
  subst hvl
  have R2 := Aside0.mk (blk_below R1.out hb2)
  have B2 : Aside0 (Below w.heap.size w w2) := ⟨B1.out.trans (hb2.mono B1.out.size)⟩
  have T2 := Aside0.mk (And.intro htl (Nat.le_trans B1.out.size hgl))
  clear hb2 hkl hgl htl c10 c11 c12 X1 R1 B1 HC
  go_wp2_with fail
  refine (HON.out _).mono ?_
  rintro e w3 ⟨rfl, hb3⟩
  have R3 := Aside0.mk (blk_below R2.out hb3)
  have B3 : Aside0 (Below w.heap.size w w3) := ⟨B2.out.trans (hb3.mono B2.out.size)⟩
  have T3 := Aside0.mk (And.intro (T2.out.1.below hb3) T2.out.2)
  clear hb3 R2 B2 T2
  go_wp2_with fail
  refine (HRO.out _).mono ?_
  rintro e w4 ⟨vr, rfl, hkr, hb4⟩
  obtain ⟨gr, cr, hvr, hgr, htr⟩ := TxtAt.of hkr (by rw [HOl.out]; exact hn1)
  rw [HOl.out] at hvr
  subst hvr
  have HS0 : Aside0 (SA w (w.heap.size + 1) gl gr w4 M (oneG n)) := ⟨T3.out.1.below hb4, htr, fun e => by
    obtain ⟨cur, h, _⟩ := T3.out.1
    have := blk_lt h
    omega, blk_below R3.out hb4, B3.out.trans (hb4.mono B3.out.size), T3.out.2, Nat.le_trans B3.out.size hgr⟩
  have HJ0 : Aside0 (gj (n - 0) 0 M (oneG n) = some R ∧ Sq n M ∧ Sq n (oneG n)) := ⟨by have := HIV.out; unfold inverse at this; rw [HMN.out.len] at this; exact this, HMN.out, one_sq n⟩
  clear hb4 hkr hgr htr R3 B3 T3 HRO HRW HON HMl HOl HMN HIV
  go_wp2_with fail
  go_loopw [7] (fun v W => ∃ (c : Nat) (L Q : Grid), c ≤ n ∧ v = .int .i64 (c : Int) ∧ Aside0 (SA w (w.heap.size + 1) gl gr W L Q) ∧ Aside0 (gj (n - c) c L Q = some R ∧ Sq n L ∧ Sq n Q)) (fun v _ => n - (intOf v).toNat)
  case atStart => exact ⟨0, M, oneG n, by omega, rfl, HS0, HJ0⟩
  case round =>
    obtain ⟨c, L, Q, hcn, rfl, HS, HJ⟩ := hrel
    clear HS0 HJ0
    by_cases hlt : c < n
    · obtain ⟨pv, hpe, hcp, hpn, hpz, hpb, hgj⟩ := step_facts HJ.out.2.1 hlt HJ.out.1
      have HPB := Aside0.mk hpb
      have HPZ := Aside0.mk hpz
      have HPE := Aside0.mk hpe
      have HGJ := Aside0.mk hgj
      have HSL := Aside0.mk HJ.out.2.1
      have HSQ := Aside0.mk HJ.out.2.2
      have dlt : decide ((c : Int) < (n : Int)) = true := decide_eq_true (by omega)
      clear hpb hpz hpe hgj HJ
      go_wp2_with fail
      go_loop [8] (fun v => ∃ a : Nat, c ≤ a ∧ a ≤ pv ∧ v = .int .i64 (a : Int)) (fun v => n - (intOf v).toNat)
      case atStart => exact ⟨c, by omega, hcp, rfl⟩
      case round =>
        obtain ⟨a, hca, hap, rfl⟩ := hrel
        have han : a < n := by omega
        obtain ⟨ha1, ha2, hae⟩ := at2_get HSL.out a c han hlt
        have k1 := (HS.out.cell a ha1).1
        have hts : c < (txt L[a]).size := by rw [txt_size]; exact ha2
        have hby : (txt L[a])[c] = at2 L a c := by rw [txt_at, ← hae, getD_lt _ _ _ ha2]
        have dan : decide ((a : Int) < (n : Int)) = true := decide_eq_true (by omega)
        have hsz : (txt L[a]).size = n := by rw [txt_size]; have := HSL.out.rows a han; rwa [rowAt_lt ha1] at this
        have hszb : (txt L[a]).size < 1000 := by omega
        clear hae ha2 hsz
        generalize txt L[a] = s at *
        by_cases hav : a = pv
        · subst hav
          obtain ⟨z, hz⟩ : ∃ z, (at2 L a c).toNat = z := ⟨_, rfl⟩
          have hz0 : ¬ z = 0 := fun e => HPZ.out (b_ext (by rw [hz, e]; rfl))
          have hzl : z < 256 := by rw [← hz]; exact b_lt _
          have hby2 : s[c].toNat = z := by rw [hby, hz]
          have dz : ((z : Int) == 0) = false := by simp; omega
          have dan2 : ((a : Int) == (n : Int)) = false := by simp; omega
          clear hby hz
          have hc1 : c < L.length := by rw [HSL.out.len]; exact hlt
          have HKC := Aside0.mk (HS.out.cell c hc1)
          have HSW := Aside0.mk (HS.out.swap c a hc1 ha1)
          go_upto_region 13 with (fail)
          clear k1 hts hby2 dz hszb dan
          go_cut [8] (fun v8 wc => v8 = .int .i64 (a : Int) ∧ Aside0 (SA w (w.heap.size + 1) gl gr wc (swapR L c a) Q))
          case first =>
            have q1 := HKC.out.1
            have q2 := HKC.out.2
            have q3 := (HS.out.cell a ha1).1
            have q4 := (HS.out.cell a ha1).2
            have q5 := ((HS.out.put c hc1 L[a]).cell a (by rw [List.length_set]; exact ha1)).1
            have HSB := Aside0.mk HS.out.bel
            have HSLW := Aside0.mk HS.out.lw
            obtain ⟨ta, hta⟩ : ∃ ta, txt L[a] = ta := ⟨_, rfl⟩
            obtain ⟨tc, htc⟩ : ∃ tc, txt L[c] = tc := ⟨_, rfl⟩
            rw [hta, htc] at HSW
            rw [htc] at q1
            rw [hta] at q3
            have q5 : (wr.setCell ⟨gl, c, none⟩ (.string ta)).cell? ⟨gl, a, none⟩ = some (.string ta) := by
              rw [hta] at q5
              rw [q5, List.getElem_set]
              by_cases e : c = a
              · rw [if_pos e, hta]
              · rw [if_neg e, hta]
            clear hta htc
            go_region_law (fail)
            all_goals (try go_wp2_with fail)
            all_goals go_meet
            all_goals (case rel => exact ⟨rfl, ⟨SA.congr HSW.out rfl (by repeat (first | exact HSB.out | refine Below.setCell ?_ HSLW.out _ | apply below_drew1 | apply pw_below_drewN))⟩⟩)
          case rest =>
            obtain ⟨rfl, HS1⟩ := hcut
            have hc2 : c < Q.length := by rw [HSQ.out.len]; exact hlt
            have ha2 : a < Q.length := by rw [HSQ.out.len]; exact han
            have HSW1 := Aside0.mk (HS1.out.symm.swap c a hc2 ha2)
            have HKC1 := Aside0.mk (HS1.out.symm.cell c hc2)
            go_upto_region 14 with (fail)
            clear HSW HKC
            go_cut [8] (fun v8 wd => v8 = .int .i64 (a : Int) ∧ Aside0 (SA w (w.heap.size + 1) gl gr wd (swapR L c a) (swapR Q c a)))
            case first =>
              have q1 := HKC1.out.1
              have q2 := HKC1.out.2
              have q3 := (HS1.out.symm.cell a ha2).1
              have q4 := (HS1.out.symm.cell a ha2).2
              have q5 := ((HS1.out.symm.put c hc2 Q[a]).cell a (by rw [List.length_set]; exact ha2)).1
              have HSB := Aside0.mk HS1.out.bel
              have HSLW := Aside0.mk HS1.out.rw_
              obtain ⟨ta, hta⟩ : ∃ ta, txt Q[a] = ta := ⟨_, rfl⟩
              obtain ⟨tc, htc⟩ : ∃ tc, txt Q[c] = tc := ⟨_, rfl⟩
              rw [hta, htc] at HSW1
              rw [htc] at q1
              rw [hta] at q3
              have q5 : (wc.setCell ⟨gr, c, none⟩ (.string ta)).cell? ⟨gr, a, none⟩ = some (.string ta) := by
                rw [hta] at q5
                rw [q5, List.getElem_set]
                by_cases e : c = a
                · rw [if_pos e, hta]
                · rw [if_neg e, hta]
              clear hta htc
              go_region_law (fail)
              all_goals (try go_wp2_with fail)
              all_goals go_meet
              all_goals (case rel => exact ⟨rfl, ⟨SA.symm (by refine SA.congr HSW1.out rfl ?_; repeat (first | exact HSB.out | refine Below.setCell ?_ HSLW.out _ | apply below_drew1 | apply pw_below_drewN))⟩⟩)
            case rest =>
              obtain ⟨rfl, HS2⟩ := hcut
              have hL1 : Sq n (swapR L c a) := sq_swap HSL.out hlt han
              have hQ1 : Sq n (swapR Q c a) := sq_swap HSQ.out hlt han
              have hat : at2 (swapR L c a) c c ≠ 0 := by
                rw [at2_swap HSL.out hlt han]
                by_cases e : c = a
                · rw [if_pos e]
                  have := HPZ.out
                  rw [← e] at this
                  exact this
                · rw [if_neg e, if_pos rfl]
                  exact HPZ.out
              obtain ⟨L1, hL1e⟩ : ∃ L1, L1 = swapR L c a := ⟨_, rfl⟩
              obtain ⟨Q1, hQ1e⟩ : ∃ Q1, Q1 = swapR Q c a := ⟨_, rfl⟩
              rw [← hL1e] at HS2 hL1 hat
              rw [← hQ1e] at HS2 hQ1
              have HX : Aside0 (gjBy c L = ginv (at2 L1 c c) ∧ gjL c L = L1 ∧ swapR Q c (pivot L c) = Q1) := ⟨by
                have e1 : gjL c L = L1 := by unfold gjL; rw [HPE.out, hL1e]
                refine ⟨by unfold gjBy; rw [e1], e1, by rw [HPE.out, hQ1e]⟩⟩
              clear hL1e hQ1e
              have HL1 := Aside0.mk hL1
              have HQ1 := Aside0.mk hQ1
              have HI := Aside0.mk (fun W => HIN.out W (at2 L1 c c) hat)
              have hc3 : c < L1.length := by rw [hL1.len]; exact hlt
              have hc4 : c < Q1.length := by rw [hQ1.len]; exact hlt
              have k1 := (HS2.out.cell c hc3).1
              rw [← rowAt_lt hc3] at k1
              have hts : c < (txt (Gf.rowAt L1 c)).size := by rw [txt_size, sq_row hL1 hlt]; exact hlt
              have hby : (txt (Gf.rowAt L1 c))[c].toNat = (at2 L1 c c).toNat := by rw [txt_at]; rfl
              have hszb : (txt (Gf.rowAt L1 c)).size < 1000 := by rw [txt_size, sq_row hL1 hlt]; omega
              clear hL1 hQ1 hat HSW1 HKC1
              obtain ⟨y, hy⟩ : ∃ y, ginv (at2 L1 c c) = y := ⟨_, rfl⟩
              rw [hy] at HX HI
              obtain ⟨yo, hyo⟩ : ∃ yo, (at2 L1 c c).toNat = yo := ⟨_, rfl⟩
              have hyob : yo < 256 := by rw [← hyo]; exact b_lt _
              rw [hyo] at hby HI
              have hyb := b_lt y
              clear hy hyo
              have HTS := Aside0.mk hts
              generalize hrow : txt (Gf.rowAt L1 c) = s1 at *
              have HROW := Aside0.mk hrow
              clear hrow
              go_wp2_with fail
              refine (HI.out _).mono ?_
              rintro e w6 ⟨rfl, ⟨nd, rfl⟩⟩
              have HS6 := Aside0.mk (HS2.out.below (pw_below_drewN (Below.refl _ _) nd))
              clear HS2 HI hts hby hszb
              have HSC1 := Aside0.mk (fun W => HSC.out W y (Gf.rowAt L1 c) (sq_row HL1.out hlt))
              rw [HROW.out] at HSC1
              go_wp2_with fail
              refine (HSC1.out _).mono ?_
              rintro e w7 ⟨rfl, hb7⟩
              have HS7 := Aside0.mk (HS6.out.below hb7)
              have f7 := (HS7.out.cell c hc3).2
              have g7 := (HS7.out.cell c hc3).1
              have HS8 := Aside0.mk (HS7.out.put c hc3 (scaleR y (Gf.rowAt L1 c)))
              have e8 : L1.set c (scaleR y (Gf.rowAt L1 c)) = gjS c y L1 := rfl
              rw [e8] at HS8
              clear hb7 HS6 k1 e8
              have k8 := (HS8.out.symm.cell c hc4).1
              rw [← rowAt_lt hc4] at k8
              have HSC2 := Aside0.mk (fun W => HSC.out W y (Gf.rowAt Q1 c) (sq_row HQ1.out hlt))
              generalize txt (scaleR y (Gf.rowAt L1 c)) = tx7 at *
              go_wp2_with fail
              refine (HSC2.out _).mono ?_
              rintro e w9 ⟨rfl, hb9⟩
              have HS9 := Aside0.mk (HS8.out.below hb9)
              have f9 := (HS9.out.symm.cell c hc4).2
              have g9 := (HS9.out.symm.cell c hc4).1
              have HS10 := Aside0.mk (HS9.out.symm.put c hc4 (scaleR y (Gf.rowAt Q1 c))).symm
              have e8 : Q1.set c (scaleR y (Gf.rowAt Q1 c)) = gjS c y Q1 := rfl
              rw [e8] at HS10
              clear hb9 HS7 HS8 e8 k8 f7 g7
              generalize txt (scaleR y (Gf.rowAt Q1 c)) = tx9 at *
              go_wp2_with fail
              have hL2 : Sq n (gjS c y L1) := sq_scale HL1.out hlt y
              have hQ2 : Sq n (gjS c y Q1) := sq_scale HQ1.out hlt y
              have HST : Aside0 (clearC c (gjS c y L1) (gjS c y L1) = stepL c L ∧ clearC c (gjS c y L1) (gjS c y Q1) = stepR c L Q) := ⟨by
                unfold stepL stepR
                rw [HX.out.2.2, HX.out.1, HX.out.2.1]
                exact ⟨rfl, rfl⟩⟩
              obtain ⟨L2, hL2e⟩ : ∃ L2, gjS c y L1 = L2 := ⟨_, rfl⟩
              obtain ⟨Q2, hQ2e⟩ : ∃ Q2, gjS c y Q1 = Q2 := ⟨_, rfl⟩
              rw [hL2e] at HS10 hL2 HST
              rw [hQ2e] at HS10 hQ2 HST
              have HL2 := Aside0.mk hL2
              have HQ2 := Aside0.mk hQ2
              have HS11 : Aside0 (SA w (w.heap.size + 1) gl gr (w9.setCell ⟨gr, c, none⟩ (.string tx9)) (clearP c L2 L2 0) (clearP c L2 Q2 0)) := ⟨by rw [clearP_zero, clearP_zero]; exact HS10.out⟩
              clear HS9 HS10 hL2e hQ2e hL2 hQ2 HL1 HQ1 HX f9 g9 HSC1 HSC2 HROW HTS
              go_loopw [11] (fun v W => ∃ i : Nat, i ≤ n ∧ v = .int .i64 (i : Int) ∧ Aside0 (SA w (w.heap.size + 1) gl gr W (clearP c L2 L2 i) (clearP c L2 Q2 i))) (fun v _ => n - (intOf v).toNat)
              case atStart => exact ⟨0, by omega, rfl, HS11⟩
              case round =>
                obtain ⟨i, hin, rfl, HS12⟩ := hrel
                clear HS11
                by_cases hil : i < n
                · have din : decide ((i : Int) < (n : Int)) = true := decide_eq_true (by omega)
                  by_cases hic : i = c
                  · have HK : Aside0 (clearP c L2 L2 (i + 1) = clearP c L2 L2 i ∧ clearP c L2 Q2 (i + 1) = clearP c L2 Q2 i) := ⟨clear_keep HL2.out hil hlt (.inl hic), clear_keep HQ2.out hil hlt (.inl hic)⟩
                    have HS13 : Aside0 (SA w (w.heap.size + 1) gl gr wr (clearP c L2 L2 (i + 1)) (clearP c L2 Q2 (i + 1))) := ⟨by rw [HK.out.1, HK.out.2]; exact HS12.out⟩
                    have hbc : ((i : Int) != (c : Int)) = false := by simp [hic]
                    clear hic
                    go_wp2_with fail
                    go_roundw
                    case rel => exact ⟨i + 1, by omega, by go_num, HS13⟩
                    case measure => simp [intOf]; omega
                  · have hbc : ((i : Int) != (c : Int)) = true := by simp; omega
                    obtain ⟨ki, fi⟩ := HS12.out.clearCell HL2.out hil (.inl (Nat.le_refl _))
                    have hts : c < (txt (Gf.rowAt L2 i)).size := by rw [txt_size, sq_row HL2.out hil]; exact hlt
                    have hby : (txt (Gf.rowAt L2 i))[c].toNat = (at2 L2 i c).toNat := by rw [txt_at]; rfl
                    have hszb : (txt (Gf.rowAt L2 i)).size < 1000 := by rw [txt_size, sq_row HL2.out hil]; omega
                    have HP1 := Aside0.mk (fun W => HPL.out W (at2 L2 i c) (Gf.rowAt L2 i) (Gf.rowAt L2 c) (sq_row HL2.out hil) (sq_row HL2.out hlt))
                    have HP2 := Aside0.mk (fun W => HPL.out W (at2 L2 i c) (Gf.rowAt Q2 i) (Gf.rowAt Q2 c) (sq_row HQ2.out hil) (sq_row HQ2.out hlt))
                    have HCL : Aside0 (∀ W, SA w (w.heap.size + 1) gl gr W (clearP c L2 L2 i) (clearP c L2 Q2 i) → SA w (w.heap.size + 1) gl gr (W.setCell ⟨gl, i, none⟩ (.string (txt (addR (at2 L2 i c) (Gf.rowAt L2 c) (Gf.rowAt L2 i))))) (clearP c L2 L2 (i + 1)) (clearP c L2 Q2 i)) := ⟨fun W h => h.clear HL2.out hil hic⟩
                    have HCR : Aside0 (∀ W, SA w (w.heap.size + 1) gl gr W (clearP c L2 L2 (i + 1)) (clearP c L2 Q2 i) → SA w (w.heap.size + 1) gl gr (W.setCell ⟨gr, i, none⟩ (.string (txt (addR (at2 L2 i c) (Gf.rowAt Q2 c) (Gf.rowAt Q2 i))))) (clearP c L2 L2 (i + 1)) (clearP c L2 Q2 (i + 1))) := ⟨fun W h => (h.symm.clear HQ2.out hil hic).symm⟩
                    have HCE : Aside0 (∀ W, SA w (w.heap.size + 1) gl gr W (clearP c L2 L2 i) (clearP c L2 Q2 i) → W.cell? ⟨gl, c, none⟩ = some (.string (txt (Gf.rowAt L2 c)))) := ⟨fun W h => (h.clearCell HL2.out hlt (.inr rfl)).1⟩
                    have HCF : Aside0 (∀ W, SA w (w.heap.size + 1) gl gr W (clearP c L2 L2 i) (clearP c L2 Q2 i) → W.cell? ⟨gl, i, none⟩ = some (.string (txt (Gf.rowAt L2 i))) ∧ W.frozen? ⟨gl, i, none⟩ = false) := ⟨fun W h => h.clearCell HL2.out hil (.inl (Nat.le_refl _))⟩
                    have HCG : Aside0 (∀ W, SA w (w.heap.size + 1) gl gr W (clearP c L2 L2 (i + 1)) (clearP c L2 Q2 i) → W.cell? ⟨gr, c, none⟩ = some (.string (txt (Gf.rowAt Q2 c))) ∧ W.cell? ⟨gr, i, none⟩ = some (.string (txt (Gf.rowAt Q2 i))) ∧ W.frozen? ⟨gr, i, none⟩ = false) := ⟨fun W h => ⟨(h.symm.clearCell HQ2.out hlt (.inr rfl)).1, h.symm.clearCell HQ2.out hil (.inl (Nat.le_refl _))⟩⟩
                    obtain ⟨z, hz⟩ : ∃ z, (at2 L2 i c).toNat = z := ⟨_, rfl⟩
                    have hzl : z < 256 := by rw [← hz]; exact b_lt _
                    rw [hz] at hby HP1 HP2
                    generalize txt (Gf.rowAt L2 i) = tli at *
                    generalize txt (Gf.rowAt L2 c) = tlc at *
                    generalize txt (Gf.rowAt Q2 i) = tqi at *
                    generalize txt (Gf.rowAt Q2 c) = tqc at *
                    generalize txt (addR (at2 L2 i c) (Gf.rowAt L2 c) (Gf.rowAt L2 i)) = tl at *
                    generalize txt (addR (at2 L2 i c) (Gf.rowAt Q2 c) (Gf.rowAt Q2 i)) = tq at *
                    clear hz
                    go_upto_region 23 with (fail)
                    clear hts hby hszb
                    have kc := HCE.out _ HS12.out
                    go_cut [12] (fun v12 wc => v12 = .int .u8 (z : Int) ∧ Aside0 (SA w (w.heap.size + 1) gl gr wc (clearP c L2 L2 (i + 1)) (clearP c L2 Q2 i)))
                    case first =>
                      go_region_law (first | (go_simp; go_at_call 93; refine (HP1.out _).mono ?_; rintro e w6 ⟨rfl, hb6⟩; have HS13 := Aside0.mk (HS12.out.call (by repeat (first | exact Below.refl _ _ | apply below_drew1 | apply pw_below_drewN)) hb6); have k6 := (HCF.out _ HS13.out).1; have f6 := (HCF.out _ HS13.out).2; have HS14 := Aside0.mk (HCL.out _ HS13.out); clear hb6))
                      all_goals (try go_wp2_with fail)
                      all_goals go_meet
                      all_goals (case rel => exact ⟨rfl, ⟨SA.congr HS14.out rfl (by repeat (first | exact HS14.out.bel | apply below_drew1 | apply pw_below_drewN))⟩⟩)
                    case rest =>
                      obtain ⟨rfl, HS15⟩ := hcut
                      go_upto_region 24 with (fail)
                      have kq := (HCG.out _ HS15.out).1
                      have kj := (HCG.out _ HS15.out).2.1
                      go_region_law (first | (go_simp; go_at_call 93; refine (HP2.out _).mono ?_; rintro e w6 ⟨rfl, hb6⟩; have HS16 := Aside0.mk (HS15.out.call (by repeat (first | exact Below.refl _ _ | apply below_drew1 | apply pw_below_drewN)) hb6); have k6 := (HCG.out _ HS16.out).2.1; have f6 := (HCG.out _ HS16.out).2.2; have HS17 := Aside0.mk (HCR.out _ HS16.out); clear hb6))
                      all_goals (try go_wp2_with fail)
                      all_goals go_roundw
                      all_goals first
                        | (case rel => exact ⟨i + 1, by omega, by go_num, ⟨SA.congr HS17.out rfl (by repeat (first | exact HS17.out.bel | apply below_drew1 | apply pw_below_drewN))⟩⟩)
                        | skip
                      all_goals (case measure => simp [intOf]; omega)
                · have hie : i = n := by omega
                  have HSF : Aside0 (SA w (w.heap.size + 1) gl gr wr (stepL c L) (stepR c L Q)) := ⟨by
                    have := HS12.out
                    rw [hie, clear_end HL2.out, clear_end HQ2.out, HST.out.1, HST.out.2] at this
                    exact this⟩
                  have HJF : Aside0 (gj (n - (c + 1)) (c + 1) (stepL c L) (stepR c L Q) = some R ∧ Sq n (stepL c L) ∧ Sq n (stepR c L Q)) := ⟨HGJ.out, by rw [← HST.out.1]; exact sq_clear HL2.out hlt, by rw [← HST.out.2]; exact sq_clear HQ2.out hlt⟩
                  have din : decide ((i : Int) < (n : Int)) = false := decide_eq_false (by omega)
                  clear hie
                  go_wp2_with fail
                  go_roundw
                  case rel => exact ⟨c + 1, stepL c L, stepR c L Q, by omega, by go_num, HSF, HJF⟩
                  case measure => simp [intOf]; omega
        · have hz : at2 L a c = 0 := HPB.out a hca (by omega)
          have hby2 : s[c].toNat = 0 := by rw [hby, hz]; rfl
          clear hby hz
          go_wp2_with fail
          go_round
          case rel => exact ⟨a + 1, by omega, by omega, by go_num⟩
          case measure => simp [intOf]; omega
    · have hce : c = n := by omega
      have hQR : Q = R := by
        have := HJ.out.1
        rw [hce, Nat.sub_self] at this
        unfold gj at this
        injection this
      have dlt : decide ((c : Int) < (n : Int)) = false := decide_eq_false (by omega)
      have hQl := HJ.out.2.2.len
      have HCE : Aside0 (∀ i, i < n → wr.cell? ⟨gr, i, none⟩ = some (.string (txt (Gf.rowAt Q i)))) := ⟨fun i hi => by
        have h1 : i < Q.length := by rw [hQl]; exact hi
        have := (HS.out.symm.cell i h1).1
        rw [rowAt_lt h1]
        exact this⟩
      have HTK : Aside0 (∀ i, i < n → txt (Q.take i).flatten ++ txt (Gf.rowAt Q i) = txt (Q.take (i + 1)).flatten) := ⟨fun i hi => by
        have h1 : i < Q.length := by rw [hQl]; exact hi
        rw [txt_app, rowAt_lt h1]
        congr 1
        rw [List.take_succ_eq_append_getElem h1, List.flatten_append, List.flatten_singleton]⟩
      have HSZ : Aside0 (∀ i, i < n → (txt (Q.take i).flatten).size + (txt (Gf.rowAt Q i)).size ≤ 131072) := ⟨fun i hi => by
        have hrq : ∀ r, r ∈ Q.take i → r.length = n := fun r hr => by
          obtain ⟨j, hj, rfl⟩ := List.getElem_of_mem (List.mem_of_mem_take hr)
          have := HJ.out.2.2.rows j (by rw [← hQl]; exact hj)
          rwa [rowAt_lt hj] at this
        rw [txt_size, txt_size, flat_len _ hrq, HJ.out.2.2.rows i hi, List.length_take]
        have h1 : min i Q.length * n ≤ 255 * 255 := Nat.mul_le_mul (by omega) hn2
        omega⟩
      have HTF : Aside0 (txt (Q.take n).flatten = txt R.flatten) := ⟨by rw [List.take_of_length_le (by rw [hQl]; exact Nat.le_refl _), hQR]⟩
      have HT0 : Aside0 (txt (Q.take 0).flatten = ⟨#[]⟩) := ⟨rfl⟩
      clear hQR hce HJ hQl
      go_wp2_with fail
      go_loop [13, 14] (fun s v => ∃ i : Nat, i ≤ n ∧ v = .int .i64 (i : Int) ∧ s = .string (txt (Q.take i).flatten)) (fun _ v => n - (intOf v).toNat)
      case atStart => exact ⟨0, by omega, rfl, by rw [HT0.out]⟩
      case round =>
        obtain ⟨i, hi, rfl, rfl⟩ := hrel
        by_cases hil : i < n
        · have k1 := HCE.out i hil
          have HTS := Aside0.mk (HTK.out i hil)
          have hsz := HSZ.out i hil
          have din : decide ((i : Int) < (n : Int)) = true := decide_eq_true (by omega)
          generalize txt (Q.take i).flatten = s1 at *
          generalize txt (Gf.rowAt Q i) = s2 at *
          have hszn : ¬ 9223372036854775807 < s1.size + s2.size := by omega
          go_wp2_with fail
          go_round
          case rel => exact ⟨i + 1, by omega, by go_num, by rw [← HTS.out]⟩
          case measure => simp [intOf]; omega
        · have hie : i = n := by omega
          have HTZ : Aside0 (txt (Q.take i).flatten = txt R.flatten) := ⟨by rw [hie]; exact HTF.out⟩
          have din : decide ((i : Int) < (n : Int)) = false := decide_eq_false (by omega)
          generalize txt (Q.take i).flatten = s1 at *
          have s0 := blk_cell HS.out.res 0
          have s3 := blk_cell HS.out.res 1
          have s2 := blk_cell HS.out.res 2
          have f0 := blk_frozen HS.out.res 0
          have f1 := blk_frozen HS.out.res 1
          have f2 := blk_frozen HS.out.res 2
          clear hie
          go_wp2
          refine bodyPost_ret (results_list (rs := [.cell 2 74, .tmp 3]) rfl (by simp) (Vals.cell (w.heap.size + 1) 74 _ (0, 0) _ rfl (blk_put (blk_put (blk_put HS.out.res 0 _ rfl) 1 _ rfl) 2 _ rfl) Tryd.underlying74 rfl (by kernel_rfl) (Vals.tmp Vals.nil))) rfl ?_
          rw [HTZ.out]
          exact ⟨rfl, ((HS.out.bel.setCell (Nat.le_succ _) _).setCell (Nat.le_succ _) _).setCell (Nat.le_succ _) _⟩
def corncribref02_Inverse.f (a0_0 : Int) (a0_1 : Int) (a0_2 : ByteArray) : Option (Int × Int × ByteArray × Int) := invF a0_0 a0_1 a0_2
theorem corncribref02_Inverse.calls (a0_0 : Int) (a0_1 : Int) (a0_2 : ByteArray) (r1 : Int) (r2 : Int) (r3 : ByteArray) (r4 : Int) (w : World) (h : corncribref02_Inverse.f a0_0 a0_1 a0_2 = some (r1, r2, r3, r4)) :
    Calls Tryd.prog 64 #[.agg #[.int .i64 a0_0, .int .i64 a0_1, .string a0_2]] w fun e w' => e = .returned (.tuple #[.agg #[.int .i64 r1, .int .i64 r2, .string r3], .int .i64 r4]) ∧ Below w.heap.size w w' := by
  obtain ⟨n, M, R, rfl, rfl, rfl, hM, h1, h2, hR, rfl, rfl, rfl, rfl⟩ := invF_nat h
  exact refinv_walk w n M R hM h1 h2 hR
end Go.Proofs.YtegmmefijihdeaaDoor.PS
namespace Go.Proofs.YtegmmefijihdeaaDoor.PS
open Go.RowKit Go.Proofs.YtegmmefijihdeaaDoorW.PrintWords Go.Proofs.YtegmmefijihdeaaDoorW.PrintLast Go.Proofs.YtegmmefijihdeaaDoorW.PrintMore Go.Proofs.YtegmmefijihdeaaDoor.Gf Go.Proofs.YtegmmefijihdeaaDoor.Grd Go.Proofs.YtegmmefijihdeaaDoor.Rowb Go.Proofs.YtegmmefijihdeaaDoor.Fld
set_option linter.unusedVariables false
set_option linter.unusedSimpArgs false
theorem below_call {W0 W Wd W' : World} (h : Below W0.heap.size W0 W) (hd : Below W.heap.size W Wd) (hb : Below Wd.heap.size Wd W') : Below W0.heap.size W0 W' := h.trans ((hd.trans (hb.mono hd.size)).mono h.size)
section
variable (w : World) (R C : Nat) (s : ByteArray) (h1 : 1 ≤ R) (h2 : R ≤ 255) (h3 : 1 ≤ C) (h4 : C ≤ 255) (h5 : s.size = R * C) (rs : List Nat) (A1 : Option Addr) (c1 : Nat)
variable (hrd : Kd.C (Kd.int .i64) w A1 rs.length (rs.map fun n : Nat => (n : Int))) (hcap : rs.length ≤ c1) (hrs : ∀ r, r ∈ rs → r < R) (hl1 : 1 ≤ rs.length) (hl2 : rs.length ≤ 255)
include h1 h2 h3 h4 h5 hrd hcap hrs hl1 hl2
set_option maxRecDepth 100000 in
set_option maxHeartbeats 4000000 in
theorem refpick_walk : Calls Tryd.prog 63 #[.agg #[.int .i64 (R : Int), .int .i64 (C : Int), .string s], .slice A1 rs.length c1] w fun e w' => e = .returned (.tuple #[.agg #[.int .i64 (rs.length : Int), .int .i64 (C : Int), .string (txt (pickG (gridOf R C s) rs).flatten)], .int .i64 0]) ∧ Below w.heap.size w w' := by
  have HC : Aside0 (∀ W, Calls Tryd.prog 91 #[.agg #[.int .i64 (R : Int), .int .i64 (C : Int), .string s]] W fun e w' => e = .returned (.int .i64 0) ∧ Below W.heap.size W w') := ⟨fun W => corncribref02_Check.calls _ _ _ _ W (refcheck2_f R C _ h1 h2 h3 h4 h5)⟩
  have HRW : Aside0 (∀ W, Calls Tryd.prog 92 #[.agg #[.int .i64 (R : Int), .int .i64 (C : Int), .string s]] W fun e w' => ∃ v0_ : Value, e = .returned (v0_) ∧ Kd.R Kd.string 9 w' W.heap.size (fun _ => True) v0_ ((gridOf R C s).map txt) ∧ Below W.heap.size W w') := ⟨fun W => corncribref02_rows.calls 300 _ _ _ _ W (rows_f R C _ h2 h4 h5 300 (by omega))⟩
  have HGL : Aside0 (((gridOf R C s).map txt).length = R) := ⟨by rw [List.length_map, gridOf_len]⟩
  have hgl := gridOf_len R C s
  have hgr := gridOf_rows R C s h5
  have HGE : Aside0 (∀ x (hx : x < ((gridOf R C s).map txt).length), ((gridOf R C s).map txt)[x] = txt (Gf.rowAt (gridOf R C s) x)) := ⟨fun x hx => by
    have hx' : x < (gridOf R C s).length := by simpa using hx
    rw [List.getElem_map, rowAt_lt hx']⟩
  have HRD : Aside0 (∀ W, Below w.heap.size w W → ∀ i (hi : i < rs.length), ∃ ad, A1 = some ad ∧ W.cell? (ad.add i) = some (.int .i64 ((rs[i] : Nat) : Int))) := ⟨fun W hb i hi => by
    have h := Kd.C_below (by simpa using hrd : Kd.C (Kd.int .i64) w A1 rs.length (rs.map fun n : Nat => (n : Int))) hb
    obtain ⟨ad, hA, hx⟩ := Kd.at_int h (i : Int) (by omega) (by omega)
    rw [rd_cast rs i hi, Int.toNat_natCast] at hx
    exact ⟨ad, hA, hx⟩⟩
  have HRS : Aside0 (∀ i (hi : i < rs.length), rs[i] < R) := ⟨fun i hi => hrs _ (List.getElem_mem hi)⟩
  have HTK : Aside0 (∀ i (hi : i < rs.length), txt (pickG (gridOf R C s) (rs.take i)).flatten ++ txt (Gf.rowAt (gridOf R C s) rs[i]) = txt (pickG (gridOf R C s) (rs.take (i + 1))).flatten) := ⟨fun i hi => by
    rw [txt_app, List.take_succ_eq_append_getElem hi, pickG_snoc, List.flatten_append, List.flatten_singleton]⟩
  have HSZ : Aside0 (∀ i (hi : i < rs.length), (txt (pickG (gridOf R C s) (rs.take i)).flatten).size + (txt (Gf.rowAt (gridOf R C s) rs[i])).size ≤ 131072) := ⟨fun i hi => by
    have hrow : (Gf.rowAt (gridOf R C s) rs[i]).length = C := by
      have hx : rs[i] < (gridOf R C s).length := by rw [hgl]; exact hrs _ (List.getElem_mem hi)
      rw [rowAt_lt hx]
      exact hgr _ (List.getElem_mem hx)
    rw [txt_size, txt_size, hrow, flat_len _ (pickG_rows hgr (rs.take i) (fun r hr => by rw [hgl]; exact hrs r (List.mem_of_mem_take hr))), pickG_len, List.length_take]
    have h1 : min i rs.length * C ≤ 255 * 255 := Nat.mul_le_mul (by omega) h4
    omega⟩
  have HTF : Aside0 (rs.take rs.length = rs) := ⟨List.take_length⟩
  have HT0 : Aside0 (txt (pickG (gridOf R C s) (rs.take 0)).flatten = ⟨#[]⟩) := ⟨rfl⟩
  generalize gridOf R C s = M at *
  have hl0 : decide ((255 : Int) < (rs.length : Int)) = false := by simp; omega
  have hl3 : ((rs.length : Int) == 0) = false := by simp; intro e; subst e; simp at hl1
  clear hrd hrs hgl hgr h5
  go_enter Tryd.func63, Tryd.ntmps63
  have hbx : (w.alloc (.cells #[.int .i64 (R : Int), .int .i64 (C : Int), .string s] 74)).heap[w.heap.size]? = some (.cells #[.int .i64 (R : Int), .int .i64 (C : Int), .string s] 74 (0, 0)) := blk_new _ _
  go_wp2_with fail
  refine (HC.out _).mono ?_
  rintro e w1 ⟨rfl, hb1⟩
  have hsz1 : w.heap.size + 2 ≤ w1.heap.size := by
    have := hb1.size
    simpa using this
  have X1 := Aside0.mk (blk_below (blk_alloc hbx (.cells #[.int .i64 0, .int .i64 0, .string ⟨#[]⟩] 74 (0, 0))) hb1)
  have R1 : Aside0 (w1.heap[w.heap.size + 1]? = some (.cells #[.int .i64 0, .int .i64 0, .string ⟨#[]⟩] 74 (0, 0))) := ⟨by
    have := blk_below (blk_new (w.alloc (.cells #[.int .i64 (R : Int), .int .i64 (C : Int), .string s] 74)) (.cells #[.int .i64 0, .int .i64 0, .string ⟨#[]⟩] 74 (0, 0))) hb1
    simpa using this⟩
  have B1 : Aside0 (Below w.heap.size w w1) := ⟨(((Below.refl _ _).alloc (Nat.le_refl _) _).alloc (by simp) _).trans (hb1.mono (by simp; omega))⟩
  clear hb1 hbx
  have c10 := blk_cell X1.out 0
  have c11 := blk_cell X1.out 1
  have c12 := blk_cell X1.out 2
  go_wp2
  go_loopw [6] (fun v W => ∃ i : Nat, i ≤ rs.length ∧ v = .int .i64 (i : Int) ∧ Aside0 (Below w1.heap.size w1 W)) (fun v _ => rs.length - (intOf v).toNat)
  case atStart => exact ⟨0, by omega, rfl, ⟨by repeat (first | exact Below.refl _ _ | apply below_drew1 | apply pw_below_drewN)⟩⟩
  case round =>
    obtain ⟨i, hi, rfl, HB0⟩ := hrel
    have B3 : Aside0 (Below w.heap.size w wr) := ⟨B1.out.trans (HB0.out.mono B1.out.size)⟩
    have X3 := Aside0.mk (blk_below X1.out HB0.out)
    clear c10 c11 c12
    by_cases hlt : i < rs.length
    · obtain ⟨ad, hA, hx⟩ := HRD.out _ B3.out i hlt
      subst hA
      have hxl := HRS.out i hlt
      generalize rs[i] = x at *
      have e1 : decide ((x : Int) < 0) = false := by simp
      have e2 : decide ((R : Int) ≤ (x : Int)) = false := by simp; omega
      have e4 : ¬ R ≤ x := by omega
      have e3 : decide ((i : Int) < (rs.length : Int)) = true := decide_eq_true (by omega)
      have c10 := blk_cell X3.out 0
      go_wp2
      repeat (go_quiet (fail); try go_wp2)
      go_roundw
      case rel => exact ⟨i + 1, by omega, by go_num, ⟨by repeat (first | exact HB0.out | apply below_drew1 | apply pw_below_drewN)⟩⟩
      case measure => simp [intOf]; omega
    · obtain rfl : i = rs.length := by omega
      have e3 : decide ((rs.length : Int) < (rs.length : Int)) = false := by simp
      go_wp2
      go_loopw [7, 8] (fun v i W => ∃ k : Nat, k ≤ rs.length ∧ i = .int .i64 (k : Int) ∧ v = .string (txt (pickG M (rs.take k)).flatten) ∧ Aside0 (Below w1.heap.size w1 W)) (fun _ i _ => rs.length - (intOf i).toNat)
      case atStart => exact ⟨0, by omega, rfl, by rw [HT0.out], ⟨by repeat (first | exact HB0.out | apply below_drew1 | apply pw_below_drewN)⟩⟩
      case round =>
        obtain ⟨k, hk, rfl, rfl, HB⟩ := hrel
        have X2 := Aside0.mk (blk_below X1.out HB.out)
        have B2 : Aside0 (Below w.heap.size w wr) := ⟨B1.out.trans (HB.out.mono B1.out.size)⟩
        by_cases hlt2 : k < rs.length
        · obtain ⟨ad, hA, hx⟩ := HRD.out _ B2.out k hlt2
          subst hA
          have hxl := HRS.out k hlt2
          have HTS := Aside0.mk (HTK.out k hlt2)
          have hsz := HSZ.out k hlt2
          generalize rs[k] = x at *
          have HSX : Aside0 (∀ h : x < (M.map txt).length, (M.map txt)[x] = txt (Gf.rowAt M x)) := ⟨fun h => HGE.out x h⟩
          generalize txt (Gf.rowAt M x) = s2 at *
          have c0 := blk_cell X2.out 0
          have c1' := blk_cell X2.out 1
          have c2 := blk_cell X2.out 2
          have e3 : decide ((k : Int) < (rs.length : Int)) = true := decide_eq_true (by omega)
          have hxB := World.block_lt_of_cell? _ _ hx
          have hszn : ¬ 9223372036854775807 < (txt (pickG M (rs.take k)).flatten).size + s2.size := by omega
          generalize hs1 : txt (pickG M (rs.take k)).flatten = s1 at *
          clear hs1
          go_wp2_with fail
          go_region_law (first | (go_simp; go_at_call 92; refine (HRW.out _).mono ?_; rintro e w6 ⟨v6, rfl, hk6, hb6⟩; obtain ⟨A6, c6, e6⟩ := Kd.R_slice hk6; subst e6; obtain ⟨ad6, had6, hx6⟩ := Kd.at_string (Kd.R_reads' hk6).2.2 (x : Int) (by omega) (by rw [HGL.out]; omega); cases had6; rw [rdOf_nat _ x (by rw [HGL.out]; exact hxl), HSX.out, Int.toNat_natCast] at hx6; rw [HGL.out]; have hx7 := (hb6.cell hxB).trans hx; have HB6 := Aside0.mk hb6; clear hk6 hb6))
          all_goals (try go_wp2_with fail)
          all_goals go_roundw
          all_goals first
            | (case rel => exact ⟨k + 1, by omega, by go_num, by rw [← HTS.out], ⟨below_call HB.out (by repeat (first | exact Below.refl _ _ | apply below_drew1 | apply pw_below_drewN)) HB6.out⟩⟩)
            | skip
          all_goals (case measure => simp [intOf]; omega)
        · obtain rfl : k = rs.length := by omega
          rw [HTF.out]
          have R2 := Aside0.mk (blk_below R1.out HB.out)
          have s0 := blk_cell R2.out 0
          have s1 := blk_cell R2.out 1
          have s2 := blk_cell R2.out 2
          have f0 := blk_frozen R2.out 0
          have f1 := blk_frozen R2.out 1
          have f2 := blk_frozen R2.out 2
          have x1 := blk_cell X2.out 1
          go_wp2
          refine bodyPost_ret (results_list (rs := [.cell 4 74, .tmp 5]) rfl (by simp) (Vals.cell (w.heap.size + 1) 74 _ (0, 0) _ rfl (blk_put (blk_put (blk_put R2.out 0 _ rfl) 1 _ rfl) 2 _ rfl) Tryd.underlying74 rfl (by kernel_rfl) (Vals.tmp Vals.nil))) rfl ?_
          exact ⟨rfl, ((B2.out.setCell (Nat.le_succ _) _).setCell (Nat.le_succ _) _).setCell (Nat.le_succ _) _⟩
end
def corncribref02_Pick.f (a0_0 : Int) (a0_1 : Int) (a0_2 : ByteArray) (l1 : List Int) : Option (Int × Int × ByteArray × Int) := matrix_Pick.f a0_0 a0_1 a0_2 l1
theorem corncribref02_Pick.calls (a0_0 : Int) (a0_1 : Int) (a0_2 : ByteArray) (A1 : Option Addr) (c1 : Nat) (l1 : List Int) (r1 : Int) (r2 : Int) (r3 : ByteArray) (r4 : Int) (w : World) (hr1 : Kd.C (Kd.int .i64) w A1 l1.length l1) (hc1 : l1.length ≤ c1) (h : corncribref02_Pick.f a0_0 a0_1 a0_2 l1 = some (r1, r2, r3, r4)) :
    Calls Tryd.prog 63 #[.agg #[.int .i64 a0_0, .int .i64 a0_1, .string a0_2], .slice A1 l1.length c1] w fun e w' => e = .returned (.tuple #[.agg #[.int .i64 r1, .int .i64 r2, .string r3], .int .i64 r4]) ∧ Below w.heap.size w w' := by
  unfold corncribref02_Pick.f matrix_Pick.f at h
  split at h
  · rename_i hp
    obtain ⟨R, C, rfl, rfl, h1, h2, h3, h4, h5⟩ := shapeB_nat hp.1
    have hq := hp.2
    unfold pickOk at hq
    rw [Bool.and_eq_true, Bool.and_eq_true] at hq
    obtain ⟨⟨q1, q2⟩, q3⟩ := hq
    have q3 := of_decide_eq_true q3
    rw [Int.toNat_natCast] at q1
    have q1' : ∀ x, x ∈ l1 → 0 ≤ x ∧ x < (R : Int) := fun x hx => of_decide_eq_true (List.all_eq_true.1 q1 x hx)
    simp only [Int.toNat_natCast, Option.some.injEq, Prod.mk.injEq] at h
    obtain ⟨rfl, rfl, rfl, rfl⟩ := h
    have hback : (l1.map Int.toNat).map (fun n : Nat => (n : Int)) = l1 := by
      rw [List.map_map]
      refine (List.map_congr_left (fun x hx => ?_)).trans (List.map_id l1)
      have := q1' x hx
      show ((x.toNat : Nat) : Int) = x
      omega
    have := refpick_walk w R C a0_2 h1 h2 h3 h4 h5 (l1.map Int.toNat) A1 c1 (by rw [hback, List.length_map]; exact hr1) (by rw [List.length_map]; exact hc1) (fun r hr => by
      obtain ⟨x, hx, rfl⟩ := List.mem_map.1 hr
      have := q1' x hx
      omega) (by rw [List.length_map]; exact q3.1) (by rw [List.length_map]; exact q3.2)
    rw [List.length_map] at this
    exact this
  · cases h
end Go.Proofs.YtegmmefijihdeaaDoor.PS
namespace Go.Proofs.YtegmmefijihdeaaDoor.PS
open Go.RowKit Go.Proofs.YtegmmefijihdeaaDoorW.PrintWords Go.Proofs.YtegmmefijihdeaaDoorW.PrintLast Go.Proofs.YtegmmefijihdeaaDoorW.PrintMore
attribute [local go_sem] Mk.str_leq Mk.str_gtr Mk.str_geq max2_int min2_int max_two min_two max_three min_three max_four min_four   -- for this text's walks alone
set_option linter.unusedVariables false
set_option linter.unusedSimpArgs false

/-! ### corncribref04_Data: function 39 -/
def corncribref04_Data.l0 : Nat → Int → Int → List (S62) → List Int → List ByteArray → Int → Option (List ByteArray × Int)
 | 0, _, _, _, _, _, _ => none
 | k + 1, x0, x1, x2, x10, x11, x12 => if x12 < x0 then (if 0 ≤ x12 then (if x12 < (x2.length : Int) then (if x10.length < 17592186044416 then (if x11.length < 8796093022208 then (corncribref04_Data.l0 k x0 x1 x2 (x10 ++ [(rd_T62 x2 x12).f0]) (x11 ++ [(rd_T62 x2 x12).f1]) (wrap64 (x12 + 1))) else (none)) else (none)) else (none)) else (none)) else ((corncribref02_Made.f x0 x1).bind fun bt432 => ((corncribref02_Pick.f bt432.1 bt432.2.1 bt432.2.2 x10).bind fun bt435 => ((corncribref02_Inverse.f bt435.1 bt435.2.1 bt435.2.2.1).bind fun bt440 => ((corncribref03_Under.f k bt440.1 bt440.2.1 bt440.2.2.1 x11).bind fun t445 => (some (t445, 0))))))
def corncribref04_Data.f (k : Nat) (a0 : Int) (a1 : Int) (l2 : List (S62)) : Option (List ByteArray × Int) := (corncribref04_Check.f k a0 a1 l2).bind fun bt422 => (if bt422.2 = 0 then (corncribref04_Data.l0 k a0 a1 l2 ([] : List Int) ([] : List ByteArray) 0) else (some (([] : List ByteArray), bt422.2)))
theorem corncribref04_Data.mono_l : ∀ k, (∀ y0 y1 y2 y3 y4 y5, LeO (corncribref04_Data.l0 k y0 y1 y2 y3 y4 y5) (corncribref04_Data.l0 (k + 1) y0 y1 y2 y3 y4 y5))
 | 0 => fun _ _ _ _ _ _ r h => by simp [corncribref04_Data.l0] at h
 | k + 1 => by
  have ih0 := corncribref04_Data.mono_l k
  ·intro y0 y1 y2 y3 y4 y5
   unfold corncribref04_Data.l0
   repeat' first
   | (with_reducible exact ih0 _ _ _ _ _ _)
   | (with_reducible exact corncribref03_Under.mono _ _ _ _ _)
   | (with_reducible exact corncribref04_Check.mono _ _ _ _)
   | (with_reducible exact LeO.refl _)
   | (with_reducible exact LeO.none _)
   | (with_reducible refine LeO.ite ?_ ?_)
   | (with_reducible refine LeO.bind ?_ (fun _ => ?_))
   | exact ih0 _ _ _ _ _ _
   | exact corncribref03_Under.mono _ _ _ _ _
   | exact corncribref04_Check.mono _ _ _ _
   | exact LeO.none _
   | refine LeO.ite ?_ ?_
   | refine LeO.bind ?_ (fun _ => ?_)
theorem corncribref04_Data.mono : ∀ a0 a1 a2 k, LeO (corncribref04_Data.f k a0 a1 a2) (corncribref04_Data.f (k + 1) a0 a1 a2) := by
 intro a0 a1 a2 k
 have ih0 := corncribref04_Data.mono_l k
 unfold corncribref04_Data.f
 repeat' first
   | (with_reducible exact ih0 _ _ _ _ _ _)
   | (with_reducible exact corncribref03_Under.mono _ _ _ _ _)
   | (with_reducible exact corncribref04_Check.mono _ _ _ _)
   | (with_reducible exact LeO.refl _)
   | (with_reducible exact LeO.none _)
   | (with_reducible refine LeO.ite ?_ ?_)
   | (with_reducible refine LeO.bind ?_ (fun _ => ?_))
   | exact ih0 _ _ _ _ _ _
   | exact corncribref03_Under.mono _ _ _ _ _
   | exact corncribref04_Check.mono _ _ _ _
   | exact LeO.none _
   | refine LeO.ite ?_ ?_
   | refine LeO.bind ?_ (fun _ => ?_)
set_option maxHeartbeats 8000000 in
set_option maxRecDepth 100000 in
theorem corncribref04_Data.calls (k : Nat) (a0 : Int) (a1 : Int) (A2 : Option Addr) (c2 : Nat) (l2 : List (S62)) (r1 : List ByteArray) (r2 : Int) (w : World) (hr2 : Kd.C k62 w A2 l2.length l2) (hc2 : l2.length ≤ c2) (h : corncribref04_Data.f k a0 a1 l2 = some (r1, r2)) :
  Calls Tryd.prog 39 #[.int .i64 a0, .int .i64 a1, .slice A2 l2.length c2] w fun e w' => ∃ v0_ : Value, e = .returned (.tuple #[v0_, .int .i64 r2]) ∧ Kd.R Kd.string 9 w' w.heap.size (fun _ => True) v0_ r1 ∧ Below w.heap.size w w' := by
 have hu74 := Tryd.underlying74
 have HR2 := Aside0.mk hr2
 have HC2 := Aside0.mk hc2
 clear hr2 hc2
 have HB := Aside0.mk (Below.refl w.heap.size w)
 have H : ((corncribref04_Check.f k a0 a1 l2).bind fun bt422 => (if bt422.2 = 0 then (corncribref04_Data.l0 k a0 a1 l2 ([] : List Int) ([] : List ByteArray) 0) else (some (([] : List ByteArray), bt422.2)))) = some (r1, r2) := h
 clear h
 replace H := Option.bind_eq_some_iff.mp H
 obtain ⟨⟨t422, t423⟩, A40, H⟩ := H
 replace H : (if t423 = 0 then (corncribref04_Data.l0 k a0 a1 l2 ([] : List Int) ([] : List ByteArray) 0) else (some (([] : List ByteArray), t423))) = some (r1, r2) := H
 have A4 := Aside0.mk A40
 clear A40
 by_cases c5 : t423 = 0
 ·rw [if_pos c5] at H
  have c5b0 : (t423 == 0) = true := beq_iff_eq.mpr c5
  have c5b1 : (t423 != 0) = false := bne_eq_false_iff_eq.mpr c5
  clear c5
  have H' := Aside0.mk H
  clear H
  go_enter Tryd.func39, Tryd.ntmps39
  go_wp2_with (first | ((with_reducible refine gate_callee (f := 35) rfl ?_); refine goesL_ (some 21) rfl rfl Tryd.func35 (by kernel_rfl) rfl #[.int .i64 a0, .int .i64 a1, .slice A2 l2.length c2] rfl (by (try simp only [List.map_toArray, List.map_cons, List.map_nil]); first | done | rfl | (simp only [List.length_drop, List.length_take]; rfl)) ?_; (with_reducible refine (corncribref04_Check.calls k a0 a1 _ _ l2 t422 t423 _ ?side1 ?side2 A4.out).mono ?_); (case side1 => repeat (first | exact HR2.out | (with_reducible refine Kd.C_alloc ?_ _) | (with_reducible refine Kd.C_drewN ?_ _) | (with_reducible refine Kd.C_drew ?_))); (case side2 => exact HC2.out); rintro e w' ⟨rfl, ⟨nd, rfl⟩⟩; refine ⟨_, rfl, ?_⟩))
  go_loopg [10, 11, 12] k (fun kq v10 v11 v12 w' => ∃ (x10_1 : List Int) (x11_1 : List ByteArray) (x12_1 : Int), v12 = .int .i64 x12_1 ∧ Aside0 (corncribref04_Data.l0 kq a0 a1 l2 x10_1 x11_1 x12_1 = some (r1, r2)) ∧ Aside0 (kq ≤ k) ∧ Aside0 (Kd.R (Kd.int .i64) 3 w' w.heap.size (fun _ => True) v10 x10_1) ∧ Aside0 (Kd.R Kd.string 9 w' w.heap.size (fun _ => True) v11 x11_1) ∧ Aside0 (Below w.heap.size w w'))
  case atStart => exact ⟨(([] : List Int)), (([] : List ByteArray)), (0), (by first | rfl | (simp; done) | (simp [*]; done)), H', ⟨Nat.le_refl _⟩, ⟨by first | exact Kd.R_nil _ _ _ _ _ | exact Kd.N_nil _ _ _ _ _ | exact Kd.V_nil _ _ _ _ _ | exact Kd.Q_nil _ _ _ _ _ | exact Kd.S_nil _ _ _ _ _⟩, ⟨by first | exact Kd.R_nil _ _ _ _ _ | exact Kd.N_nil _ _ _ _ _ | exact Kd.V_nil _ _ _ _ _ | exact Kd.Q_nil _ _ _ _ _ | exact Kd.S_nil _ _ _ _ _⟩, ⟨by repeat (first | (with_reducible first | exact HB.out | apply below_alloc | apply pw_below_drewN | apply below_drew1) | exact HB.out)⟩⟩
  case round =>
   clear H'
   try clear c2
   try clear p2
   try clear c3
   try clear c5
   try clear c5b0
   try clear c5b1
   obtain ⟨x10_1, x11_1, x12_1, rfl, HA, HK1, HO_10, HO_11, HB⟩ := hrel
   cases gk with
   | zero => exact absurd HA.out (by simp [corncribref04_Data.l0])
   | succ k1 =>
    have H := HA.out
    clear HA
    simp only [corncribref04_Data.l0] at H
    by_cases c6 : x12_1 < a0
    ·rw [if_pos c6] at H
     have c6b0 : decide (x12_1 < a0) = true := decide_eq_true c6
     clear c6
     by_cases c7 : 0 ≤ x12_1
     ·rw [if_pos c7] at H
      have c7b0 : decide (0 ≤ x12_1) = true := decide_eq_true c7
      clear c7
      by_cases c8 : x12_1 < (l2.length : Int)
      ·rw [if_pos c8] at H
       have c8b0 : decide (x12_1 < (l2.length : Int)) = true := decide_eq_true c8
       clear c8
       by_cases c9 : x10_1.length < 17592186044416
       ·rw [if_pos c9] at H
        have LMc9 := Aside0.mk c9
        clear c9
        obtain ⟨y425, hy425⟩ : ∃ y_ : List Int, y_ = (x10_1 ++ [(rd_T62 l2 x12_1).f0]) := ⟨_, rfl⟩
        replace H : (if x11_1.length < 8796093022208 then (corncribref04_Data.l0 k1 a0 a1 l2 y425 (x11_1 ++ [(rd_T62 l2 x12_1).f1]) (wrap64 (x12_1 + 1))) else (none)) = some (r1, r2) := by first | (rw [hy425]; with_reducible exact H) | (have H2_ := (Option.bind_some _ _).symm.trans H; rw [hy425]; with_reducible exact H2_) | (have H2_ := (Option.bind_some _ _).symm.trans H; with_reducible exact H2_) | with_reducible exact H | (rw [hy425]; exact H) | exact H
        have Ny425 := Aside0.mk hy425
        clear hy425
        by_cases c10 : x11_1.length < 8796093022208
        ·rw [if_pos c10] at H
         have LMc10 := Aside0.mk c10
         clear c10
         obtain ⟨y429, hy429⟩ : ∃ y_ : List ByteArray, y_ = (x11_1 ++ [(rd_T62 l2 x12_1).f1]) := ⟨_, rfl⟩
         replace H : (corncribref04_Data.l0 k1 a0 a1 l2 y425 y429 (wrap64 (x12_1 + 1))) = some (r1, r2) := by first | (rw [hy429]; with_reducible exact H) | (have H2_ := (Option.bind_some _ _).symm.trans H; rw [hy429]; with_reducible exact H2_) | (have H2_ := (Option.bind_some _ _).symm.trans H; with_reducible exact H2_) | with_reducible exact H | (rw [hy429]; exact H) | exact H
         have Ny429 := Aside0.mk hy429
         clear hy429
         have H' := Aside0.mk H
         clear H
         have p424 : 0 ≤ (x12_1 : Int) := of_decide_eq_true (by first | (with_reducible assumption) | assumption)
         have q424 : x12_1 < (l2.length : Int) := of_decide_eq_true (by first | (with_reducible assumption) | assumption)
         obtain ⟨ad424, e424, hx424_0, hx424_1⟩ := at_T62 HR2.out x12_1 p424 q424
         cases e424
         replace hx424_0 := (HB.out.cell (World.block_lt_of_cell? w _ hx424_0)).trans hx424_0
         replace hx424_1 := (HB.out.cell (World.block_lt_of_cell? w _ hx424_1)).trans hx424_1
         replace p424 := eq_true p424
         replace q424 := eq_true q424
         go_wp2_with (first | ((with_reducible refine gate_builtin (b := .append) (xs := #[.tmp 32, .tmp 38]) rfl ?_); at_builtin; refine Kd.R_append (Kd.int .i64) (w0 := w) w.heap.size rfl (.tmp 32) (.tmp 38) 56 3 (.int .i64 0) 8 rfl Tryd.underlying56 info3 rfl (by decide) (by omega) u10 x10_1 ((rd_T62 l2 x12_1).f0) [.int .i64 ((rd_T62 l2 x12_1).f0)] (fun _ => True) (fun _ => False) rfl rfl ?aP (fun _ hk => hk.elim) ?aF ?aO ?aB ?aS ?aL ?_; (case aP => exact rfl); (case aB => exact (by repeat (first | (with_reducible first | exact HB.out | apply below_alloc | apply pw_below_drewN | apply below_drew1) | exact HB.out))); (case aF => exact (fun _ _ => trivial)); (case aO => exact (by (with_reducible repeat (first | apply Kd.R_alloc | apply Kd.R_drewN | apply Kd.R_drew)); exact HO_10.out)); (case aS => exact (below_size (by repeat (first | (with_reducible first | exact HB.out | apply below_alloc | apply pw_below_drewN | apply below_drew1) | exact HB.out)))); (case aL => have := LMc9.out; omega); intro v426 w11 ho hb hg hat; rw [← Ny425.out] at ho; have n0_ := Aside0.mk (Kd.R_over' (by (with_reducible repeat (first | apply Kd.R_alloc | apply Kd.R_drewN | apply Kd.R_drew)); exact HO_11.out) (Kd.R_typed (by (with_reducible repeat (first | apply Kd.R_alloc | apply Kd.R_drewN | apply Kd.R_drew)); exact HO_10.out)) (by decide) hg); have n1_ := Aside0.mk (hb); have n2_ := Aside0.mk (ho); clear HO_11; clear HB; clear HO_10; have HO_11 := n0_; have HB := n1_; have HO427 := n2_; clear n0_ n1_ n2_; clear ho hb hg hat; have p428 : 0 ≤ (x12_1 : Int) := of_decide_eq_true (by first | (with_reducible assumption) | assumption); have q428 : x12_1 < (l2.length : Int) := of_decide_eq_true (by first | (with_reducible assumption) | assumption); obtain ⟨ad428, e428, hx428_0, hx428_1⟩ := at_T62 HR2.out x12_1 p428 q428; obtain rfl : ad424 = ad428 := (by injection e428); replace hx428_0 := (HB.out.cell (World.block_lt_of_cell? w _ hx428_0)).trans hx428_0; replace hx428_1 := (HB.out.cell (World.block_lt_of_cell? w _ hx428_1)).trans hx428_1; replace p428 := eq_true p428; replace q428 := eq_true q428) | ((with_reducible refine gate_builtin (b := .append) (xs := #[.tmp 40, .tmp 46]) rfl ?_); at_builtin; refine Kd.R_append Kd.string (w0 := w) w.heap.size rfl (.tmp 40) (.tmp 46) 25 9 (.string ⟨#[]⟩) 16 rfl Tryd.underlying25 info9 rfl (by decide) (by omega) u11 x11_1 ((rd_T62 l2 x12_1).f1) [.string ((rd_T62 l2 x12_1).f1)] (fun _ => True) (fun _ => False) rfl rfl ?aP (fun _ hk => hk.elim) ?aF ?aO ?aB ?aS ?aL ?_; (case aP => exact rfl); (case aB => exact (by repeat (first | (with_reducible first | exact HB.out | apply below_alloc | apply pw_below_drewN | apply below_drew1) | exact HB.out))); (case aF => exact (fun _ _ => trivial)); (case aO => exact (by (with_reducible repeat (first | apply Kd.R_alloc | apply Kd.R_drewN | apply Kd.R_drew)); exact HO_11.out)); (case aS => exact (below_size (by repeat (first | (with_reducible first | exact HB.out | apply below_alloc | apply pw_below_drewN | apply below_drew1) | exact HB.out)))); (case aL => have := LMc10.out; omega); intro v430 w12 ho hb hg hat; rw [← Ny429.out] at ho; have n0_ := Aside0.mk (Kd.R_over' (by (with_reducible repeat (first | apply Kd.R_alloc | apply Kd.R_drewN | apply Kd.R_drew)); exact HO427.out) (Kd.R_typed (by (with_reducible repeat (first | apply Kd.R_alloc | apply Kd.R_drewN | apply Kd.R_drew)); exact HO_11.out)) (by decide) hg); have n1_ := Aside0.mk (hb); have n2_ := Aside0.mk (ho); clear HO427; clear HB; clear HO_11; have HO427 := n0_; have HB := n1_; have HO431 := n2_; clear n0_ n1_ n2_; clear ho hb hg hat))
         go_roundg k1
         case measure => have := HK1.out; omega
         case rel => exact ⟨(y425), (y429), (wrap64 (x12_1 + 1)), (by first | rfl | (simp; done) | (simp [*]; done)), H', ⟨by have := HK1.out; omega⟩, ⟨by (with_reducible repeat (first | apply Kd.R_alloc | apply Kd.R_drewN | apply Kd.R_drew)); exact HO427.out⟩, ⟨by (with_reducible repeat (first | apply Kd.R_alloc | apply Kd.R_drewN | apply Kd.R_drew)); exact HO431.out⟩, ⟨by repeat (first | (with_reducible first | exact HB.out | apply below_alloc | apply pw_below_drewN | apply below_drew1) | exact HB.out)⟩⟩
        ·rw [if_neg c10] at H
         exact absurd H (by simp)
       ·rw [if_neg c9] at H
        exact absurd H (by simp)
      ·rw [if_neg c8] at H
       exact absurd H (by simp)
     ·rw [if_neg c7] at H
      exact absurd H (by simp)
    ·rw [if_neg c6] at H
     have c6b0 : decide (x12_1 < a0) = false := decide_eq_false c6
     clear c6
     replace H := Option.bind_eq_some_iff.mp H
     obtain ⟨⟨t432, t433, t434⟩, A130, H⟩ := H
     replace H : ((corncribref02_Pick.f t432 t433 t434 x10_1).bind fun bt435 => ((corncribref02_Inverse.f bt435.1 bt435.2.1 bt435.2.2.1).bind fun bt440 => ((corncribref03_Under.f k1 bt440.1 bt440.2.1 bt440.2.2.1 x11_1).bind fun t445 => (some (t445, 0))))) = some (r1, r2) := H
     have A13 := Aside0.mk A130
     clear A130
     replace H := Option.bind_eq_some_iff.mp H
     obtain ⟨⟨t435, t436, t437, t438⟩, A140, H⟩ := H
     replace H : ((corncribref02_Inverse.f t435 t436 t437).bind fun bt440 => ((corncribref03_Under.f k1 bt440.1 bt440.2.1 bt440.2.2.1 x11_1).bind fun t445 => (some (t445, 0)))) = some (r1, r2) := H
     have A14 := Aside0.mk A140
     clear A140
     replace H := Option.bind_eq_some_iff.mp H
     obtain ⟨⟨t440, t441, t442, t443⟩, A150, H⟩ := H
     replace H : ((corncribref03_Under.f k1 t440 t441 t442 x11_1).bind fun t445 => (some (t445, 0))) = some (r1, r2) := H
     have A15 := Aside0.mk A150
     clear A150
     replace H := Option.bind_eq_some_iff.mp H
     obtain ⟨t445, A160, H⟩ := H
     replace H : (some (t445, 0)) = some (r1, r2) := H
     have A16 := Aside0.mk A160
     clear A160
     simp only [Option.some.injEq, Prod.mk.injEq] at H
     obtain ⟨rfl, rfl⟩ := H
     go_wp2_with (first | ((with_reducible refine gate_callee (f := 59) rfl ?_); refine goesL_ (some 51) rfl rfl Tryd.func59 (by kernel_rfl) rfl #[.int .i64 a0, .int .i64 a1] rfl (by (try simp only [List.map_toArray, List.map_cons, List.map_nil]); first | done | rfl | (simp only [List.length_drop, List.length_take]; rfl)) ?_; (with_reducible refine (corncribref02_Made.calls a0 a1 t432 t433 t434 _ A13.out).mono ?_); rintro e w17 ⟨rfl, hb⟩; refine ⟨_, rfl, ?_⟩; have n0_ := Aside0.mk (Kd.R_below (by (with_reducible repeat (first | apply Kd.R_alloc | apply Kd.R_drewN | apply Kd.R_drew)); exact HO_10.out) hb); have n1_ := Aside0.mk (Kd.R_below (by (with_reducible repeat (first | apply Kd.R_alloc | apply Kd.R_drewN | apply Kd.R_drew)); exact HO_11.out) hb); have n2_ := Aside0.mk (below_step (by repeat (first | (with_reducible first | exact HB.out | apply below_alloc | apply pw_below_drewN | apply below_drew1) | exact HB.out)) hb); clear HO_10; clear HO_11; clear HB; have HO_10 := n0_; have HO_11 := n1_; have HB := n2_; clear n0_ n1_ n2_; (try clear hb); (try clear hb2); (try clear hk); (try clear hi); obtain ⟨Ao18, co18, eo18⟩ := Kd.R_slice HO_10.out; subst eo18) | ((with_reducible refine gate_callee (f := 63) rfl ?_); refine goesL_ (some 53) rfl rfl Tryd.func63 (by kernel_rfl) rfl #[.agg #[.int .i64 t432, .int .i64 t433, .string t434], .slice Ao18 x10_1.length co18] rfl (by (try simp only [List.map_toArray, List.map_cons, List.map_nil]); first | done | rfl | (simp only [List.length_drop, List.length_take]; rfl)) ?_; (with_reducible refine (corncribref02_Pick.calls t432 t433 t434 _ _ x10_1 t435 t436 t437 t438 _ ?side1 ?side2 A14.out).mono ?_); (case side1 => repeat (first | exact (Kd.R_reads' HO_10.out).2.2 | (with_reducible refine Kd.C_alloc ?_ _) | (with_reducible refine Kd.C_drewN ?_ _) | (with_reducible refine Kd.C_drew ?_))); (case side2 => exact (Kd.R_reads' HO_10.out).2.1); rintro e w19 ⟨rfl, hb⟩; refine ⟨_, rfl, ?_⟩; have n0_ := Aside0.mk (Kd.R_below (by (with_reducible repeat (first | apply Kd.R_alloc | apply Kd.R_drewN | apply Kd.R_drew)); exact HO_10.out) hb); have n1_ := Aside0.mk (Kd.R_below (by (with_reducible repeat (first | apply Kd.R_alloc | apply Kd.R_drewN | apply Kd.R_drew)); exact HO_11.out) hb); have n2_ := Aside0.mk (below_step (by repeat (first | (with_reducible first | exact HB.out | apply below_alloc | apply pw_below_drewN | apply below_drew1) | exact HB.out)) hb); clear HO_10; clear HO_11; clear HB; have HO_10 := n0_; have HO_11 := n1_; have HB := n2_; clear n0_ n1_ n2_; (try clear hb); (try clear hb2); (try clear hk); (try clear hi)) | ((with_reducible refine gate_dst (N := 13) rfl ?_); refine box_event ?hg (N := 13) ?hd (cs := #[.int .i64 0, .int .i64 0, .string (⟨#[]⟩ : ByteArray)]) (t := 74) ?hr ?_; (case hd => rfl); (case hg => rfl); (case hr => first | (go_simp; done) | (go_simp; rfl)); intro gb439 hg w20 hbox hb; have n0_ := Aside0.mk (Kd.R_below (by (with_reducible repeat (first | apply Kd.R_alloc | apply Kd.R_drewN | apply Kd.R_drew)); exact HO_10.out) hb); have n1_ := Aside0.mk (Kd.R_below (by (with_reducible repeat (first | apply Kd.R_alloc | apply Kd.R_drewN | apply Kd.R_drew)); exact HO_11.out) hb); have n2_ := Aside0.mk (below_step (by repeat (first | (with_reducible first | exact HB.out | apply below_alloc | apply pw_below_drewN | apply below_drew1) | exact HB.out)) hb); have n3_ := Aside0.mk (hbox); have n4_ := Aside0.mk ((by rw [hg]; exact (below_size (by repeat (first | (with_reducible first | exact HB.out | apply below_alloc | apply pw_below_drewN | apply below_drew1) | exact HB.out))) : w.heap.size ≤ gb439)); have n5_ := Aside0.mk ((by rw [hg]; exact (below_size (by repeat (first | (with_reducible first | exact HB.out | apply below_alloc | apply pw_below_drewN | apply below_drew1) | exact HB.out))) : w.heap.size ≤ gb439)); clear HO_10; clear HO_11; clear HB; have HO_10 := n0_; have HO_11 := n1_; have HB := n2_; have BK439 := n3_; have GW439 := n4_; have GE439 := n5_; clear n0_ n1_ n2_ n3_ n4_ n5_; clear hb hbox hg; have hcz21_0 : w20.cell? ⟨gb439, 0, none⟩ = some (.int .i64 0) := (blk_cell BK439.out 0).trans rfl; have hcz21_1 : w20.cell? ⟨gb439, 1, none⟩ = some (.int .i64 0) := (blk_cell BK439.out 1).trans rfl; have hcz21_2 : w20.cell? ⟨gb439, 2, none⟩ = some (.string (⟨#[]⟩ : ByteArray)) := (blk_cell BK439.out 2).trans rfl; have hfz21_0 := blk_frozen BK439.out 0; have hfz21_1 := blk_frozen BK439.out 1; have hfz21_2 := blk_frozen BK439.out 2) | ((with_reducible refine gate_callee (f := 64) rfl ?_); refine goesL_ (some 58) rfl rfl Tryd.func64 (by kernel_rfl) rfl #[.agg #[.int .i64 t435, .int .i64 t436, .string t437]] rfl (by (try simp only [List.map_toArray, List.map_cons, List.map_nil]); first | done | rfl | (simp only [List.length_drop, List.length_take]; rfl)) ?_; (with_reducible refine (corncribref02_Inverse.calls t435 t436 t437 t440 t441 t442 t443 _ A15.out).mono ?_); rintro e w22 ⟨rfl, hb⟩; refine ⟨_, rfl, ?_⟩; have n0_ := Aside0.mk (Kd.R_below (by (with_reducible repeat (first | apply Kd.R_alloc | apply Kd.R_drewN | apply Kd.R_drew)); exact (Kd.R_mono (Kd.R_far (p := ⟨gb439, 2, none⟩) (Kd.R_far (p := ⟨gb439, 1, none⟩) (Kd.R_far (p := ⟨gb439, 0, none⟩) (Kd.R_types HO_10.out BK439.out (by decide)) (fun _ hk => hk.2) (.int .i64 t435)) (fun _ hk => hk.2) (.int .i64 t436)) (fun _ hk => hk.2) (.string t437)) (fun _ h_ => h_.1))) hb); have n1_ := Aside0.mk (Kd.R_below (by (with_reducible repeat (first | apply Kd.R_alloc | apply Kd.R_drewN | apply Kd.R_drew)); exact (Kd.R_mono (Kd.R_far (p := ⟨gb439, 2, none⟩) (Kd.R_far (p := ⟨gb439, 1, none⟩) (Kd.R_far (p := ⟨gb439, 0, none⟩) (Kd.R_types HO_11.out BK439.out (by decide)) (fun _ hk => hk.2) (.int .i64 t435)) (fun _ hk => hk.2) (.int .i64 t436)) (fun _ hk => hk.2) (.string t437)) (fun _ h_ => h_.1))) hb); have n2_ := Aside0.mk (blk_below (g := gb439) (o := .cells #[.int .i64 t435, .int .i64 t436, .string t437] 74 (0, 0)) (by (with_reducible repeat (first | refine blk_drewN ?_ _ | refine blk_drew ?_ | refine blk_alloc ?_ _)); refine blk_put (cs := #[.int .i64 t435, .int .i64 t436, .string (⟨#[]⟩ : ByteArray)]) ?_ 2 _ rfl; (with_reducible repeat (first | refine blk_drewN ?_ _ | refine blk_drew ?_ | refine blk_alloc ?_ _)); refine blk_put (cs := #[.int .i64 t435, .int .i64 0, .string (⟨#[]⟩ : ByteArray)]) ?_ 1 _ rfl; (with_reducible repeat (first | refine blk_drewN ?_ _ | refine blk_drew ?_ | refine blk_alloc ?_ _)); refine blk_put (cs := #[.int .i64 0, .int .i64 0, .string (⟨#[]⟩ : ByteArray)]) ?_ 0 _ rfl; (with_reducible repeat (first | refine blk_drewN ?_ _ | refine blk_drew ?_ | refine blk_alloc ?_ _)); exact BK439.out) hb); have n3_ := Aside0.mk (below_step (by repeat (first | (with_reducible first | exact HB.out | apply below_alloc | apply pw_below_drewN | apply below_drew1 | refine below_set ?_ GE439.out) | exact HB.out)) hb); clear HO_10; clear HO_11; clear BK439; clear HB; have HO_10 := n0_; have HO_11 := n1_; have BK439 := n2_; have HB := n3_; clear n0_ n1_ n2_ n3_; (try clear hb); (try clear hb2); (try clear hk); (try clear hi)) | ((with_reducible refine gate_dst (N := 15) rfl ?_); refine box_event ?hg (N := 15) ?hd (cs := #[.int .i64 0, .int .i64 0, .string (⟨#[]⟩ : ByteArray)]) (t := 74) ?hr ?_; (case hd => rfl); (case hg => rfl); (case hr => first | (go_simp; done) | (go_simp; rfl)); intro gb444 hg w23 hbox hb; have n0_ := Aside0.mk (Kd.R_below (by (with_reducible repeat (first | apply Kd.R_alloc | apply Kd.R_drewN | apply Kd.R_drew)); exact HO_10.out) hb); have n1_ := Aside0.mk (Kd.R_below (by (with_reducible repeat (first | apply Kd.R_alloc | apply Kd.R_drewN | apply Kd.R_drew)); exact HO_11.out) hb); have n2_ := Aside0.mk (blk_below (g := gb439) (o := .cells #[.int .i64 t435, .int .i64 t436, .string t437] 74 (0, 0)) (by (with_reducible repeat (first | refine blk_drewN ?_ _ | refine blk_drew ?_ | refine blk_alloc ?_ _)); exact BK439.out) hb); have n3_ := Aside0.mk (below_step (by repeat (first | (with_reducible first | exact HB.out | apply below_alloc | apply pw_below_drewN | apply below_drew1 | refine below_set ?_ GE439.out) | exact HB.out)) hb); have n4_ := Aside0.mk (hbox); have n5_ := Aside0.mk ((by rw [hg]; exact (below_size (by repeat (first | (with_reducible first | exact HB.out | apply below_alloc | apply pw_below_drewN | apply below_drew1 | refine below_set ?_ GE439.out) | exact HB.out))) : w.heap.size ≤ gb444)); have n6_ := Aside0.mk ((by rw [hg]; exact (below_size (by repeat (first | (with_reducible first | exact HB.out | apply below_alloc | apply pw_below_drewN | apply below_drew1 | refine below_set ?_ GE439.out) | exact HB.out))) : w.heap.size ≤ gb444)); have n7_ := Aside0.mk ((by rw [hg]; exact Nat.ne_of_lt (blk_lt (g := gb439) (o := .cells #[.int .i64 t435, .int .i64 t436, .string t437] 74 (0, 0)) (by (with_reducible repeat (first | refine blk_drewN ?_ _ | refine blk_drew ?_ | refine blk_alloc ?_ _)); exact BK439.out)) : gb439 ≠ gb444)); have n8_ := Aside0.mk ((by rw [hg]; exact Nat.ne_of_gt (blk_lt (g := gb439) (o := .cells #[.int .i64 t435, .int .i64 t436, .string t437] 74 (0, 0)) (by (with_reducible repeat (first | refine blk_drewN ?_ _ | refine blk_drew ?_ | refine blk_alloc ?_ _)); exact BK439.out)) : gb444 ≠ gb439)); clear HO_10; clear HO_11; clear BK439; clear HB; have HO_10 := n0_; have HO_11 := n1_; have BK439 := n2_; have HB := n3_; have BK444 := n4_; have GW444 := n5_; have GE444 := n6_; have NB439_444 := n7_; have NB444_439 := n8_; clear n0_ n1_ n2_ n3_ n4_ n5_ n6_ n7_ n8_; clear hb hbox hg; have hnb24 := NB444_439.out; have hnc24 := NB439_444.out; have hcz25_0 : w23.cell? ⟨gb444, 0, none⟩ = some (.int .i64 0) := (blk_cell BK444.out 0).trans rfl; have hcz25_1 : w23.cell? ⟨gb444, 1, none⟩ = some (.int .i64 0) := (blk_cell BK444.out 1).trans rfl; have hcz25_2 : w23.cell? ⟨gb444, 2, none⟩ = some (.string (⟨#[]⟩ : ByteArray)) := (blk_cell BK444.out 2).trans rfl; have hfz25_0 := blk_frozen BK444.out 0; have hfz25_1 := blk_frozen BK444.out 1; have hfz25_2 := blk_frozen BK444.out 2; obtain ⟨Ao26, co26, eo26⟩ := Kd.R_slice HO_11.out; subst eo26) | ((with_reducible refine gate_callee (f := 58) rfl ?_); refine goesL_ (some 63) rfl rfl Tryd.func58 (by kernel_rfl) rfl #[.agg #[.int .i64 t440, .int .i64 t441, .string t442], .slice Ao26 x11_1.length co26] rfl (by (try simp only [List.map_toArray, List.map_cons, List.map_nil]); first | done | rfl | (simp only [List.length_drop, List.length_take]; rfl)) ?_; (with_reducible refine (corncribref03_Under.calls k1 t440 t441 t442 _ _ x11_1 t445 _ ?side1 ?side2 A16.out).mono ?_); (case side1 => refine (Kd.R_reads' (e := 9) (base := w.heap.size) (ok := fun k_ => True) (n := x11_1.length) (c := co26) ?_).2.2; exact (by (with_reducible repeat (first | apply Kd.R_alloc | apply Kd.R_drewN | apply Kd.R_drew)); exact (Kd.R_mono (Kd.R_far (p := ⟨gb444, 2, none⟩) (Kd.R_far (p := ⟨gb444, 1, none⟩) (Kd.R_far (p := ⟨gb444, 0, none⟩) (Kd.R_types HO_11.out BK444.out (by decide)) (fun _ hk => hk.2) (.int .i64 t440)) (fun _ hk => hk.2) (.int .i64 t441)) (fun _ hk => hk.2) (.string t442)) (fun _ h_ => h_.1)))); (case side2 => exact (Kd.R_reads' HO_11.out).2.1); rintro e w27 ⟨v446, rfl, ho0, hb⟩; refine ⟨_, rfl, ?_⟩; have n0_ := Aside0.mk (Kd.R_below (by (with_reducible repeat (first | apply Kd.R_alloc | apply Kd.R_drewN | apply Kd.R_drew)); exact (Kd.R_mono (Kd.R_far (p := ⟨gb444, 2, none⟩) (Kd.R_far (p := ⟨gb444, 1, none⟩) (Kd.R_far (p := ⟨gb444, 0, none⟩) (Kd.R_types HO_10.out BK444.out (by decide)) (fun _ hk => hk.2) (.int .i64 t440)) (fun _ hk => hk.2) (.int .i64 t441)) (fun _ hk => hk.2) (.string t442)) (fun _ h_ => h_.1))) hb); have n1_ := Aside0.mk (Kd.R_elder' (by (with_reducible repeat (first | apply Kd.R_alloc | apply Kd.R_drewN | apply Kd.R_drew)); exact (Kd.R_mono (Kd.R_far (p := ⟨gb444, 2, none⟩) (Kd.R_far (p := ⟨gb444, 1, none⟩) (Kd.R_far (p := ⟨gb444, 0, none⟩) (Kd.R_types HO_11.out BK444.out (by decide)) (fun _ hk => hk.2) (.int .i64 t440)) (fun _ hk => hk.2) (.int .i64 t441)) (fun _ hk => hk.2) (.string t442)) (fun _ h_ => h_.1))) (Kd.R_base ho0) hb); have n2_ := Aside0.mk (Kd.R_lower (Kd.R_new' ho0 (Kd.R_lt (by (with_reducible repeat (first | apply Kd.R_alloc | apply Kd.R_drewN | apply Kd.R_drew)); exact (Kd.R_mono (Kd.R_far (p := ⟨gb444, 2, none⟩) (Kd.R_far (p := ⟨gb444, 1, none⟩) (Kd.R_far (p := ⟨gb444, 0, none⟩) (Kd.R_types HO_11.out BK444.out (by decide)) (fun _ hk => hk.2) (.int .i64 t440)) (fun _ hk => hk.2) (.int .i64 t441)) (fun _ hk => hk.2) (.string t442)) (fun _ h_ => h_.1))))) (below_size (by repeat (first | (with_reducible first | exact HB.out | apply below_alloc | apply pw_below_drewN | apply below_drew1 | refine below_set ?_ GE439.out | refine below_set ?_ GE444.out) | exact HB.out)))); have n3_ := Aside0.mk (blk_below (g := gb439) (o := .cells #[.int .i64 t435, .int .i64 t436, .string t437] 74 (0, 0)) (by (with_reducible repeat (first | refine blk_drewN ?_ _ | refine blk_drew ?_ | refine blk_alloc ?_ _)); refine blk_far ?_ NB439_444.out _; (with_reducible repeat (first | refine blk_drewN ?_ _ | refine blk_drew ?_ | refine blk_alloc ?_ _)); refine blk_far ?_ NB439_444.out _; (with_reducible repeat (first | refine blk_drewN ?_ _ | refine blk_drew ?_ | refine blk_alloc ?_ _)); refine blk_far ?_ NB439_444.out _; (with_reducible repeat (first | refine blk_drewN ?_ _ | refine blk_drew ?_ | refine blk_alloc ?_ _)); exact BK439.out) hb); have n4_ := Aside0.mk (blk_below (g := gb444) (o := .cells #[.int .i64 t440, .int .i64 t441, .string t442] 74 (0, 0)) (by (with_reducible repeat (first | refine blk_drewN ?_ _ | refine blk_drew ?_ | refine blk_alloc ?_ _)); refine blk_put (cs := #[.int .i64 t440, .int .i64 t441, .string (⟨#[]⟩ : ByteArray)]) ?_ 2 _ rfl; (with_reducible repeat (first | refine blk_drewN ?_ _ | refine blk_drew ?_ | refine blk_alloc ?_ _)); refine blk_put (cs := #[.int .i64 t440, .int .i64 0, .string (⟨#[]⟩ : ByteArray)]) ?_ 1 _ rfl; (with_reducible repeat (first | refine blk_drewN ?_ _ | refine blk_drew ?_ | refine blk_alloc ?_ _)); refine blk_put (cs := #[.int .i64 0, .int .i64 0, .string (⟨#[]⟩ : ByteArray)]) ?_ 0 _ rfl; (with_reducible repeat (first | refine blk_drewN ?_ _ | refine blk_drew ?_ | refine blk_alloc ?_ _)); exact BK444.out) hb); have n5_ := Aside0.mk (below_step (by repeat (first | (with_reducible first | exact HB.out | apply below_alloc | apply pw_below_drewN | apply below_drew1 | refine below_set ?_ GE439.out | refine below_set ?_ GE444.out) | exact HB.out)) hb); clear HO_10; clear HO_11; clear BK439; clear BK444; clear HB; have HO_10 := n0_; have HO_11 := n1_; have HO447 := n2_; have BK439 := n3_; have BK444 := n4_; have HB := n5_; clear n0_ n1_ n2_ n3_ n4_ n5_; (try clear hb); (try clear hb2); (try clear hk); (try clear hi); (try clear ho0)))
     go_ret2
     exact ⟨_, by first | rfl | (simp [errW_none, errW_some] <;> rfl) | (simp [*, errW_none, errW_some] <;> rfl), by (with_reducible repeat (first | apply Kd.R_alloc | apply Kd.R_drewN | apply Kd.R_drew)); exact Kd.R_mono HO447.out (fun _ hk => trivial), by repeat (first | (with_reducible first | exact HB.out | apply below_alloc | apply pw_below_drewN | apply below_drew1 | refine below_set ?_ GE439.out | refine below_set ?_ GE444.out) | exact HB.out)⟩
 ·rw [if_neg c5] at H
  have c5b0 : (t423 == 0) = false := beq_eq_false_iff_ne.mpr c5
  have c5b1 : (t423 != 0) = true := bne_iff_ne.mpr c5
  simp only [Option.some.injEq, Prod.mk.injEq] at H
  obtain ⟨rfl, rfl⟩ := H
  go_enter Tryd.func39, Tryd.ntmps39
  go_wp2_with (first | ((with_reducible refine gate_callee (f := 35) rfl ?_); refine goesL_ (some 21) rfl rfl Tryd.func35 (by kernel_rfl) rfl #[.int .i64 a0, .int .i64 a1, .slice A2 l2.length c2] rfl (by (try simp only [List.map_toArray, List.map_cons, List.map_nil]); first | done | rfl | (simp only [List.length_drop, List.length_take]; rfl)) ?_; (with_reducible refine (corncribref04_Check.calls k a0 a1 _ _ l2 t422 t423 _ ?side1 ?side2 A4.out).mono ?_); (case side1 => repeat (first | exact HR2.out | (with_reducible refine Kd.C_alloc ?_ _) | (with_reducible refine Kd.C_drewN ?_ _) | (with_reducible refine Kd.C_drew ?_))); (case side2 => exact HC2.out); rintro e w' ⟨rfl, ⟨nd, rfl⟩⟩; refine ⟨_, rfl, ?_⟩))
  go_ret2
  exact ⟨_, by first | rfl | (simp [errW_none, errW_some] <;> rfl) | (simp [*, errW_none, errW_some] <;> rfl), by first | exact Kd.R_nil _ _ _ _ _ | exact Kd.N_nil _ _ _ _ _ | exact Kd.V_nil _ _ _ _ _ | exact Kd.Q_nil _ _ _ _ _ | exact Kd.S_nil _ _ _ _ _, by repeat (first | (with_reducible first | exact HB.out | apply below_alloc | apply pw_below_drewN | apply below_drew1) | exact HB.out)⟩

end Go.Proofs.YtegmmefijihdeaaDoor.PS
namespace Go.Proofs.YtegmmefijihdeaaDoor.PS
open Go.RowKit Go.Proofs.YtegmmefijihdeaaDoorW.PrintWords Go.Proofs.YtegmmefijihdeaaDoorW.PrintLast Go.Proofs.YtegmmefijihdeaaDoorW.PrintMore
attribute [local go_sem] Mk.str_leq Mk.str_gtr Mk.str_geq max2_int min2_int max_two min_two max_three min_three max_four min_four   -- for this text's walks alone
set_option linter.unusedVariables false
set_option linter.unusedSimpArgs false

/-! ### corncribref04_All: function 66 -/
def corncribref04_All.f (k : Nat) (a0 : Int) (a1 : Int) (l2 : List (S62)) : Option (List ByteArray × Int) := (corncribref04_Data.f k a0 a1 l2).bind fun bt564 => (if bt564.2 = 0 then ((corncribref02_Made.f a0 a1).bind fun bt568 => ((corncribref03_Under.f k bt568.1 bt568.2.1 bt568.2.2 bt564.1).bind fun t571 => (some (t571, 0)))) else (some (([] : List ByteArray), bt564.2)))
theorem corncribref04_All.mono : ∀ a0 a1 a2 k, LeO (corncribref04_All.f k a0 a1 a2) (corncribref04_All.f (k + 1) a0 a1 a2) := by
 intro a0 a1 a2 k
 unfold corncribref04_All.f
 repeat' first
   | (with_reducible exact corncribref03_Under.mono _ _ _ _ _)
   | (with_reducible exact corncribref04_Data.mono _ _ _ _)
   | (with_reducible exact LeO.refl _)
   | (with_reducible exact LeO.none _)
   | (with_reducible refine LeO.ite ?_ ?_)
   | (with_reducible refine LeO.bind ?_ (fun _ => ?_))
   | exact corncribref03_Under.mono _ _ _ _ _
   | exact corncribref04_Data.mono _ _ _ _
   | exact LeO.none _
   | refine LeO.ite ?_ ?_
   | refine LeO.bind ?_ (fun _ => ?_)
set_option maxHeartbeats 8000000 in
set_option maxRecDepth 100000 in
theorem corncribref04_All.calls (k : Nat) (a0 : Int) (a1 : Int) (A2 : Option Addr) (c2 : Nat) (l2 : List (S62)) (r1 : List ByteArray) (r2 : Int) (w : World) (hr2 : Kd.C k62 w A2 l2.length l2) (hc2 : l2.length ≤ c2) (h : corncribref04_All.f k a0 a1 l2 = some (r1, r2)) :
  Calls Tryd.prog 66 #[.int .i64 a0, .int .i64 a1, .slice A2 l2.length c2] w fun e w' => ∃ v0_ : Value, e = .returned (.tuple #[v0_, .int .i64 r2]) ∧ Kd.R Kd.string 9 w' w.heap.size (fun _ => True) v0_ r1 ∧ Below w.heap.size w w' := by
 have HR2 := Aside0.mk hr2
 have HC2 := Aside0.mk hc2
 clear hr2 hc2
 have HB := Aside0.mk (Below.refl w.heap.size w)
 have H : ((corncribref04_Data.f k a0 a1 l2).bind fun bt564 => (if bt564.2 = 0 then ((corncribref02_Made.f a0 a1).bind fun bt568 => ((corncribref03_Under.f k bt568.1 bt568.2.1 bt568.2.2 bt564.1).bind fun t571 => (some (t571, 0)))) else (some (([] : List ByteArray), bt564.2)))) = some (r1, r2) := h
 clear h
 replace H := Option.bind_eq_some_iff.mp H
 obtain ⟨⟨t564, t565⟩, A40, H⟩ := H
 replace H : (if t565 = 0 then ((corncribref02_Made.f a0 a1).bind fun bt568 => ((corncribref03_Under.f k bt568.1 bt568.2.1 bt568.2.2 t564).bind fun t571 => (some (t571, 0)))) else (some (([] : List ByteArray), t565))) = some (r1, r2) := H
 have A4 := Aside0.mk A40
 clear A40
 by_cases c5 : t565 = 0
 ·rw [if_pos c5] at H
  have c5b0 : (t565 == 0) = true := beq_iff_eq.mpr c5
  have c5b1 : (t565 != 0) = false := bne_eq_false_iff_eq.mpr c5
  clear c5
  replace H := Option.bind_eq_some_iff.mp H
  obtain ⟨⟨t568, t569, t570⟩, A60, H⟩ := H
  replace H : ((corncribref03_Under.f k t568 t569 t570 t564).bind fun t571 => (some (t571, 0))) = some (r1, r2) := H
  have A6 := Aside0.mk A60
  clear A60
  replace H := Option.bind_eq_some_iff.mp H
  obtain ⟨t571, A70, H⟩ := H
  replace H : (some (t571, 0)) = some (r1, r2) := H
  have A7 := Aside0.mk A70
  clear A70
  simp only [Option.some.injEq, Prod.mk.injEq] at H
  obtain ⟨rfl, rfl⟩ := H
  go_enter Tryd.func66, Tryd.ntmps66
  go_wp2_with (first | ((with_reducible refine gate_callee (f := 39) rfl ?_); refine goesL_ (some 14) rfl rfl Tryd.func39 (by kernel_rfl) rfl #[.int .i64 a0, .int .i64 a1, .slice A2 l2.length c2] rfl (by (try simp only [List.map_toArray, List.map_cons, List.map_nil]); first | done | rfl | (simp only [List.length_drop, List.length_take]; rfl)) ?_; (with_reducible refine (corncribref04_Data.calls k a0 a1 _ _ l2 t564 t565 _ ?side1 ?side2 A4.out).mono ?_); (case side1 => repeat (first | exact HR2.out | (with_reducible refine Kd.C_alloc ?_ _) | (with_reducible refine Kd.C_drewN ?_ _) | (with_reducible refine Kd.C_drew ?_))); (case side2 => exact HC2.out); rintro e w8 ⟨v566, rfl, ho0, hb⟩; refine ⟨_, rfl, ?_⟩; have n0_ := Aside0.mk (Kd.R_lower ho0 (below_size (by repeat (first | (with_reducible first | exact HB.out | apply below_alloc | apply pw_below_drewN | apply below_drew1) | exact HB.out)))); have n1_ := Aside0.mk (below_step (by repeat (first | (with_reducible first | exact HB.out | apply below_alloc | apply pw_below_drewN | apply below_drew1) | exact HB.out)) hb); clear HB; have HO567 := n0_; have HB := n1_; clear n0_ n1_; (try clear hb); (try clear hb2); (try clear hk); (try clear hi); (try clear ho0)) | ((with_reducible refine gate_callee (f := 59) rfl ?_); refine goesL_ (some 22) rfl rfl Tryd.func59 (by kernel_rfl) rfl #[.int .i64 a0, .int .i64 a1] rfl (by (try simp only [List.map_toArray, List.map_cons, List.map_nil]); first | done | rfl | (simp only [List.length_drop, List.length_take]; rfl)) ?_; (with_reducible refine (corncribref02_Made.calls a0 a1 t568 t569 t570 _ A6.out).mono ?_); rintro e w9 ⟨rfl, hb⟩; refine ⟨_, rfl, ?_⟩; have n0_ := Aside0.mk (Kd.R_below (by (with_reducible repeat (first | apply Kd.R_alloc | apply Kd.R_drewN | apply Kd.R_drew)); exact HO567.out) hb); have n1_ := Aside0.mk (below_step (by repeat (first | (with_reducible first | exact HB.out | apply below_alloc | apply pw_below_drewN | apply below_drew1) | exact HB.out)) hb); clear HO567; clear HB; have HO567 := n0_; have HB := n1_; clear n0_ n1_; (try clear hb); (try clear hb2); (try clear hk); (try clear hi); obtain ⟨Ao10, co10, eo10⟩ := Kd.R_slice HO567.out; subst eo10) | ((with_reducible refine gate_callee (f := 58) rfl ?_); refine goesL_ (some 24) rfl rfl Tryd.func58 (by kernel_rfl) rfl #[.agg #[.int .i64 t568, .int .i64 t569, .string t570], .slice Ao10 t564.length co10] rfl (by (try simp only [List.map_toArray, List.map_cons, List.map_nil]); first | done | rfl | (simp only [List.length_drop, List.length_take]; rfl)) ?_; (with_reducible refine (corncribref03_Under.calls k t568 t569 t570 _ _ t564 t571 _ ?side1 ?side2 A7.out).mono ?_); (case side1 => repeat (first | exact (Kd.R_reads' HO567.out).2.2 | (with_reducible refine Kd.C_alloc ?_ _) | (with_reducible refine Kd.C_drewN ?_ _) | (with_reducible refine Kd.C_drew ?_))); (case side2 => exact (Kd.R_reads' HO567.out).2.1); rintro e w11 ⟨v572, rfl, ho0, hb⟩; refine ⟨_, rfl, ?_⟩; have n0_ := Aside0.mk (Kd.R_elder' (by (with_reducible repeat (first | apply Kd.R_alloc | apply Kd.R_drewN | apply Kd.R_drew)); exact HO567.out) (Kd.R_base ho0) hb); have n1_ := Aside0.mk (Kd.R_lower (Kd.R_new' ho0 (Kd.R_lt (by (with_reducible repeat (first | apply Kd.R_alloc | apply Kd.R_drewN | apply Kd.R_drew)); exact HO567.out))) (below_size (by repeat (first | (with_reducible first | exact HB.out | apply below_alloc | apply pw_below_drewN | apply below_drew1) | exact HB.out)))); have n2_ := Aside0.mk (below_step (by repeat (first | (with_reducible first | exact HB.out | apply below_alloc | apply pw_below_drewN | apply below_drew1) | exact HB.out)) hb); clear HO567; clear HB; have HO567 := n0_; have HO573 := n1_; have HB := n2_; clear n0_ n1_ n2_; (try clear hb); (try clear hb2); (try clear hk); (try clear hi); (try clear ho0)))
  go_ret2
  exact ⟨_, by first | rfl | (simp [errW_none, errW_some] <;> rfl) | (simp [*, errW_none, errW_some] <;> rfl), by (with_reducible repeat (first | apply Kd.R_alloc | apply Kd.R_drewN | apply Kd.R_drew)); exact Kd.R_mono HO573.out (fun _ hk => trivial), by repeat (first | (with_reducible first | exact HB.out | apply below_alloc | apply pw_below_drewN | apply below_drew1) | exact HB.out)⟩
 ·rw [if_neg c5] at H
  have c5b0 : (t565 == 0) = false := beq_eq_false_iff_ne.mpr c5
  have c5b1 : (t565 != 0) = true := bne_iff_ne.mpr c5
  simp only [Option.some.injEq, Prod.mk.injEq] at H
  obtain ⟨rfl, rfl⟩ := H
  go_enter Tryd.func66, Tryd.ntmps66
  go_wp2_with (first | ((with_reducible refine gate_callee (f := 39) rfl ?_); refine goesL_ (some 14) rfl rfl Tryd.func39 (by kernel_rfl) rfl #[.int .i64 a0, .int .i64 a1, .slice A2 l2.length c2] rfl (by (try simp only [List.map_toArray, List.map_cons, List.map_nil]); first | done | rfl | (simp only [List.length_drop, List.length_take]; rfl)) ?_; (with_reducible refine (corncribref04_Data.calls k a0 a1 _ _ l2 t564 t565 _ ?side1 ?side2 A4.out).mono ?_); (case side1 => repeat (first | exact HR2.out | (with_reducible refine Kd.C_alloc ?_ _) | (with_reducible refine Kd.C_drewN ?_ _) | (with_reducible refine Kd.C_drew ?_))); (case side2 => exact HC2.out); rintro e w12 ⟨v566, rfl, ho0, hb⟩; refine ⟨_, rfl, ?_⟩; have n0_ := Aside0.mk (Kd.R_lower ho0 (below_size (by repeat (first | (with_reducible first | exact HB.out | apply below_alloc | apply pw_below_drewN | apply below_drew1) | exact HB.out)))); have n1_ := Aside0.mk (below_step (by repeat (first | (with_reducible first | exact HB.out | apply below_alloc | apply pw_below_drewN | apply below_drew1) | exact HB.out)) hb); clear HB; have HO567 := n0_; have HB := n1_; clear n0_ n1_; (try clear hb); (try clear hb2); (try clear hk); (try clear hi); (try clear ho0)))
  go_ret2
  exact ⟨_, by first | rfl | (simp [errW_none, errW_some] <;> rfl) | (simp [*, errW_none, errW_some] <;> rfl), by first | exact Kd.R_nil _ _ _ _ _ | exact Kd.N_nil _ _ _ _ _ | exact Kd.V_nil _ _ _ _ _ | exact Kd.Q_nil _ _ _ _ _ | exact Kd.S_nil _ _ _ _ _, by repeat (first | (with_reducible first | exact HB.out | apply below_alloc | apply pw_below_drewN | apply below_drew1) | exact HB.out)⟩

end Go.Proofs.YtegmmefijihdeaaDoor.PS
namespace Go.Proofs.YtegmmefijihdeaaDoor.PS
open Go.RowKit Go.Proofs.YtegmmefijihdeaaDoorW.PrintWords Go.Proofs.YtegmmefijihdeaaDoorW.PrintLast Go.Proofs.YtegmmefijihdeaaDoorW.PrintMore Go.Proofs.YtegmmefijihdeaaDoor.Gf Go.Proofs.YtegmmefijihdeaaDoor.Fld Go.Proofs.YtegmmefijihdeaaDoor.Grd Go.Proofs.YtegmmefijihdeaaDoor.Rowb
set_option linter.unusedVariables false
set_option linter.unusedSimpArgs false
section
variable {K M : Nat} {l : List S62} (g : Good K M l)
include g
theorem Good.refdata_from (d : Nat) : ∀ i, i + d = K → ∀ k, d + underN K K (shardN l) + 1 ≤ k → corncribref04_Data.l0 k (K : Int) (M : Int) l (rowsI l i) (havS l i) (i : Int) = some (dataL K M l, 0) := by
  have h1 := g.k1
  have h2 := g.km
  have hlen := g.len
  induction d with
  | zero =>
    intro i hi k hk
    obtain ⟨m, rfl, hm⟩ := pred_of (K := underN K K (shardN l)) (k := k) (by omega)
    have e : i = K := by omega
    subst e
    have hc : codeB (i : Int) (M : Int) = true := codeB_in h1 h2
    simp only [corncribref04_Data.l0]
    rw [if_neg (by omega)]
    unfold corncribref02_Made.f corncribref02_Pick.f corncribref02_Inverse.f
    rw [if_pos hc, Option.bind_some]
    simp only [Int.toNat_natCast]
    rw [g.pick_f, Option.bind_some]
    simp only
    rw [g.inv_f, Option.bind_some]
    simp only
    have hu := under_f i i (shardN l) (fun r j => at2 (invM i M l) r j) (invM i M l).flatten (havS l i) (by omega) (by omega) (by rw [flat_len _ g.invRows, g.inv.2.1.len]) (fun r j hr hj => g.invAt r j hr hj) g.havLen h1 (fun s hs => by
      have := even_of g.even.1 s hs
      rw [g.even.2] at this
      exact this) (by have := g.most; unfold shardN; omega) m hm
    rw [hu, Option.bind_some]
    rfl
  | succ d ih =>
    intro i hi k hk
    obtain ⟨m, rfl, hm⟩ := pred_of (K := d + underN K K (shardN l) + 1) (k := k) (by omega)
    have hil : i < l.length := by omega
    have er : rowsI l i ++ [l[i].f0] = rowsI l (i + 1) := by
      unfold rowsI
      rw [List.take_succ_eq_append_getElem (by omega), List.map_append]
      rfl
    have eh : havS l i ++ [l[i].f1] = havS l (i + 1) := by
      unfold havS
      rw [List.take_succ_eq_append_getElem (by omega), List.map_append]
      rfl
    have el1 : (rowsI l i).length ≤ 255 := by unfold rowsI; rw [List.length_map, List.length_take]; omega
    have el2 : (havS l i).length ≤ 255 := by unfold havS; rw [List.length_map, List.length_take]; omega
    have step : corncribref04_Data.l0 (m + 1) (K : Int) (M : Int) l (rowsI l i) (havS l i) (i : Int) = corncribref04_Data.l0 m (K : Int) (M : Int) l (rowsI l (i + 1)) (havS l (i + 1)) ((i + 1 : Nat) : Int) := by
      conv => lhs; unfold corncribref04_Data.l0
      rw [if_pos (by omega), if_pos (by omega), if_pos (by omega), if_pos (by omega), if_pos (by omega), rdT_nat l i hil, er, eh, w64_in ((i : Int) + 1) (by omega) (by omega)]
      rfl
    rw [step]
    exact ih (i + 1) (by omega) m hm
theorem Good.refdata (hl : l.length < 9223372036854775807) : Ev (fun f => corncribref04_Data.f f (K : Int) (M : Int) l) (dataL K M l, 0) := by
  obtain ⟨N, hN⟩ := refcheck_ev (K : Int) (M : Int) l hl
  refine ⟨N + K + underN K K (shardN l) + 1, fun f hf => ?_⟩
  have h := hN f (by omega)
  show corncribref04_Data.f f (K : Int) (M : Int) l = _
  have h' : corncribref04_Check.f f (K : Int) (M : Int) l = some (0, 0) := by rw [good_check g] at h; exact h
  unfold corncribref04_Data.f
  rw [h', Option.bind_some, if_pos rfl]
  have := g.refdata_from K 0 (by omega) f (by omega)
  have e0 : rowsI l 0 = [] := by simp [rowsI]
  have e1 : havS l 0 = [] := by simp [havS]
  rw [e0, e1] at this
  exact this
theorem Good.refall (hl : l.length < 9223372036854775807) : Ev (fun f => corncribref04_All.f f (K : Int) (M : Int) l) (allL K M (shardN l) (dataL K M l), 0) := by
  have h1 := g.k1
  have h2 := g.km
  have hm := g.most
  obtain ⟨N, hN⟩ := g.refdata hl
  refine ⟨N + underN (K + M) K (shardN l), fun f hf => ?_⟩
  have h : corncribref04_Data.f f (K : Int) (M : Int) l = some (dataL K M l, 0) := hN f (by omega)
  show corncribref04_All.f f (K : Int) (M : Int) l = _
  unfold corncribref04_All.f
  rw [h, Option.bind_some, if_pos rfl]
  unfold corncribref02_Made.f
  rw [if_pos (codeB_in h1 h2), Option.bind_some]
  simp only [Int.toNat_natCast]
  have hu := under_f (K + M) K (shardN l) (fun r j => genAt K r j) (genG K M).flatten (dataL K M l) (by omega) (by omega) (genG_flat_len K M) (fun r j hr hj => gen_getD K M r j hr hj) g.dataLen h1 g.dataSize (by unfold shardN; omega) f (by omega)
  have e : (K : Int) + (M : Int) = ((K + M : Nat) : Int) := by push_cast; rfl
  rw [e, hu, Option.bind_some, allL_under K M (shardN l) (dataL K M l) g.dataLen g.dataSize]
end
theorem bad_refdata {k m : Int} {l : List S62} (hl : l.length < 9223372036854775807) (h : (checkV k m l).2 ≠ 0) : Ev (fun f => corncribref04_Data.f f k m l) ([], (checkV k m l).2) := by
  obtain ⟨N, hN⟩ := refcheck_ev k m l hl
  refine ⟨N, fun f hf => ?_⟩
  have h' : corncribref04_Check.f f k m l = some (checkV k m l) := hN f hf
  show corncribref04_Data.f f k m l = _
  unfold corncribref04_Data.f
  rw [h', Option.bind_some, if_neg h]
end Go.Proofs.YtegmmefijihdeaaDoor.PS
namespace Go.Proofs.YtegmmefijihdeaaDoor.PS
open Go.RowKit Go.Proofs.YtegmmefijihdeaaDoorW.PrintWords Go.Proofs.YtegmmefijihdeaaDoorW.PrintLast Go.Proofs.YtegmmefijihdeaaDoorW.PrintMore
attribute [local go_sem] Mk.str_leq Mk.str_gtr Mk.str_geq max2_int min2_int max_two min_two max_three min_three max_four min_four   -- for this text's walks alone
set_option linter.unusedVariables false
set_option linter.unusedSimpArgs false

/-! ### corncribref04_One: function 44 -/
def corncribref04_One.f (k : Nat) (a0 : Int) (a1 : Int) (l2 : List (S62)) (a3 : Int) : Option (ByteArray × Int) := (corncribref04_All.f k a0 a1 l2).bind fun bt574 => (if bt574.2 = 0 then (if a3 < 0 then (some ((⟨#[]⟩ : ByteArray), 1)) else (if a3 ≥ (bt574.1.length : Int) then (some ((⟨#[]⟩ : ByteArray), 1)) else (if 0 ≤ a3 then (if a3 < (bt574.1.length : Int) then (some (rdOf ByteArray.empty bt574.1 a3, 0)) else (none)) else (none)))) else (some ((⟨#[]⟩ : ByteArray), bt574.2)))
theorem corncribref04_One.mono : ∀ a0 a1 a2 a3 k, LeO (corncribref04_One.f k a0 a1 a2 a3) (corncribref04_One.f (k + 1) a0 a1 a2 a3) := by
 intro a0 a1 a2 a3 k
 unfold corncribref04_One.f
 repeat' first
   | (with_reducible exact corncribref04_All.mono _ _ _ _)
   | (with_reducible exact LeO.refl _)
   | (with_reducible exact LeO.none _)
   | (with_reducible refine LeO.ite ?_ ?_)
   | (with_reducible refine LeO.bind ?_ (fun _ => ?_))
   | exact corncribref04_All.mono _ _ _ _
   | exact LeO.none _
   | refine LeO.ite ?_ ?_
   | refine LeO.bind ?_ (fun _ => ?_)
set_option maxHeartbeats 8000000 in
set_option maxRecDepth 100000 in
theorem corncribref04_One.calls (k : Nat) (a0 : Int) (a1 : Int) (A2 : Option Addr) (c2 : Nat) (l2 : List (S62)) (a3 : Int) (r1 : ByteArray) (r2 : Int) (w : World) (hr2 : Kd.C k62 w A2 l2.length l2) (hc2 : l2.length ≤ c2) (h : corncribref04_One.f k a0 a1 l2 a3 = some (r1, r2)) :
  Calls Tryd.prog 44 #[.int .i64 a0, .int .i64 a1, .slice A2 l2.length c2, .int .i64 a3] w fun e w' => e = .returned (.tuple #[.string r1, .int .i64 r2]) ∧ Below w.heap.size w w' := by
 have HR2 := Aside0.mk hr2
 have HC2 := Aside0.mk hc2
 clear hr2 hc2
 have HB := Aside0.mk (Below.refl w.heap.size w)
 have H : ((corncribref04_All.f k a0 a1 l2).bind fun bt574 => (if bt574.2 = 0 then (if a3 < 0 then (some ((⟨#[]⟩ : ByteArray), 1)) else (if a3 ≥ (bt574.1.length : Int) then (some ((⟨#[]⟩ : ByteArray), 1)) else (if 0 ≤ a3 then (if a3 < (bt574.1.length : Int) then (some (rdOf ByteArray.empty bt574.1 a3, 0)) else (none)) else (none)))) else (some ((⟨#[]⟩ : ByteArray), bt574.2)))) = some (r1, r2) := h
 clear h
 replace H := Option.bind_eq_some_iff.mp H
 obtain ⟨⟨t574, t575⟩, A50, H⟩ := H
 replace H : (if t575 = 0 then (if a3 < 0 then (some ((⟨#[]⟩ : ByteArray), 1)) else (if a3 ≥ (t574.length : Int) then (some ((⟨#[]⟩ : ByteArray), 1)) else (if 0 ≤ a3 then (if a3 < (t574.length : Int) then (some (rdOf ByteArray.empty t574 a3, 0)) else (none)) else (none)))) else (some ((⟨#[]⟩ : ByteArray), t575))) = some (r1, r2) := H
 have A5 := Aside0.mk A50
 clear A50
 by_cases c6 : t575 = 0
 ·rw [if_pos c6] at H
  have c6b0 : (t575 == 0) = true := beq_iff_eq.mpr c6
  have c6b1 : (t575 != 0) = false := bne_eq_false_iff_eq.mpr c6
  clear c6
  by_cases c7 : a3 < 0
  ·rw [if_pos c7] at H
   have c7b0 : decide (a3 < 0) = true := decide_eq_true c7
   clear c7
   simp only [Option.some.injEq, Prod.mk.injEq] at H
   obtain ⟨rfl, rfl⟩ := H
   go_enter Tryd.func44, Tryd.ntmps44
   go_wp2_with (first | ((with_reducible refine gate_callee (f := 66) rfl ?_); refine goesL_ (some 16) rfl rfl Tryd.func66 (by kernel_rfl) rfl #[.int .i64 a0, .int .i64 a1, .slice A2 l2.length c2] rfl (by (try simp only [List.map_toArray, List.map_cons, List.map_nil]); first | done | rfl | (simp only [List.length_drop, List.length_take]; rfl)) ?_; (with_reducible refine (corncribref04_All.calls k a0 a1 _ _ l2 t574 t575 _ ?side1 ?side2 A5.out).mono ?_); (case side1 => repeat (first | exact HR2.out | (with_reducible refine Kd.C_alloc ?_ _) | (with_reducible refine Kd.C_drewN ?_ _) | (with_reducible refine Kd.C_drew ?_))); (case side2 => exact HC2.out); rintro e w8 ⟨v576, rfl, ho0, hb⟩; refine ⟨_, rfl, ?_⟩; have n0_ := Aside0.mk (Kd.R_lower ho0 (below_size (by repeat (first | (with_reducible first | exact HB.out | apply below_alloc | apply pw_below_drewN | apply below_drew1) | exact HB.out)))); have n1_ := Aside0.mk (below_step (by repeat (first | (with_reducible first | exact HB.out | apply below_alloc | apply pw_below_drewN | apply below_drew1) | exact HB.out)) hb); clear HB; have HO577 := n0_; have HB := n1_; clear n0_ n1_; (try clear hb); (try clear hb2); (try clear hk); (try clear hi); (try clear ho0)))
   go_ret2
   exact ⟨by first | rfl | (simp [errW_none, errW_some] <;> rfl) | (simp [*, errW_none, errW_some] <;> rfl), by repeat (first | (with_reducible first | exact HB.out | apply below_alloc | apply pw_below_drewN | apply below_drew1) | exact HB.out)⟩
  ·rw [if_neg c7] at H
   have c7b0 : decide (a3 < 0) = false := decide_eq_false c7
   clear c7
   by_cases c9 : a3 ≥ (t574.length : Int)
   ·rw [if_pos c9] at H
    have c9b0 : decide ((t574.length : Int) ≤ a3) = true := decide_eq_true c9
    clear c9
    simp only [Option.some.injEq, Prod.mk.injEq] at H
    obtain ⟨rfl, rfl⟩ := H
    go_enter Tryd.func44, Tryd.ntmps44
    go_wp2_with (first | ((with_reducible refine gate_callee (f := 66) rfl ?_); refine goesL_ (some 16) rfl rfl Tryd.func66 (by kernel_rfl) rfl #[.int .i64 a0, .int .i64 a1, .slice A2 l2.length c2] rfl (by (try simp only [List.map_toArray, List.map_cons, List.map_nil]); first | done | rfl | (simp only [List.length_drop, List.length_take]; rfl)) ?_; (with_reducible refine (corncribref04_All.calls k a0 a1 _ _ l2 t574 t575 _ ?side1 ?side2 A5.out).mono ?_); (case side1 => repeat (first | exact HR2.out | (with_reducible refine Kd.C_alloc ?_ _) | (with_reducible refine Kd.C_drewN ?_ _) | (with_reducible refine Kd.C_drew ?_))); (case side2 => exact HC2.out); rintro e w10 ⟨v576, rfl, ho0, hb⟩; refine ⟨_, rfl, ?_⟩; have n0_ := Aside0.mk (Kd.R_lower ho0 (below_size (by repeat (first | (with_reducible first | exact HB.out | apply below_alloc | apply pw_below_drewN | apply below_drew1) | exact HB.out)))); have n1_ := Aside0.mk (below_step (by repeat (first | (with_reducible first | exact HB.out | apply below_alloc | apply pw_below_drewN | apply below_drew1) | exact HB.out)) hb); clear HB; have HO577 := n0_; have HB := n1_; clear n0_ n1_; (try clear hb); (try clear hb2); (try clear hk); (try clear hi); (try clear ho0); obtain ⟨Ao11, co11, eo11⟩ := Kd.R_slice HO577.out; subst eo11))
    go_ret2
    exact ⟨by first | rfl | (simp [errW_none, errW_some] <;> rfl) | (simp [*, errW_none, errW_some] <;> rfl), by repeat (first | (with_reducible first | exact HB.out | apply below_alloc | apply pw_below_drewN | apply below_drew1) | exact HB.out)⟩
   ·rw [if_neg c9] at H
    have c9b0 : decide ((t574.length : Int) ≤ a3) = false := decide_eq_false c9
    clear c9
    by_cases c12 : 0 ≤ a3
    ·rw [if_pos c12] at H
     have c12b0 : decide (0 ≤ a3) = true := decide_eq_true c12
     clear c12
     by_cases c13 : a3 < (t574.length : Int)
     ·rw [if_pos c13] at H
      have c13b0 : decide (a3 < (t574.length : Int)) = true := decide_eq_true c13
      clear c13
      simp only [Option.some.injEq, Prod.mk.injEq] at H
      obtain ⟨rfl, rfl⟩ := H
      go_enter Tryd.func44, Tryd.ntmps44
      go_wp2_with (first | ((with_reducible refine gate_callee (f := 66) rfl ?_); refine goesL_ (some 16) rfl rfl Tryd.func66 (by kernel_rfl) rfl #[.int .i64 a0, .int .i64 a1, .slice A2 l2.length c2] rfl (by (try simp only [List.map_toArray, List.map_cons, List.map_nil]); first | done | rfl | (simp only [List.length_drop, List.length_take]; rfl)) ?_; (with_reducible refine (corncribref04_All.calls k a0 a1 _ _ l2 t574 t575 _ ?side1 ?side2 A5.out).mono ?_); (case side1 => repeat (first | exact HR2.out | (with_reducible refine Kd.C_alloc ?_ _) | (with_reducible refine Kd.C_drewN ?_ _) | (with_reducible refine Kd.C_drew ?_))); (case side2 => exact HC2.out); rintro e w14 ⟨v576, rfl, ho0, hb⟩; refine ⟨_, rfl, ?_⟩; have n0_ := Aside0.mk (Kd.R_lower ho0 (below_size (by repeat (first | (with_reducible first | exact HB.out | apply below_alloc | apply pw_below_drewN | apply below_drew1) | exact HB.out)))); have n1_ := Aside0.mk (below_step (by repeat (first | (with_reducible first | exact HB.out | apply below_alloc | apply pw_below_drewN | apply below_drew1) | exact HB.out)) hb); clear HB; have HO577 := n0_; have HB := n1_; clear n0_ n1_; (try clear hb); (try clear hb2); (try clear hk); (try clear hi); (try clear ho0); obtain ⟨Ao15, co15, eo15⟩ := Kd.R_slice HO577.out; subst eo15; have p578 : 0 ≤ (a3 : Int) := of_decide_eq_true (by first | (with_reducible assumption) | assumption); have q578 : a3 < (t574.length : Int) := of_decide_eq_true (by first | (with_reducible assumption) | assumption); obtain ⟨ad578, e578, hx578_0⟩ := Kd.at_string (Kd.R_reads' HO577.out).2.2 a3 p578 q578; cases e578; replace p578 := eq_true p578; replace q578 := eq_true q578))
      go_ret2
      exact ⟨by first | rfl | (simp [errW_none, errW_some] <;> rfl) | (simp [*, errW_none, errW_some] <;> rfl), by repeat (first | (with_reducible first | exact HB.out | apply below_alloc | apply pw_below_drewN | apply below_drew1) | exact HB.out)⟩
     ·rw [if_neg c13] at H
      exact absurd H (by simp)
    ·rw [if_neg c12] at H
     exact absurd H (by simp)
 ·rw [if_neg c6] at H
  have c6b0 : (t575 == 0) = false := beq_eq_false_iff_ne.mpr c6
  have c6b1 : (t575 != 0) = true := bne_iff_ne.mpr c6
  simp only [Option.some.injEq, Prod.mk.injEq] at H
  obtain ⟨rfl, rfl⟩ := H
  go_enter Tryd.func44, Tryd.ntmps44
  go_wp2_with (first | ((with_reducible refine gate_callee (f := 66) rfl ?_); refine goesL_ (some 16) rfl rfl Tryd.func66 (by kernel_rfl) rfl #[.int .i64 a0, .int .i64 a1, .slice A2 l2.length c2] rfl (by (try simp only [List.map_toArray, List.map_cons, List.map_nil]); first | done | rfl | (simp only [List.length_drop, List.length_take]; rfl)) ?_; (with_reducible refine (corncribref04_All.calls k a0 a1 _ _ l2 t574 t575 _ ?side1 ?side2 A5.out).mono ?_); (case side1 => repeat (first | exact HR2.out | (with_reducible refine Kd.C_alloc ?_ _) | (with_reducible refine Kd.C_drewN ?_ _) | (with_reducible refine Kd.C_drew ?_))); (case side2 => exact HC2.out); rintro e w16 ⟨v576, rfl, ho0, hb⟩; refine ⟨_, rfl, ?_⟩; have n0_ := Aside0.mk (Kd.R_lower ho0 (below_size (by repeat (first | (with_reducible first | exact HB.out | apply below_alloc | apply pw_below_drewN | apply below_drew1) | exact HB.out)))); have n1_ := Aside0.mk (below_step (by repeat (first | (with_reducible first | exact HB.out | apply below_alloc | apply pw_below_drewN | apply below_drew1) | exact HB.out)) hb); clear HB; have HO577 := n0_; have HB := n1_; clear n0_ n1_; (try clear hb); (try clear hb2); (try clear hk); (try clear hi); (try clear ho0)))
  go_ret2
  exact ⟨by first | rfl | (simp [errW_none, errW_some] <;> rfl) | (simp [*, errW_none, errW_some] <;> rfl), by repeat (first | (with_reducible first | exact HB.out | apply below_alloc | apply pw_below_drewN | apply below_drew1) | exact HB.out)⟩

end Go.Proofs.YtegmmefijihdeaaDoor.PS
namespace Go.Proofs.YtegmmefijihdeaaDoor.PS
open Go.RowKit Go.Proofs.YtegmmefijihdeaaDoorW.PrintWords Go.Proofs.YtegmmefijihdeaaDoorW.PrintLast Go.Proofs.YtegmmefijihdeaaDoorW.PrintMore
attribute [local go_sem] Mk.str_leq Mk.str_gtr Mk.str_geq max2_int min2_int max_two min_two max_three min_three max_four min_four   -- for this text's walks alone
set_option linter.unusedVariables false
set_option linter.unusedSimpArgs false

/-! ### corncribref04_Agree: function 46 -/
def corncribref04_Agree.l0 : Nat → List (S62) → List ByteArray → Int → Option (Bool × Int)
 | 0, _, _, _ => none
 | k + 1, x2, x8, x10 => if x10 < (x2.length : Int) then (if 0 ≤ x10 then (if 0 ≤ ((rd_T62 x2 x10).f0) then (if ((rd_T62 x2 x10).f0) < (x8.length : Int) then (if (rdOf ByteArray.empty x8 ((rd_T62 x2 x10).f0)).toList = ((rd_T62 x2 x10).f1).toList then (corncribref04_Agree.l0 k x2 x8 (wrap64 (x10 + 1))) else (some (false, 0))) else (none)) else (none)) else (none)) else (some (true, 0))
def corncribref04_Agree.f (k : Nat) (a0 : Int) (a1 : Int) (l2 : List (S62)) : Option (Bool × Int) := (corncribref04_All.f k a0 a1 l2).bind fun bt586 => (if bt586.2 = 0 then (corncribref04_Agree.l0 k l2 bt586.1 0) else (some (false, bt586.2)))
theorem corncribref04_Agree.mono_l : ∀ k, (∀ y0 y1 y2, LeO (corncribref04_Agree.l0 k y0 y1 y2) (corncribref04_Agree.l0 (k + 1) y0 y1 y2))
 | 0 => fun _ _ _ r h => by simp [corncribref04_Agree.l0] at h
 | k + 1 => by
  have ih0 := corncribref04_Agree.mono_l k
  ·intro y0 y1 y2
   unfold corncribref04_Agree.l0
   repeat' first
   | (with_reducible exact ih0 _ _ _)
   | (with_reducible exact corncribref04_All.mono _ _ _ _)
   | (with_reducible exact LeO.refl _)
   | (with_reducible exact LeO.none _)
   | (with_reducible refine LeO.ite ?_ ?_)
   | (with_reducible refine LeO.bind ?_ (fun _ => ?_))
   | exact ih0 _ _ _
   | exact corncribref04_All.mono _ _ _ _
   | exact LeO.none _
   | refine LeO.ite ?_ ?_
   | refine LeO.bind ?_ (fun _ => ?_)
theorem corncribref04_Agree.mono : ∀ a0 a1 a2 k, LeO (corncribref04_Agree.f k a0 a1 a2) (corncribref04_Agree.f (k + 1) a0 a1 a2) := by
 intro a0 a1 a2 k
 have ih0 := corncribref04_Agree.mono_l k
 unfold corncribref04_Agree.f
 repeat' first
   | (with_reducible exact ih0 _ _ _)
   | (with_reducible exact corncribref04_All.mono _ _ _ _)
   | (with_reducible exact LeO.refl _)
   | (with_reducible exact LeO.none _)
   | (with_reducible refine LeO.ite ?_ ?_)
   | (with_reducible refine LeO.bind ?_ (fun _ => ?_))
   | exact ih0 _ _ _
   | exact corncribref04_All.mono _ _ _ _
   | exact LeO.none _
   | refine LeO.ite ?_ ?_
   | refine LeO.bind ?_ (fun _ => ?_)
set_option maxHeartbeats 8000000 in
set_option maxRecDepth 100000 in
theorem corncribref04_Agree.calls (k : Nat) (a0 : Int) (a1 : Int) (A2 : Option Addr) (c2 : Nat) (l2 : List (S62)) (r1 : Bool) (r2 : Int) (w : World) (hr2 : Kd.C k62 w A2 l2.length l2) (hc2 : l2.length ≤ c2) (h : corncribref04_Agree.f k a0 a1 l2 = some (r1, r2)) :
  Calls Tryd.prog 46 #[.int .i64 a0, .int .i64 a1, .slice A2 l2.length c2] w fun e w' => e = .returned (.tuple #[.bool r1, .int .i64 r2]) ∧ Below w.heap.size w w' := by
 have HR2 := Aside0.mk hr2
 have HC2 := Aside0.mk hc2
 clear hr2 hc2
 have HB := Aside0.mk (Below.refl w.heap.size w)
 have H : ((corncribref04_All.f k a0 a1 l2).bind fun bt586 => (if bt586.2 = 0 then (corncribref04_Agree.l0 k l2 bt586.1 0) else (some (false, bt586.2)))) = some (r1, r2) := h
 clear h
 replace H := Option.bind_eq_some_iff.mp H
 obtain ⟨⟨t586, t587⟩, A40, H⟩ := H
 replace H : (if t587 = 0 then (corncribref04_Agree.l0 k l2 t586 0) else (some (false, t587))) = some (r1, r2) := H
 have A4 := Aside0.mk A40
 clear A40
 by_cases c5 : t587 = 0
 ·rw [if_pos c5] at H
  have c5b0 : (t587 == 0) = true := beq_iff_eq.mpr c5
  have c5b1 : (t587 != 0) = false := bne_eq_false_iff_eq.mpr c5
  clear c5
  have H' := Aside0.mk H
  clear H
  go_enter Tryd.func46, Tryd.ntmps46
  go_wp2_with (first | (go_at_call 66; (with_reducible refine (corncribref04_All.calls k a0 a1 _ _ l2 t586 t587 _ ?side1 ?side2 A4.out).mono ?_); (case side1 => repeat (first | exact HR2.out | (with_reducible refine Kd.C_alloc ?_ _) | (with_reducible refine Kd.C_drewN ?_ _) | (with_reducible refine Kd.C_drew ?_))); (case side2 => exact HC2.out); rintro e w6 ⟨v588, rfl, ho0, hb⟩; have n0_ := Aside0.mk (Kd.R_lower ho0 (below_size (by repeat (first | (with_reducible first | exact HB.out | apply below_alloc | apply pw_below_drewN | apply below_drew1) | exact HB.out)))); have n1_ := Aside0.mk (below_step (by repeat (first | (with_reducible first | exact HB.out | apply below_alloc | apply pw_below_drewN | apply below_drew1) | exact HB.out)) hb); clear HB; have HO589 := n0_; have HB := n1_; clear n0_ n1_; (try clear hb); (try clear hb2); (try clear hk); (try clear hi); (try clear ho0)))
  repeat (go_quiet (first | (go_at_call 66; (with_reducible refine (corncribref04_All.calls k a0 a1 _ _ l2 t586 t587 _ ?side1 ?side2 A4.out).mono ?_); (case side1 => repeat (first | exact HR2.out | (with_reducible refine Kd.C_alloc ?_ _) | (with_reducible refine Kd.C_drewN ?_ _) | (with_reducible refine Kd.C_drew ?_))); (case side2 => exact HC2.out); rintro e w6 ⟨v588, rfl, ho0, hb⟩; have n0_ := Aside0.mk (Kd.R_lower ho0 (below_size (by repeat (first | (with_reducible first | exact HB.out | apply below_alloc | apply pw_below_drewN | apply below_drew1) | exact HB.out)))); have n1_ := Aside0.mk (below_step (by repeat (first | (with_reducible first | exact HB.out | apply below_alloc | apply pw_below_drewN | apply below_drew1) | exact HB.out)) hb); clear HB; have HO589 := n0_; have HB := n1_; clear n0_ n1_; (try clear hb); (try clear hb2); (try clear hk); (try clear hi); (try clear ho0))); try go_wp2_with (first | (go_at_call 66; (with_reducible refine (corncribref04_All.calls k a0 a1 _ _ l2 t586 t587 _ ?side1 ?side2 A4.out).mono ?_); (case side1 => repeat (first | exact HR2.out | (with_reducible refine Kd.C_alloc ?_ _) | (with_reducible refine Kd.C_drewN ?_ _) | (with_reducible refine Kd.C_drew ?_))); (case side2 => exact HC2.out); rintro e w6 ⟨v588, rfl, ho0, hb⟩; have n0_ := Aside0.mk (Kd.R_lower ho0 (below_size (by repeat (first | (with_reducible first | exact HB.out | apply below_alloc | apply pw_below_drewN | apply below_drew1) | exact HB.out)))); have n1_ := Aside0.mk (below_step (by repeat (first | (with_reducible first | exact HB.out | apply below_alloc | apply pw_below_drewN | apply below_drew1) | exact HB.out)) hb); clear HB; have HO589 := n0_; have HB := n1_; clear n0_ n1_; (try clear hb); (try clear hb2); (try clear hk); (try clear hi); (try clear ho0))))
  go_loopg [10] k (fun kq v10 w' => ∃ (x10_1 : Int), v10 = .int .i64 x10_1 ∧ Aside0 (corncribref04_Agree.l0 kq l2 t586 x10_1 = some (r1, r2)) ∧ Aside0 (kq ≤ k) ∧ Aside0 (Kd.R Kd.string 9 w' w.heap.size (fun _ => True) v588 t586) ∧ Aside0 (Below w.heap.size w w'))
  case atStart => exact ⟨(0), (by first | rfl | (simp; done) | (simp [*]; done)), H', ⟨Nat.le_refl _⟩, ⟨by (with_reducible repeat (first | apply Kd.R_alloc | apply Kd.R_drewN | apply Kd.R_drew)); exact HO589.out⟩, ⟨by repeat (first | (with_reducible first | exact HB.out | apply below_alloc | apply pw_below_drewN | apply below_drew1) | exact HB.out)⟩⟩
  case round =>
   clear H'
   try clear c2
   try clear p2
   try clear c4
   try clear c5
   try clear c5b0
   try clear c5b1
   obtain ⟨x10_1, rfl, HA, HK1, HO_8, HB⟩ := hrel
   cases gk with
   | zero => exact absurd HA.out (by simp [corncribref04_Agree.l0])
   | succ k1 =>
    have H := HA.out
    clear HA
    simp only [corncribref04_Agree.l0] at H
    by_cases c7 : x10_1 < (l2.length : Int)
    ·rw [if_pos c7] at H
     have c7b0 : decide (x10_1 < (l2.length : Int)) = true := decide_eq_true c7
     clear c7
     by_cases c8 : 0 ≤ x10_1
     ·rw [if_pos c8] at H
      have c8b0 : decide (0 ≤ x10_1) = true := decide_eq_true c8
      clear c8
      by_cases c9 : 0 ≤ ((rd_T62 l2 x10_1).f0)
      ·rw [if_pos c9] at H
       have c9b0 : decide (0 ≤ ((rd_T62 l2 x10_1).f0)) = true := decide_eq_true c9
       clear c9
       by_cases c10 : ((rd_T62 l2 x10_1).f0) < (t586.length : Int)
       ·rw [if_pos c10] at H
        have c10b0 : decide (((rd_T62 l2 x10_1).f0) < (t586.length : Int)) = true := decide_eq_true c10
        clear c10
        by_cases c11 : (rdOf ByteArray.empty t586 ((rd_T62 l2 x10_1).f0)).toList = ((rd_T62 l2 x10_1).f1).toList
        ·rw [if_pos c11] at H
         have c11b0 : ((rdOf ByteArray.empty t586 ((rd_T62 l2 x10_1).f0)).toList == ((rd_T62 l2 x10_1).f1).toList) = true := beq_iff_eq.mpr c11
         have c11b1 : ((rdOf ByteArray.empty t586 ((rd_T62 l2 x10_1).f0)).toList != ((rd_T62 l2 x10_1).f1).toList) = false := bne_eq_false_iff_eq.mpr c11
         clear c11
         have H' := Aside0.mk H
         clear H
         have p590 : 0 ≤ (x10_1 : Int) := of_decide_eq_true (by first | (with_reducible assumption) | assumption)
         have q590 : x10_1 < (l2.length : Int) := of_decide_eq_true (by first | (with_reducible assumption) | assumption)
         obtain ⟨ad590, e590, hx590_0, hx590_1⟩ := at_T62 HR2.out x10_1 p590 q590
         cases e590
         replace hx590_0 := (HB.out.cell (World.block_lt_of_cell? w _ hx590_0)).trans hx590_0
         replace hx590_1 := (HB.out.cell (World.block_lt_of_cell? w _ hx590_1)).trans hx590_1
         replace p590 := eq_true p590
         replace q590 := eq_true q590
         obtain ⟨Ao12, co12, eo12⟩ := Kd.R_slice HO_8.out
         subst eo12
         have p591 : 0 ≤ (((rd_T62 l2 x10_1).f0) : Int) := of_decide_eq_true (by first | (with_reducible assumption) | assumption)
         have q591 : ((rd_T62 l2 x10_1).f0) < (t586.length : Int) := of_decide_eq_true (by first | (with_reducible assumption) | assumption)
         obtain ⟨ad591, e591, hx591_0⟩ := Kd.at_string (Kd.R_reads' HO_8.out).2.2 ((rd_T62 l2 x10_1).f0) p591 q591
         cases e591
         replace p591 := eq_true p591
         replace q591 := eq_true q591
         have p592 : 0 ≤ (x10_1 : Int) := of_decide_eq_true (by first | (with_reducible assumption) | assumption)
         have q592 : x10_1 < (l2.length : Int) := of_decide_eq_true (by first | (with_reducible assumption) | assumption)
         obtain ⟨ad592, e592, hx592_0, hx592_1⟩ := at_T62 HR2.out x10_1 p592 q592
         obtain rfl : ad590 = ad592 := (by injection e592)
         replace hx592_0 := (HB.out.cell (World.block_lt_of_cell? w _ hx592_0)).trans hx592_0
         replace hx592_1 := (HB.out.cell (World.block_lt_of_cell? w _ hx592_1)).trans hx592_1
         replace p592 := eq_true p592
         replace q592 := eq_true q592
         go_wp2
         repeat (go_quiet (fail); try go_wp2)
         go_roundg k1
         case measure => have := HK1.out; omega
         case rel => exact ⟨(wrap64 (x10_1 + 1)), (by first | rfl | (simp; done) | (simp [*]; done)), H', ⟨by have := HK1.out; omega⟩, ⟨by (with_reducible repeat (first | apply Kd.R_alloc | apply Kd.R_drewN | apply Kd.R_drew)); exact HO_8.out⟩, ⟨by repeat (first | (with_reducible first | exact HB.out | apply below_alloc | apply pw_below_drewN | apply below_drew1) | exact HB.out)⟩⟩
        ·rw [if_neg c11] at H
         have c11b0 : ((rdOf ByteArray.empty t586 ((rd_T62 l2 x10_1).f0)).toList == ((rd_T62 l2 x10_1).f1).toList) = false := beq_eq_false_iff_ne.mpr c11
         have c11b1 : ((rdOf ByteArray.empty t586 ((rd_T62 l2 x10_1).f0)).toList != ((rd_T62 l2 x10_1).f1).toList) = true := bne_iff_ne.mpr c11
         simp only [Option.some.injEq, Prod.mk.injEq] at H
         obtain ⟨rfl, rfl⟩ := H
         have p590 : 0 ≤ (x10_1 : Int) := of_decide_eq_true (by first | (with_reducible assumption) | assumption)
         have q590 : x10_1 < (l2.length : Int) := of_decide_eq_true (by first | (with_reducible assumption) | assumption)
         obtain ⟨ad590, e590, hx590_0, hx590_1⟩ := at_T62 HR2.out x10_1 p590 q590
         cases e590
         replace hx590_0 := (HB.out.cell (World.block_lt_of_cell? w _ hx590_0)).trans hx590_0
         replace hx590_1 := (HB.out.cell (World.block_lt_of_cell? w _ hx590_1)).trans hx590_1
         replace p590 := eq_true p590
         replace q590 := eq_true q590
         obtain ⟨Ao13, co13, eo13⟩ := Kd.R_slice HO_8.out
         subst eo13
         have p591 : 0 ≤ (((rd_T62 l2 x10_1).f0) : Int) := of_decide_eq_true (by first | (with_reducible assumption) | assumption)
         have q591 : ((rd_T62 l2 x10_1).f0) < (t586.length : Int) := of_decide_eq_true (by first | (with_reducible assumption) | assumption)
         obtain ⟨ad591, e591, hx591_0⟩ := Kd.at_string (Kd.R_reads' HO_8.out).2.2 ((rd_T62 l2 x10_1).f0) p591 q591
         cases e591
         replace p591 := eq_true p591
         replace q591 := eq_true q591
         have p592 : 0 ≤ (x10_1 : Int) := of_decide_eq_true (by first | (with_reducible assumption) | assumption)
         have q592 : x10_1 < (l2.length : Int) := of_decide_eq_true (by first | (with_reducible assumption) | assumption)
         obtain ⟨ad592, e592, hx592_0, hx592_1⟩ := at_T62 HR2.out x10_1 p592 q592
         obtain rfl : ad590 = ad592 := (by injection e592)
         replace hx592_0 := (HB.out.cell (World.block_lt_of_cell? w _ hx592_0)).trans hx592_0
         replace hx592_1 := (HB.out.cell (World.block_lt_of_cell? w _ hx592_1)).trans hx592_1
         replace p592 := eq_true p592
         replace q592 := eq_true q592
         go_wp2
         repeat (go_quiet (fail); try go_wp2)
         go_ret2
         exact ⟨by first | rfl | (simp [errW_none, errW_some] <;> rfl) | (simp [*, errW_none, errW_some] <;> rfl), by repeat (first | (with_reducible first | exact HB.out | apply below_alloc | apply pw_below_drewN | apply below_drew1) | exact HB.out)⟩
       ·rw [if_neg c10] at H
        exact absurd H (by simp)
      ·rw [if_neg c9] at H
       exact absurd H (by simp)
     ·rw [if_neg c8] at H
      exact absurd H (by simp)
    ·rw [if_neg c7] at H
     have c7b0 : decide (x10_1 < (l2.length : Int)) = false := decide_eq_false c7
     clear c7
     simp only [Option.some.injEq, Prod.mk.injEq] at H
     obtain ⟨rfl, rfl⟩ := H
     go_wp2
     repeat (go_quiet (fail); try go_wp2)
     go_ret2
     exact ⟨by first | rfl | (simp [errW_none, errW_some] <;> rfl) | (simp [*, errW_none, errW_some] <;> rfl), by repeat (first | (with_reducible first | exact HB.out | apply below_alloc | apply pw_below_drewN | apply below_drew1) | exact HB.out)⟩
 ·rw [if_neg c5] at H
  have c5b0 : (t587 == 0) = false := beq_eq_false_iff_ne.mpr c5
  have c5b1 : (t587 != 0) = true := bne_iff_ne.mpr c5
  simp only [Option.some.injEq, Prod.mk.injEq] at H
  obtain ⟨rfl, rfl⟩ := H
  go_enter Tryd.func46, Tryd.ntmps46
  go_wp2_with (first | (go_at_call 66; (with_reducible refine (corncribref04_All.calls k a0 a1 _ _ l2 t586 t587 _ ?side1 ?side2 A4.out).mono ?_); (case side1 => repeat (first | exact HR2.out | (with_reducible refine Kd.C_alloc ?_ _) | (with_reducible refine Kd.C_drewN ?_ _) | (with_reducible refine Kd.C_drew ?_))); (case side2 => exact HC2.out); rintro e w14 ⟨v588, rfl, ho0, hb⟩; have n0_ := Aside0.mk (Kd.R_lower ho0 (below_size (by repeat (first | (with_reducible first | exact HB.out | apply below_alloc | apply pw_below_drewN | apply below_drew1) | exact HB.out)))); have n1_ := Aside0.mk (below_step (by repeat (first | (with_reducible first | exact HB.out | apply below_alloc | apply pw_below_drewN | apply below_drew1) | exact HB.out)) hb); clear HB; have HO589 := n0_; have HB := n1_; clear n0_ n1_; (try clear hb); (try clear hb2); (try clear hk); (try clear hi); (try clear ho0)))
  repeat (go_quiet (first | (go_at_call 66; (with_reducible refine (corncribref04_All.calls k a0 a1 _ _ l2 t586 t587 _ ?side1 ?side2 A4.out).mono ?_); (case side1 => repeat (first | exact HR2.out | (with_reducible refine Kd.C_alloc ?_ _) | (with_reducible refine Kd.C_drewN ?_ _) | (with_reducible refine Kd.C_drew ?_))); (case side2 => exact HC2.out); rintro e w14 ⟨v588, rfl, ho0, hb⟩; have n0_ := Aside0.mk (Kd.R_lower ho0 (below_size (by repeat (first | (with_reducible first | exact HB.out | apply below_alloc | apply pw_below_drewN | apply below_drew1) | exact HB.out)))); have n1_ := Aside0.mk (below_step (by repeat (first | (with_reducible first | exact HB.out | apply below_alloc | apply pw_below_drewN | apply below_drew1) | exact HB.out)) hb); clear HB; have HO589 := n0_; have HB := n1_; clear n0_ n1_; (try clear hb); (try clear hb2); (try clear hk); (try clear hi); (try clear ho0))); try go_wp2_with (first | (go_at_call 66; (with_reducible refine (corncribref04_All.calls k a0 a1 _ _ l2 t586 t587 _ ?side1 ?side2 A4.out).mono ?_); (case side1 => repeat (first | exact HR2.out | (with_reducible refine Kd.C_alloc ?_ _) | (with_reducible refine Kd.C_drewN ?_ _) | (with_reducible refine Kd.C_drew ?_))); (case side2 => exact HC2.out); rintro e w14 ⟨v588, rfl, ho0, hb⟩; have n0_ := Aside0.mk (Kd.R_lower ho0 (below_size (by repeat (first | (with_reducible first | exact HB.out | apply below_alloc | apply pw_below_drewN | apply below_drew1) | exact HB.out)))); have n1_ := Aside0.mk (below_step (by repeat (first | (with_reducible first | exact HB.out | apply below_alloc | apply pw_below_drewN | apply below_drew1) | exact HB.out)) hb); clear HB; have HO589 := n0_; have HB := n1_; clear n0_ n1_; (try clear hb); (try clear hb2); (try clear hk); (try clear hi); (try clear ho0))))
  go_ret2
  exact ⟨by first | rfl | (simp [errW_none, errW_some] <;> rfl) | (simp [*, errW_none, errW_some] <;> rfl), by repeat (first | (with_reducible first | exact HB.out | apply below_alloc | apply pw_below_drewN | apply below_drew1) | exact HB.out)⟩

end Go.Proofs.YtegmmefijihdeaaDoor.PS
namespace Go.Proofs.YtegmmefijihdeaaDoor.PS
open Go.RowKit Go.Proofs.YtegmmefijihdeaaDoorW.PrintWords Go.Proofs.YtegmmefijihdeaaDoorW.PrintLast Go.Proofs.YtegmmefijihdeaaDoorW.PrintMore Go.Proofs.YtegmmefijihdeaaDoor.Gf Go.Proofs.YtegmmefijihdeaaDoor.Fld Go.Proofs.YtegmmefijihdeaaDoor.Grd Go.Proofs.YtegmmefijihdeaaDoor.Rowb
set_option linter.unusedVariables false
set_option linter.unusedSimpArgs false
theorem refone_of {n : Nat} {k m : Int} {l : List S62} {L : List ByteArray} (h : corncribref04_All.f n k m l = some (L, 0)) (q : Int) : corncribref04_One.f n k m l q = some (oneV L q) := by
  unfold corncribref04_One.f
  rw [h, Option.bind_some, if_pos rfl]
  exact oneV_eq L q
section
variable {K M : Nat} {l : List S62} (g : Good K M l)
include g
theorem Good.refagree_from (hl : l.length < 9223372036854775807) (d : Nat) : ∀ i, i + d = l.length → ∀ k, d + 1 ≤ k → corncribref04_Agree.l0 k l (allL K M (shardN l) (dataL K M l)) (i : Int) = some (agGo (allL K M (shardN l) (dataL K M l)) l d i, 0) := by
  have hal : (allL K M (shardN l) (dataL K M l)).length = K + M := allL_len g.dataLen
  induction d with
  | zero =>
    intro i hi k hk
    obtain ⟨m, rfl, _⟩ := pred_of (K := 0) hk
    simp only [corncribref04_Agree.l0]
    rw [if_neg (by omega)]
    rfl
  | succ d ih =>
    intro i hi k hk
    obtain ⟨m, rfl, hm⟩ := pred_of hk
    have hil : i < l.length := by omega
    have hr := g.rng i hil
    simp only [corncribref04_Agree.l0]
    unfold agGo
    rw [rdT_nat l i hil, if_pos (by omega), if_pos (by omega), if_pos hr.1, if_pos (by rw [hal]; push_cast; exact hr.2)]
    by_cases e : (rdOf ByteArray.empty (allL K M (shardN l) (dataL K M l)) l[i].f0).toList = l[i].f1.toList
    · rw [if_pos e, if_pos e, w64_in ((i : Int) + 1) (by omega) (by omega)]
      exact ih (i + 1) (by omega) m hm
    · rw [if_neg e, if_neg e]
theorem Good.refagree_f (n : Nat) (h : corncribref04_All.f n (K : Int) (M : Int) l = some (allL K M (shardN l) (dataL K M l), 0)) (hn : l.length + 1 ≤ n) (hl : l.length < 9223372036854775807) : corncribref04_Agree.f n (K : Int) (M : Int) l = some (agreeB (allL K M (shardN l) (dataL K M l)) l, 0) := by
  unfold corncribref04_Agree.f
  rw [h, Option.bind_some, if_pos rfl]
  exact g.refagree_from hl l.length 0 (by omega) n (by omega)
end
end Go.Proofs.YtegmmefijihdeaaDoor.PS
