-- WRITTEN BY A PROGRAM (mk.py of this session, over the kit's print.py, some functions given by hand). Lean checks it.
import Derived.Test.YtegmmefijihdeaaDoorPS0
import Derived.Test.YtegmmefijihdeaaDoorPSf15
import Derived.Test.YtegmmefijihdeaaDoorPSf26
import Derived.Test.YtegmmefijihdeaaDoorPSf20
import Derived.Test.YtegmmefijihdeaaDoorPSf30
import Derived.Test.YtegmmefijihdeaaDoorHJoin
import Derived.Test.YtegmmefijihdeaaDoorHSplit
namespace Go.Proofs.YtegmmefijihdeaaDoor.PS
open Go.RowKit Go.Proofs.YtegmmefijihdeaaDoorW.PrintWords Go.Proofs.YtegmmefijihdeaaDoorW.PrintLast Go.Proofs.YtegmmefijihdeaaDoorW.PrintMore
attribute [local go_sem] Mk.str_leq Mk.str_gtr Mk.str_geq max2_int min2_int max_two min_two max_three min_three max_four min_four   -- for this text's walks alone
set_option linter.unusedVariables false
set_option linter.unusedSimpArgs false

/-! ### corncriblaw03_StripeBack: function 7 -/
mutual
def corncriblaw03_StripeBack.j0 : Nat → Int → List ByteArray → Int → List ByteArray → Bool → Option (Bool)
 | 0, _, _, _, _, _ => none
 | k + 1, x0, x5, x7, x11, x77 => if x77 = true then (some false) else (corncriblaw03_StripeBack.l0 k x0 x5 x7 x11 (x11.length : Int) 0)
def corncriblaw03_StripeBack.l0 : Nat → Int → List ByteArray → Int → List ByteArray → Int → Int → Option (Bool)
 | 0, _, _, _, _, _, _ => none
 | k + 1, x0, x5, x7, x11, x79, x80 => if x80 < x79 then (if 0 ≤ x80 then (if x80 < (x11.length : Int) then (if ((rdOf ByteArray.empty x11 x80).size : Int) = x7 then (if x80 < x0 then (if x80 < (x5.length : Int) then (if (rdOf ByteArray.empty x11 x80).toList = (rdOf ByteArray.empty x5 x80).toList then (corncriblaw03_StripeBack.l0 k x0 x5 x7 x11 x79 (wrap64 (x80 + 1))) else (some false)) else (none)) else (corncriblaw03_StripeBack.l0 k x0 x5 x7 x11 x79 (wrap64 (x80 + 1)))) else (some false)) else (none)) else (none)) else (some true)
end
def corncriblaw03_StripeBack.f (k : Nat) (a0 : Int) (a1 : ByteArray) : Option (Bool) := (corncriblaw03_works.f k).bind fun t273 => (if t273 = true then ((corncribbook_Among.f a0 12).bind fun t274 => (if (a1.size : Int) > 2048 then (some true) else ((stripe_Split.f (wrap64 (1 + t274)) a1).bind fun bt275 => ((stripe_Size.f (wrap64 (1 + t274)) (a1.size : Int)).bind fun bt279 => ((stripe_Join.f bt275.1).bind fun bt281 => ((stripe_Encode.f (wrap64 (1 + t274)) 2 a1).bind fun bt283 => (if bt275.2 = 0 then (if bt279.2 = 0 then (if bt281.2 = 0 then (if bt283.2 = 0 then (if bt281.1.toList = a1.toList then (if (bt275.1.length : Int) = (wrap64 (1 + t274)) then (corncriblaw03_StripeBack.j0 k (wrap64 (1 + t274)) bt275.1 bt279.1 bt283.1 ((bt283.1.length : Int) != (wrap64 ((wrap64 (1 + t274)) + 2)))) else (corncriblaw03_StripeBack.j0 k (wrap64 (1 + t274)) bt275.1 bt279.1 bt283.1 true)) else (corncriblaw03_StripeBack.j0 k (wrap64 (1 + t274)) bt275.1 bt279.1 bt283.1 true)) else (corncriblaw03_StripeBack.j0 k (wrap64 (1 + t274)) bt275.1 bt279.1 bt283.1 true)) else (corncriblaw03_StripeBack.j0 k (wrap64 (1 + t274)) bt275.1 bt279.1 bt283.1 true)) else (corncriblaw03_StripeBack.j0 k (wrap64 (1 + t274)) bt275.1 bt279.1 bt283.1 true)) else (corncriblaw03_StripeBack.j0 k (wrap64 (1 + t274)) bt275.1 bt279.1 bt283.1 true)))))))) else (some false))
theorem corncriblaw03_StripeBack.mono_l : ∀ k, (∀ y0 y1 y2 y3 y4, LeO (corncriblaw03_StripeBack.j0 k y0 y1 y2 y3 y4) (corncriblaw03_StripeBack.j0 (k + 1) y0 y1 y2 y3 y4)) ∧ (∀ y0 y1 y2 y3 y4 y5, LeO (corncriblaw03_StripeBack.l0 k y0 y1 y2 y3 y4 y5) (corncriblaw03_StripeBack.l0 (k + 1) y0 y1 y2 y3 y4 y5))
 | 0 => ⟨fun _ _ _ _ _ r h => by simp [corncriblaw03_StripeBack.j0] at h, fun _ _ _ _ _ _ r h => by simp [corncriblaw03_StripeBack.l0] at h⟩
 | k + 1 => by
  obtain ⟨ih0, ih1⟩ := corncriblaw03_StripeBack.mono_l k
  refine ⟨?_, ?_⟩
  ·intro y0 y1 y2 y3 y4
   unfold corncriblaw03_StripeBack.j0
   repeat' first
   | (with_reducible exact ih0 _ _ _ _ _)
   | (with_reducible exact ih1 _ _ _ _ _ _)
   | (with_reducible exact corncriblaw03_works.mono _)
   | (with_reducible exact LeO.refl _)
   | (with_reducible exact LeO.none _)
   | (with_reducible refine LeO.ite ?_ ?_)
   | (with_reducible refine LeO.bind ?_ (fun _ => ?_))
   | exact ih0 _ _ _ _ _
   | exact ih1 _ _ _ _ _ _
   | exact corncriblaw03_works.mono _
   | exact LeO.none _
   | refine LeO.ite ?_ ?_
   | refine LeO.bind ?_ (fun _ => ?_)
  ·intro y0 y1 y2 y3 y4 y5
   unfold corncriblaw03_StripeBack.l0
   repeat' first
   | (with_reducible exact ih0 _ _ _ _ _)
   | (with_reducible exact ih1 _ _ _ _ _ _)
   | (with_reducible exact corncriblaw03_works.mono _)
   | (with_reducible exact LeO.refl _)
   | (with_reducible exact LeO.none _)
   | (with_reducible refine LeO.ite ?_ ?_)
   | (with_reducible refine LeO.bind ?_ (fun _ => ?_))
   | exact ih0 _ _ _ _ _
   | exact ih1 _ _ _ _ _ _
   | exact corncriblaw03_works.mono _
   | exact LeO.none _
   | refine LeO.ite ?_ ?_
   | refine LeO.bind ?_ (fun _ => ?_)
theorem corncriblaw03_StripeBack.mono : ∀ a0 a1 k, LeO (corncriblaw03_StripeBack.f k a0 a1) (corncriblaw03_StripeBack.f (k + 1) a0 a1) := by
 intro a0 a1 k
 obtain ⟨ih0, ih1⟩ := corncriblaw03_StripeBack.mono_l k
 unfold corncriblaw03_StripeBack.f
 repeat' first
   | (with_reducible exact ih0 _ _ _ _ _)
   | (with_reducible exact ih1 _ _ _ _ _ _)
   | (with_reducible exact corncriblaw03_works.mono _)
   | (with_reducible exact LeO.refl _)
   | (with_reducible exact LeO.none _)
   | (with_reducible refine LeO.ite ?_ ?_)
   | (with_reducible refine LeO.bind ?_ (fun _ => ?_))
   | exact ih0 _ _ _ _ _
   | exact ih1 _ _ _ _ _ _
   | exact corncriblaw03_works.mono _
   | exact LeO.none _
   | refine LeO.ite ?_ ?_
   | refine LeO.bind ?_ (fun _ => ?_)
set_option maxHeartbeats 8000000 in
set_option maxRecDepth 100000 in
theorem corncriblaw03_StripeBack.calls (k : Nat) (a0 : Int) (a1 : ByteArray) (r : Bool) (w : World) (h : corncriblaw03_StripeBack.f k a0 a1 = some r) :
  Calls Tryd.prog 7 #[.int .i64 a0, .string a1] w fun e w' => e = .returned (.bool r) ∧ Below w.heap.size w w' := by
 have HB := Aside0.mk (Below.refl w.heap.size w)
 have H : ((corncriblaw03_works.f k).bind fun t273 => (if t273 = true then ((corncribbook_Among.f a0 12).bind fun t274 => (if (a1.size : Int) > 2048 then (some true) else ((stripe_Split.f (wrap64 (1 + t274)) a1).bind fun bt275 => ((stripe_Size.f (wrap64 (1 + t274)) (a1.size : Int)).bind fun bt279 => ((stripe_Join.f bt275.1).bind fun bt281 => ((stripe_Encode.f (wrap64 (1 + t274)) 2 a1).bind fun bt283 => (if bt275.2 = 0 then (if bt279.2 = 0 then (if bt281.2 = 0 then (if bt283.2 = 0 then (if bt281.1.toList = a1.toList then (if (bt275.1.length : Int) = (wrap64 (1 + t274)) then (corncriblaw03_StripeBack.j0 k (wrap64 (1 + t274)) bt275.1 bt279.1 bt283.1 ((bt283.1.length : Int) != (wrap64 ((wrap64 (1 + t274)) + 2)))) else (corncriblaw03_StripeBack.j0 k (wrap64 (1 + t274)) bt275.1 bt279.1 bt283.1 true)) else (corncriblaw03_StripeBack.j0 k (wrap64 (1 + t274)) bt275.1 bt279.1 bt283.1 true)) else (corncriblaw03_StripeBack.j0 k (wrap64 (1 + t274)) bt275.1 bt279.1 bt283.1 true)) else (corncriblaw03_StripeBack.j0 k (wrap64 (1 + t274)) bt275.1 bt279.1 bt283.1 true)) else (corncriblaw03_StripeBack.j0 k (wrap64 (1 + t274)) bt275.1 bt279.1 bt283.1 true)) else (corncriblaw03_StripeBack.j0 k (wrap64 (1 + t274)) bt275.1 bt279.1 bt283.1 true)))))))) else (some false))) = some r := h
 clear h
 replace H := Option.bind_eq_some_iff.mp H
 obtain ⟨t273, A30, H⟩ := H
 replace H : (if t273 = true then ((corncribbook_Among.f a0 12).bind fun t274 => (if (a1.size : Int) > 2048 then (some true) else ((stripe_Split.f (wrap64 (1 + t274)) a1).bind fun bt275 => ((stripe_Size.f (wrap64 (1 + t274)) (a1.size : Int)).bind fun bt279 => ((stripe_Join.f bt275.1).bind fun bt281 => ((stripe_Encode.f (wrap64 (1 + t274)) 2 a1).bind fun bt283 => (if bt275.2 = 0 then (if bt279.2 = 0 then (if bt281.2 = 0 then (if bt283.2 = 0 then (if bt281.1.toList = a1.toList then (if (bt275.1.length : Int) = (wrap64 (1 + t274)) then (corncriblaw03_StripeBack.j0 k (wrap64 (1 + t274)) bt275.1 bt279.1 bt283.1 ((bt283.1.length : Int) != (wrap64 ((wrap64 (1 + t274)) + 2)))) else (corncriblaw03_StripeBack.j0 k (wrap64 (1 + t274)) bt275.1 bt279.1 bt283.1 true)) else (corncriblaw03_StripeBack.j0 k (wrap64 (1 + t274)) bt275.1 bt279.1 bt283.1 true)) else (corncriblaw03_StripeBack.j0 k (wrap64 (1 + t274)) bt275.1 bt279.1 bt283.1 true)) else (corncriblaw03_StripeBack.j0 k (wrap64 (1 + t274)) bt275.1 bt279.1 bt283.1 true)) else (corncriblaw03_StripeBack.j0 k (wrap64 (1 + t274)) bt275.1 bt279.1 bt283.1 true)) else (corncriblaw03_StripeBack.j0 k (wrap64 (1 + t274)) bt275.1 bt279.1 bt283.1 true)))))))) else (some false)) = some r := H
 have A3 := Aside0.mk A30
 clear A30
 by_cases c4 : t273 = true
 ·subst c4
  have H1 : ((corncribbook_Among.f a0 12).bind fun t274 => (if (a1.size : Int) > 2048 then (some true) else ((stripe_Split.f (wrap64 (1 + t274)) a1).bind fun bt275 => ((stripe_Size.f (wrap64 (1 + t274)) (a1.size : Int)).bind fun bt279 => ((stripe_Join.f bt275.1).bind fun bt281 => ((stripe_Encode.f (wrap64 (1 + t274)) 2 a1).bind fun bt283 => (if bt275.2 = 0 then (if bt279.2 = 0 then (if bt281.2 = 0 then (if bt283.2 = 0 then (if bt281.1.toList = a1.toList then (if (bt275.1.length : Int) = (wrap64 (1 + t274)) then (corncriblaw03_StripeBack.j0 k (wrap64 (1 + t274)) bt275.1 bt279.1 bt283.1 ((bt283.1.length : Int) != (wrap64 ((wrap64 (1 + t274)) + 2)))) else (corncriblaw03_StripeBack.j0 k (wrap64 (1 + t274)) bt275.1 bt279.1 bt283.1 true)) else (corncriblaw03_StripeBack.j0 k (wrap64 (1 + t274)) bt275.1 bt279.1 bt283.1 true)) else (corncriblaw03_StripeBack.j0 k (wrap64 (1 + t274)) bt275.1 bt279.1 bt283.1 true)) else (corncriblaw03_StripeBack.j0 k (wrap64 (1 + t274)) bt275.1 bt279.1 bt283.1 true)) else (corncriblaw03_StripeBack.j0 k (wrap64 (1 + t274)) bt275.1 bt279.1 bt283.1 true)) else (corncriblaw03_StripeBack.j0 k (wrap64 (1 + t274)) bt275.1 bt279.1 bt283.1 true)))))))) = some r := by rw [if_pos rfl] at H; exact H
  clear H
  have H := H1
  clear H1
  replace H := Option.bind_eq_some_iff.mp H
  obtain ⟨t274, A50, H⟩ := H
  replace H : (if (a1.size : Int) > 2048 then (some true) else ((stripe_Split.f (wrap64 (1 + t274)) a1).bind fun bt275 => ((stripe_Size.f (wrap64 (1 + t274)) (a1.size : Int)).bind fun bt279 => ((stripe_Join.f bt275.1).bind fun bt281 => ((stripe_Encode.f (wrap64 (1 + t274)) 2 a1).bind fun bt283 => (if bt275.2 = 0 then (if bt279.2 = 0 then (if bt281.2 = 0 then (if bt283.2 = 0 then (if bt281.1.toList = a1.toList then (if (bt275.1.length : Int) = (wrap64 (1 + t274)) then (corncriblaw03_StripeBack.j0 k (wrap64 (1 + t274)) bt275.1 bt279.1 bt283.1 ((bt283.1.length : Int) != (wrap64 ((wrap64 (1 + t274)) + 2)))) else (corncriblaw03_StripeBack.j0 k (wrap64 (1 + t274)) bt275.1 bt279.1 bt283.1 true)) else (corncriblaw03_StripeBack.j0 k (wrap64 (1 + t274)) bt275.1 bt279.1 bt283.1 true)) else (corncriblaw03_StripeBack.j0 k (wrap64 (1 + t274)) bt275.1 bt279.1 bt283.1 true)) else (corncriblaw03_StripeBack.j0 k (wrap64 (1 + t274)) bt275.1 bt279.1 bt283.1 true)) else (corncriblaw03_StripeBack.j0 k (wrap64 (1 + t274)) bt275.1 bt279.1 bt283.1 true)) else (corncriblaw03_StripeBack.j0 k (wrap64 (1 + t274)) bt275.1 bt279.1 bt283.1 true))))))) = some r := H
  have A5 := Aside0.mk A50
  clear A50
  by_cases c6 : (a1.size : Int) > 2048
  ·rw [if_pos c6] at H
   have c6b0 : decide (2048 < (a1.size : Int)) = true := decide_eq_true c6
   have c6b1 : decide (2048 < a1.size) = true := decide_eq_true (by omega)
   clear c6
   obtain rfl := Option.some.inj H
   go_enter Tryd.func7, Tryd.ntmps7
   go_wp2_with (first | (go_at_call 20; (with_reducible refine (corncriblaw03_works.calls k  true _ A3.out).mono ?_); rintro e w7 ⟨rfl, hb⟩; have n0_ := Aside0.mk (below_step (by repeat (first | (with_reducible first | exact HB.out | apply below_alloc | apply pw_below_drewN | apply below_drew1) | exact HB.out)) hb); clear HB; have HB := n0_; clear n0_; (try clear hb); (try clear hb2); (try clear hk); (try clear hi)) | (go_at_call 30; (with_reducible refine (corncribbook_Among.calls a0 12 t274 _ A5.out).mono ?_); rintro e w' ⟨rfl, ⟨nd, rfl⟩⟩; (try first | exact ⟨rfl, _, World.drewN_drewN _ _ _⟩ | exact ⟨rfl, _, Eq.trans (World.drewN_drewN _ _ _) (congrArg (World.drewN _) (Nat.add_assoc _ _ _))⟩)))
   repeat (go_quiet (first | (go_at_call 20; (with_reducible refine (corncriblaw03_works.calls k  true _ A3.out).mono ?_); rintro e w7 ⟨rfl, hb⟩; have n0_ := Aside0.mk (below_step (by repeat (first | (with_reducible first | exact HB.out | apply below_alloc | apply pw_below_drewN | apply below_drew1) | exact HB.out)) hb); clear HB; have HB := n0_; clear n0_; (try clear hb); (try clear hb2); (try clear hk); (try clear hi)) | (go_at_call 30; (with_reducible refine (corncribbook_Among.calls a0 12 t274 _ A5.out).mono ?_); rintro e w' ⟨rfl, ⟨nd, rfl⟩⟩; (try first | exact ⟨rfl, _, World.drewN_drewN _ _ _⟩ | exact ⟨rfl, _, Eq.trans (World.drewN_drewN _ _ _) (congrArg (World.drewN _) (Nat.add_assoc _ _ _))⟩))); try go_wp2_with (first | (go_at_call 20; (with_reducible refine (corncriblaw03_works.calls k  true _ A3.out).mono ?_); rintro e w7 ⟨rfl, hb⟩; have n0_ := Aside0.mk (below_step (by repeat (first | (with_reducible first | exact HB.out | apply below_alloc | apply pw_below_drewN | apply below_drew1) | exact HB.out)) hb); clear HB; have HB := n0_; clear n0_; (try clear hb); (try clear hb2); (try clear hk); (try clear hi)) | (go_at_call 30; (with_reducible refine (corncribbook_Among.calls a0 12 t274 _ A5.out).mono ?_); rintro e w' ⟨rfl, ⟨nd, rfl⟩⟩; (try first | exact ⟨rfl, _, World.drewN_drewN _ _ _⟩ | exact ⟨rfl, _, Eq.trans (World.drewN_drewN _ _ _) (congrArg (World.drewN _) (Nat.add_assoc _ _ _))⟩))))
   go_ret
   exact ⟨by first | rfl | (simp [errW_none, errW_some] <;> rfl) | (simp [*, errW_none, errW_some] <;> rfl), by repeat (first | (with_reducible first | exact HB.out | apply below_alloc | apply pw_below_drewN | apply below_drew1) | exact HB.out)⟩
  ·rw [if_neg c6] at H
   have c6b0 : decide (2048 < (a1.size : Int)) = false := decide_eq_false c6
   have c6b1 : decide (2048 < a1.size) = false := decide_eq_false (by omega)
   clear c6
   replace H := Option.bind_eq_some_iff.mp H
   obtain ⟨⟨t275, t276⟩, A80, H⟩ := H
   replace H : ((stripe_Size.f (wrap64 (1 + t274)) (a1.size : Int)).bind fun bt279 => ((stripe_Join.f t275).bind fun bt281 => ((stripe_Encode.f (wrap64 (1 + t274)) 2 a1).bind fun bt283 => (if t276 = 0 then (if bt279.2 = 0 then (if bt281.2 = 0 then (if bt283.2 = 0 then (if bt281.1.toList = a1.toList then (if (t275.length : Int) = (wrap64 (1 + t274)) then (corncriblaw03_StripeBack.j0 k (wrap64 (1 + t274)) t275 bt279.1 bt283.1 ((bt283.1.length : Int) != (wrap64 ((wrap64 (1 + t274)) + 2)))) else (corncriblaw03_StripeBack.j0 k (wrap64 (1 + t274)) t275 bt279.1 bt283.1 true)) else (corncriblaw03_StripeBack.j0 k (wrap64 (1 + t274)) t275 bt279.1 bt283.1 true)) else (corncriblaw03_StripeBack.j0 k (wrap64 (1 + t274)) t275 bt279.1 bt283.1 true)) else (corncriblaw03_StripeBack.j0 k (wrap64 (1 + t274)) t275 bt279.1 bt283.1 true)) else (corncriblaw03_StripeBack.j0 k (wrap64 (1 + t274)) t275 bt279.1 bt283.1 true)) else (corncriblaw03_StripeBack.j0 k (wrap64 (1 + t274)) t275 bt279.1 bt283.1 true))))) = some r := H
   have A8 := Aside0.mk A80
   clear A80
   replace H := Option.bind_eq_some_iff.mp H
   obtain ⟨⟨t279, t280⟩, A90, H⟩ := H
   replace H : ((stripe_Join.f t275).bind fun bt281 => ((stripe_Encode.f (wrap64 (1 + t274)) 2 a1).bind fun bt283 => (if t276 = 0 then (if t280 = 0 then (if bt281.2 = 0 then (if bt283.2 = 0 then (if bt281.1.toList = a1.toList then (if (t275.length : Int) = (wrap64 (1 + t274)) then (corncriblaw03_StripeBack.j0 k (wrap64 (1 + t274)) t275 t279 bt283.1 ((bt283.1.length : Int) != (wrap64 ((wrap64 (1 + t274)) + 2)))) else (corncriblaw03_StripeBack.j0 k (wrap64 (1 + t274)) t275 t279 bt283.1 true)) else (corncriblaw03_StripeBack.j0 k (wrap64 (1 + t274)) t275 t279 bt283.1 true)) else (corncriblaw03_StripeBack.j0 k (wrap64 (1 + t274)) t275 t279 bt283.1 true)) else (corncriblaw03_StripeBack.j0 k (wrap64 (1 + t274)) t275 t279 bt283.1 true)) else (corncriblaw03_StripeBack.j0 k (wrap64 (1 + t274)) t275 t279 bt283.1 true)) else (corncriblaw03_StripeBack.j0 k (wrap64 (1 + t274)) t275 t279 bt283.1 true)))) = some r := H
   have A9 := Aside0.mk A90
   clear A90
   replace H := Option.bind_eq_some_iff.mp H
   obtain ⟨⟨t281, t282⟩, A100, H⟩ := H
   replace H : ((stripe_Encode.f (wrap64 (1 + t274)) 2 a1).bind fun bt283 => (if t276 = 0 then (if t280 = 0 then (if t282 = 0 then (if bt283.2 = 0 then (if t281.toList = a1.toList then (if (t275.length : Int) = (wrap64 (1 + t274)) then (corncriblaw03_StripeBack.j0 k (wrap64 (1 + t274)) t275 t279 bt283.1 ((bt283.1.length : Int) != (wrap64 ((wrap64 (1 + t274)) + 2)))) else (corncriblaw03_StripeBack.j0 k (wrap64 (1 + t274)) t275 t279 bt283.1 true)) else (corncriblaw03_StripeBack.j0 k (wrap64 (1 + t274)) t275 t279 bt283.1 true)) else (corncriblaw03_StripeBack.j0 k (wrap64 (1 + t274)) t275 t279 bt283.1 true)) else (corncriblaw03_StripeBack.j0 k (wrap64 (1 + t274)) t275 t279 bt283.1 true)) else (corncriblaw03_StripeBack.j0 k (wrap64 (1 + t274)) t275 t279 bt283.1 true)) else (corncriblaw03_StripeBack.j0 k (wrap64 (1 + t274)) t275 t279 bt283.1 true))) = some r := H
   have A10 := Aside0.mk A100
   clear A100
   replace H := Option.bind_eq_some_iff.mp H
   obtain ⟨⟨t283, t284⟩, A110, H⟩ := H
   replace H : (if t276 = 0 then (if t280 = 0 then (if t282 = 0 then (if t284 = 0 then (if t281.toList = a1.toList then (if (t275.length : Int) = (wrap64 (1 + t274)) then (corncriblaw03_StripeBack.j0 k (wrap64 (1 + t274)) t275 t279 t283 ((t283.length : Int) != (wrap64 ((wrap64 (1 + t274)) + 2)))) else (corncriblaw03_StripeBack.j0 k (wrap64 (1 + t274)) t275 t279 t283 true)) else (corncriblaw03_StripeBack.j0 k (wrap64 (1 + t274)) t275 t279 t283 true)) else (corncriblaw03_StripeBack.j0 k (wrap64 (1 + t274)) t275 t279 t283 true)) else (corncriblaw03_StripeBack.j0 k (wrap64 (1 + t274)) t275 t279 t283 true)) else (corncriblaw03_StripeBack.j0 k (wrap64 (1 + t274)) t275 t279 t283 true)) else (corncriblaw03_StripeBack.j0 k (wrap64 (1 + t274)) t275 t279 t283 true)) = some r := H
   have A11 := Aside0.mk A110
   clear A110
   have HC12 := Aside0.mk H
   clear H
   go_enter Tryd.func7, Tryd.ntmps7
   go_upto_region 10 with (first | (go_at_call 20; (with_reducible refine (corncriblaw03_works.calls k  true _ A3.out).mono ?_); rintro e w13 ⟨rfl, hb⟩; have n0_ := Aside0.mk (below_step (by repeat (first | (with_reducible first | exact HB.out | apply below_alloc | apply pw_below_drewN | apply below_drew1) | exact HB.out)) hb); clear HB; have HB := n0_; clear n0_; (try clear hb); (try clear hb2); (try clear hk); (try clear hi)) | (go_at_call 30; (with_reducible refine (corncribbook_Among.calls a0 12 t274 _ A5.out).mono ?_); rintro e w' ⟨rfl, ⟨nd, rfl⟩⟩; (try first | exact ⟨rfl, _, World.drewN_drewN _ _ _⟩ | exact ⟨rfl, _, Eq.trans (World.drewN_drewN _ _ _) (congrArg (World.drewN _) (Nat.add_assoc _ _ _))⟩)) | (go_at_call 17; (with_reducible refine (stripe_Split.calls (wrap64 (1 + t274)) a1 t275 t276 _ A8.out).mono ?_); rintro e w14 ⟨v277, rfl, ho0, hb⟩; have n0_ := Aside0.mk (Kd.R_lower ho0 (below_size (by repeat (first | (with_reducible first | exact HB.out | apply below_alloc | apply pw_below_drewN | apply below_drew1) | exact HB.out)))); have n1_ := Aside0.mk (below_step (by repeat (first | (with_reducible first | exact HB.out | apply below_alloc | apply pw_below_drewN | apply below_drew1) | exact HB.out)) hb); clear HB; have HO278 := n0_; have HB := n1_; clear n0_ n1_; (try clear hb); (try clear hb2); (try clear hk); (try clear hi); (try clear ho0)) | (go_at_call 15; (with_reducible refine (stripe_Size.calls (wrap64 (1 + t274)) (a1.size : Int) t279 t280 _ A9.out).mono ?_); rintro e w' ⟨rfl, ⟨nd, rfl⟩⟩; (try first | exact ⟨rfl, _, World.drewN_drewN _ _ _⟩ | exact ⟨rfl, _, Eq.trans (World.drewN_drewN _ _ _) (congrArg (World.drewN _) (Nat.add_assoc _ _ _))⟩); obtain ⟨Ao15, co15, eo15⟩ := Kd.R_slice HO278.out; subst eo15) | (go_at_call 22; (with_reducible refine (stripe_Join.calls _ _ t275 t281 t282 _ ?side1 ?side2 A10.out).mono ?_); (case side1 => repeat (first | exact (Kd.R_reads' HO278.out).2.2 | (with_reducible refine Kd.C_alloc ?_ _) | (with_reducible refine Kd.C_drewN ?_ _) | (with_reducible refine Kd.C_drew ?_))); (case side2 => exact (Kd.R_reads' HO278.out).2.1); rintro e w16 ⟨rfl, hb⟩; have n0_ := Aside0.mk (Kd.R_below (by (with_reducible repeat (first | apply Kd.R_alloc | apply Kd.R_drewN | apply Kd.R_drew)); exact HO278.out) hb); have n1_ := Aside0.mk (below_step (by repeat (first | (with_reducible first | exact HB.out | apply below_alloc | apply pw_below_drewN | apply below_drew1) | exact HB.out)) hb); clear HO278; clear HB; have HO278 := n0_; have HB := n1_; clear n0_ n1_; (try clear hb); (try clear hb2); (try clear hk); (try clear hi)) | (go_at_call 26; (with_reducible refine (stripe_Encode.calls (wrap64 (1 + t274)) 2 a1 t283 t284 _ A11.out).mono ?_); rintro e w17 ⟨v285, rfl, ho0, hb⟩; have n0_ := Aside0.mk (Kd.R_elder' (by (with_reducible repeat (first | apply Kd.R_alloc | apply Kd.R_drewN | apply Kd.R_drew)); exact HO278.out) (Kd.R_base ho0) hb); have n1_ := Aside0.mk (Kd.R_lower (Kd.R_new' ho0 (Kd.R_lt (by (with_reducible repeat (first | apply Kd.R_alloc | apply Kd.R_drewN | apply Kd.R_drew)); exact HO278.out))) (below_size (by repeat (first | (with_reducible first | exact HB.out | apply below_alloc | apply pw_below_drewN | apply below_drew1) | exact HB.out)))); have n2_ := Aside0.mk (below_step (by repeat (first | (with_reducible first | exact HB.out | apply below_alloc | apply pw_below_drewN | apply below_drew1) | exact HB.out)) hb); clear HO278; clear HB; have HO278 := n0_; have HO286 := n1_; have HB := n2_; clear n0_ n1_ n2_; (try clear hb); (try clear hb2); (try clear hk); (try clear hi); (try clear ho0)))
   repeat (go_quiet (first | (go_at_call 20; (with_reducible refine (corncriblaw03_works.calls k  true _ A3.out).mono ?_); rintro e w13 ⟨rfl, hb⟩; have n0_ := Aside0.mk (below_step (by repeat (first | (with_reducible first | exact HB.out | apply below_alloc | apply pw_below_drewN | apply below_drew1) | exact HB.out)) hb); clear HB; have HB := n0_; clear n0_; (try clear hb); (try clear hb2); (try clear hk); (try clear hi)) | (go_at_call 30; (with_reducible refine (corncribbook_Among.calls a0 12 t274 _ A5.out).mono ?_); rintro e w' ⟨rfl, ⟨nd, rfl⟩⟩; (try first | exact ⟨rfl, _, World.drewN_drewN _ _ _⟩ | exact ⟨rfl, _, Eq.trans (World.drewN_drewN _ _ _) (congrArg (World.drewN _) (Nat.add_assoc _ _ _))⟩)) | (go_at_call 17; (with_reducible refine (stripe_Split.calls (wrap64 (1 + t274)) a1 t275 t276 _ A8.out).mono ?_); rintro e w14 ⟨v277, rfl, ho0, hb⟩; have n0_ := Aside0.mk (Kd.R_lower ho0 (below_size (by repeat (first | (with_reducible first | exact HB.out | apply below_alloc | apply pw_below_drewN | apply below_drew1) | exact HB.out)))); have n1_ := Aside0.mk (below_step (by repeat (first | (with_reducible first | exact HB.out | apply below_alloc | apply pw_below_drewN | apply below_drew1) | exact HB.out)) hb); clear HB; have HO278 := n0_; have HB := n1_; clear n0_ n1_; (try clear hb); (try clear hb2); (try clear hk); (try clear hi); (try clear ho0)) | (go_at_call 15; (with_reducible refine (stripe_Size.calls (wrap64 (1 + t274)) (a1.size : Int) t279 t280 _ A9.out).mono ?_); rintro e w' ⟨rfl, ⟨nd, rfl⟩⟩; (try first | exact ⟨rfl, _, World.drewN_drewN _ _ _⟩ | exact ⟨rfl, _, Eq.trans (World.drewN_drewN _ _ _) (congrArg (World.drewN _) (Nat.add_assoc _ _ _))⟩); obtain ⟨Ao15, co15, eo15⟩ := Kd.R_slice HO278.out; subst eo15) | (go_at_call 22; (with_reducible refine (stripe_Join.calls _ _ t275 t281 t282 _ ?side1 ?side2 A10.out).mono ?_); (case side1 => repeat (first | exact (Kd.R_reads' HO278.out).2.2 | (with_reducible refine Kd.C_alloc ?_ _) | (with_reducible refine Kd.C_drewN ?_ _) | (with_reducible refine Kd.C_drew ?_))); (case side2 => exact (Kd.R_reads' HO278.out).2.1); rintro e w16 ⟨rfl, hb⟩; have n0_ := Aside0.mk (Kd.R_below (by (with_reducible repeat (first | apply Kd.R_alloc | apply Kd.R_drewN | apply Kd.R_drew)); exact HO278.out) hb); have n1_ := Aside0.mk (below_step (by repeat (first | (with_reducible first | exact HB.out | apply below_alloc | apply pw_below_drewN | apply below_drew1) | exact HB.out)) hb); clear HO278; clear HB; have HO278 := n0_; have HB := n1_; clear n0_ n1_; (try clear hb); (try clear hb2); (try clear hk); (try clear hi)) | (go_at_call 26; (with_reducible refine (stripe_Encode.calls (wrap64 (1 + t274)) 2 a1 t283 t284 _ A11.out).mono ?_); rintro e w17 ⟨v285, rfl, ho0, hb⟩; have n0_ := Aside0.mk (Kd.R_elder' (by (with_reducible repeat (first | apply Kd.R_alloc | apply Kd.R_drewN | apply Kd.R_drew)); exact HO278.out) (Kd.R_base ho0) hb); have n1_ := Aside0.mk (Kd.R_lower (Kd.R_new' ho0 (Kd.R_lt (by (with_reducible repeat (first | apply Kd.R_alloc | apply Kd.R_drewN | apply Kd.R_drew)); exact HO278.out))) (below_size (by repeat (first | (with_reducible first | exact HB.out | apply below_alloc | apply pw_below_drewN | apply below_drew1) | exact HB.out)))); have n2_ := Aside0.mk (below_step (by repeat (first | (with_reducible first | exact HB.out | apply below_alloc | apply pw_below_drewN | apply below_drew1) | exact HB.out)) hb); clear HO278; clear HB; have HO278 := n0_; have HO286 := n1_; have HB := n2_; clear n0_ n1_ n2_; (try clear hb); (try clear hb2); (try clear hk); (try clear hi); (try clear ho0))); go_upto_region 10 with (first | (go_at_call 20; (with_reducible refine (corncriblaw03_works.calls k  true _ A3.out).mono ?_); rintro e w13 ⟨rfl, hb⟩; have n0_ := Aside0.mk (below_step (by repeat (first | (with_reducible first | exact HB.out | apply below_alloc | apply pw_below_drewN | apply below_drew1) | exact HB.out)) hb); clear HB; have HB := n0_; clear n0_; (try clear hb); (try clear hb2); (try clear hk); (try clear hi)) | (go_at_call 30; (with_reducible refine (corncribbook_Among.calls a0 12 t274 _ A5.out).mono ?_); rintro e w' ⟨rfl, ⟨nd, rfl⟩⟩; (try first | exact ⟨rfl, _, World.drewN_drewN _ _ _⟩ | exact ⟨rfl, _, Eq.trans (World.drewN_drewN _ _ _) (congrArg (World.drewN _) (Nat.add_assoc _ _ _))⟩)) | (go_at_call 17; (with_reducible refine (stripe_Split.calls (wrap64 (1 + t274)) a1 t275 t276 _ A8.out).mono ?_); rintro e w14 ⟨v277, rfl, ho0, hb⟩; have n0_ := Aside0.mk (Kd.R_lower ho0 (below_size (by repeat (first | (with_reducible first | exact HB.out | apply below_alloc | apply pw_below_drewN | apply below_drew1) | exact HB.out)))); have n1_ := Aside0.mk (below_step (by repeat (first | (with_reducible first | exact HB.out | apply below_alloc | apply pw_below_drewN | apply below_drew1) | exact HB.out)) hb); clear HB; have HO278 := n0_; have HB := n1_; clear n0_ n1_; (try clear hb); (try clear hb2); (try clear hk); (try clear hi); (try clear ho0)) | (go_at_call 15; (with_reducible refine (stripe_Size.calls (wrap64 (1 + t274)) (a1.size : Int) t279 t280 _ A9.out).mono ?_); rintro e w' ⟨rfl, ⟨nd, rfl⟩⟩; (try first | exact ⟨rfl, _, World.drewN_drewN _ _ _⟩ | exact ⟨rfl, _, Eq.trans (World.drewN_drewN _ _ _) (congrArg (World.drewN _) (Nat.add_assoc _ _ _))⟩); obtain ⟨Ao15, co15, eo15⟩ := Kd.R_slice HO278.out; subst eo15) | (go_at_call 22; (with_reducible refine (stripe_Join.calls _ _ t275 t281 t282 _ ?side1 ?side2 A10.out).mono ?_); (case side1 => repeat (first | exact (Kd.R_reads' HO278.out).2.2 | (with_reducible refine Kd.C_alloc ?_ _) | (with_reducible refine Kd.C_drewN ?_ _) | (with_reducible refine Kd.C_drew ?_))); (case side2 => exact (Kd.R_reads' HO278.out).2.1); rintro e w16 ⟨rfl, hb⟩; have n0_ := Aside0.mk (Kd.R_below (by (with_reducible repeat (first | apply Kd.R_alloc | apply Kd.R_drewN | apply Kd.R_drew)); exact HO278.out) hb); have n1_ := Aside0.mk (below_step (by repeat (first | (with_reducible first | exact HB.out | apply below_alloc | apply pw_below_drewN | apply below_drew1) | exact HB.out)) hb); clear HO278; clear HB; have HO278 := n0_; have HB := n1_; clear n0_ n1_; (try clear hb); (try clear hb2); (try clear hk); (try clear hi)) | (go_at_call 26; (with_reducible refine (stripe_Encode.calls (wrap64 (1 + t274)) 2 a1 t283 t284 _ A11.out).mono ?_); rintro e w17 ⟨v285, rfl, ho0, hb⟩; have n0_ := Aside0.mk (Kd.R_elder' (by (with_reducible repeat (first | apply Kd.R_alloc | apply Kd.R_drewN | apply Kd.R_drew)); exact HO278.out) (Kd.R_base ho0) hb); have n1_ := Aside0.mk (Kd.R_lower (Kd.R_new' ho0 (Kd.R_lt (by (with_reducible repeat (first | apply Kd.R_alloc | apply Kd.R_drewN | apply Kd.R_drew)); exact HO278.out))) (below_size (by repeat (first | (with_reducible first | exact HB.out | apply below_alloc | apply pw_below_drewN | apply below_drew1) | exact HB.out)))); have n2_ := Aside0.mk (below_step (by repeat (first | (with_reducible first | exact HB.out | apply below_alloc | apply pw_below_drewN | apply below_drew1) | exact HB.out)) hb); clear HO278; clear HB; have HO278 := n0_; have HO286 := n1_; have HB := n2_; clear n0_ n1_ n2_; (try clear hb); (try clear hb2); (try clear hk); (try clear hi); (try clear ho0))))
   (try simp only [Act.put, List.setIfInBounds_toArray, List.set_cons_zero, List.set_cons_succ])
   go_cut [77] (fun v77 wc => ∃ (kq : Nat) (x77_11 : Bool), v77 = .bool x77_11 ∧ Aside0 (corncriblaw03_StripeBack.j0 kq (wrap64 (1 + t274)) t275 t279 t283 x77_11 = some r) ∧ Aside0 (kq ≤ k) ∧ Aside0 (Kd.R Kd.string 9 wc w.heap.size (fun k_ => some k_ ≠ (v285 : Value).ownBlock) (.slice Ao15 t275.length co15) t275) ∧ Aside0 (Kd.R Kd.string 9 wc w.heap.size (fun k_ => some k_ ≠ ((.slice Ao15 t275.length co15) : Value).ownBlock) v285 t283) ∧ Aside0 (Below w.heap.size w wc))
   case first =>
    have H := HC12.out
    clear HC12
    by_cases c18 : t276 = 0
    ·rw [if_pos c18] at H
     have c18b0 : (t276 == 0) = true := beq_iff_eq.mpr c18
     have c18b1 : (t276 != 0) = false := bne_eq_false_iff_eq.mpr c18
     clear c18
     (first | rw [c18b0] | (simp only [i64_w, i32_w]; rw [c18b0]) | skip)
     by_cases c19 : t280 = 0
     ·rw [if_pos c19] at H
      have c19b0 : (t280 == 0) = true := beq_iff_eq.mpr c19
      have c19b1 : (t280 != 0) = false := bne_eq_false_iff_eq.mpr c19
      clear c19
      by_cases c20 : t282 = 0
      ·rw [if_pos c20] at H
       have c20b0 : (t282 == 0) = true := beq_iff_eq.mpr c20
       have c20b1 : (t282 != 0) = false := bne_eq_false_iff_eq.mpr c20
       clear c20
       by_cases c21 : t284 = 0
       ·rw [if_pos c21] at H
        have c21b0 : (t284 == 0) = true := beq_iff_eq.mpr c21
        have c21b1 : (t284 != 0) = false := bne_eq_false_iff_eq.mpr c21
        clear c21
        by_cases c22 : t281.toList = a1.toList
        ·rw [if_pos c22] at H
         have c22b0 : (t281.toList == a1.toList) = true := beq_iff_eq.mpr c22
         have c22b1 : (t281.toList != a1.toList) = false := bne_eq_false_iff_eq.mpr c22
         clear c22
         by_cases c23 : (t275.length : Int) = (wrap64 (1 + t274))
         ·rw [if_pos c23] at H
          have c23b0 : ((t275.length : Int) == (wrap64 (1 + t274))) = true := beq_iff_eq.mpr c23
          have c23b1 : ((t275.length : Int) != (wrap64 (1 + t274))) = false := bne_eq_false_iff_eq.mpr c23
          clear c23
          have H' := Aside0.mk H
          clear H
          obtain ⟨Ao24, co24, eo24⟩ := Kd.R_slice HO286.out
          subst eo24
          go_wp2
          repeat (go_quiet (fail); try go_wp2)
          go_meet
          case rel => exact ⟨_, (((t283.length : Int) != (wrap64 ((wrap64 (1 + t274)) + 2)))), (by first | rfl | (simp; done) | (simp [*]; done)), H', ⟨by first | omega | exact Nat.le_refl _⟩, ⟨by (with_reducible repeat (first | apply Kd.R_alloc | apply Kd.R_drewN | apply Kd.R_drew)); exact Kd.R_mono HO278.out (fun _ hk => hk.2)⟩, ⟨by (with_reducible repeat (first | apply Kd.R_alloc | apply Kd.R_drewN | apply Kd.R_drew)); exact Kd.R_mono HO286.out (fun _ hk => hk.2)⟩, ⟨by repeat (first | (with_reducible first | exact HB.out | apply below_alloc | apply pw_below_drewN | apply below_drew1) | exact HB.out)⟩⟩
         ·rw [if_neg c23] at H
          have c23b0 : ((t275.length : Int) == (wrap64 (1 + t274))) = false := beq_eq_false_iff_ne.mpr c23
          have c23b1 : ((t275.length : Int) != (wrap64 (1 + t274))) = true := bne_iff_ne.mpr c23
          have H' := Aside0.mk H
          clear H
          go_wp2
          repeat (go_quiet (fail); try go_wp2)
          go_meet
          case rel => exact ⟨_, (true), (by first | rfl | (simp; done) | (simp [*]; done)), H', ⟨by first | omega | exact Nat.le_refl _⟩, ⟨by (with_reducible repeat (first | apply Kd.R_alloc | apply Kd.R_drewN | apply Kd.R_drew)); exact Kd.R_mono HO278.out (fun _ hk => hk.2)⟩, ⟨by (with_reducible repeat (first | apply Kd.R_alloc | apply Kd.R_drewN | apply Kd.R_drew)); exact Kd.R_mono HO286.out (fun _ hk => hk.2)⟩, ⟨by repeat (first | (with_reducible first | exact HB.out | apply below_alloc | apply pw_below_drewN | apply below_drew1) | exact HB.out)⟩⟩
        ·rw [if_neg c22] at H
         have c22b0 : (t281.toList == a1.toList) = false := beq_eq_false_iff_ne.mpr c22
         have c22b1 : (t281.toList != a1.toList) = true := bne_iff_ne.mpr c22
         have H' := Aside0.mk H
         clear H
         go_wp2
         repeat (go_quiet (fail); try go_wp2)
         go_meet
         case rel => exact ⟨_, (true), (by first | rfl | (simp; done) | (simp [*]; done)), H', ⟨by first | omega | exact Nat.le_refl _⟩, ⟨by (with_reducible repeat (first | apply Kd.R_alloc | apply Kd.R_drewN | apply Kd.R_drew)); exact Kd.R_mono HO278.out (fun _ hk => hk.2)⟩, ⟨by (with_reducible repeat (first | apply Kd.R_alloc | apply Kd.R_drewN | apply Kd.R_drew)); exact Kd.R_mono HO286.out (fun _ hk => hk.2)⟩, ⟨by repeat (first | (with_reducible first | exact HB.out | apply below_alloc | apply pw_below_drewN | apply below_drew1) | exact HB.out)⟩⟩
       ·rw [if_neg c21] at H
        have c21b0 : (t284 == 0) = false := beq_eq_false_iff_ne.mpr c21
        have c21b1 : (t284 != 0) = true := bne_iff_ne.mpr c21
        have H' := Aside0.mk H
        clear H
        go_wp2
        repeat (go_quiet (fail); try go_wp2)
        go_meet
        case rel => exact ⟨_, (true), (by first | rfl | (simp; done) | (simp [*]; done)), H', ⟨by first | omega | exact Nat.le_refl _⟩, ⟨by (with_reducible repeat (first | apply Kd.R_alloc | apply Kd.R_drewN | apply Kd.R_drew)); exact Kd.R_mono HO278.out (fun _ hk => hk.2)⟩, ⟨by (with_reducible repeat (first | apply Kd.R_alloc | apply Kd.R_drewN | apply Kd.R_drew)); exact Kd.R_mono HO286.out (fun _ hk => hk.2)⟩, ⟨by repeat (first | (with_reducible first | exact HB.out | apply below_alloc | apply pw_below_drewN | apply below_drew1) | exact HB.out)⟩⟩
      ·rw [if_neg c20] at H
       have c20b0 : (t282 == 0) = false := beq_eq_false_iff_ne.mpr c20
       have c20b1 : (t282 != 0) = true := bne_iff_ne.mpr c20
       have H' := Aside0.mk H
       clear H
       go_wp2
       repeat (go_quiet (fail); try go_wp2)
       go_meet
       case rel => exact ⟨_, (true), (by first | rfl | (simp; done) | (simp [*]; done)), H', ⟨by first | omega | exact Nat.le_refl _⟩, ⟨by (with_reducible repeat (first | apply Kd.R_alloc | apply Kd.R_drewN | apply Kd.R_drew)); exact Kd.R_mono HO278.out (fun _ hk => hk.2)⟩, ⟨by (with_reducible repeat (first | apply Kd.R_alloc | apply Kd.R_drewN | apply Kd.R_drew)); exact Kd.R_mono HO286.out (fun _ hk => hk.2)⟩, ⟨by repeat (first | (with_reducible first | exact HB.out | apply below_alloc | apply pw_below_drewN | apply below_drew1) | exact HB.out)⟩⟩
     ·rw [if_neg c19] at H
      have c19b0 : (t280 == 0) = false := beq_eq_false_iff_ne.mpr c19
      have c19b1 : (t280 != 0) = true := bne_iff_ne.mpr c19
      have H' := Aside0.mk H
      clear H
      go_wp2
      repeat (go_quiet (fail); try go_wp2)
      go_meet
      case rel => exact ⟨_, (true), (by first | rfl | (simp; done) | (simp [*]; done)), H', ⟨by first | omega | exact Nat.le_refl _⟩, ⟨by (with_reducible repeat (first | apply Kd.R_alloc | apply Kd.R_drewN | apply Kd.R_drew)); exact Kd.R_mono HO278.out (fun _ hk => hk.2)⟩, ⟨by (with_reducible repeat (first | apply Kd.R_alloc | apply Kd.R_drewN | apply Kd.R_drew)); exact Kd.R_mono HO286.out (fun _ hk => hk.2)⟩, ⟨by repeat (first | (with_reducible first | exact HB.out | apply below_alloc | apply pw_below_drewN | apply below_drew1) | exact HB.out)⟩⟩
    ·rw [if_neg c18] at H
     have c18b0 : (t276 == 0) = false := beq_eq_false_iff_ne.mpr c18
     have c18b1 : (t276 != 0) = true := bne_iff_ne.mpr c18
     (first | rw [c18b0] | (simp only [i64_w, i32_w]; rw [c18b0]) | skip)
     have H' := Aside0.mk H
     clear H
     go_wp2
     repeat (go_quiet (fail); try go_wp2)
     go_meet
     case rel => exact ⟨_, (true), (by first | rfl | (simp; done) | (simp [*]; done)), H', ⟨by first | omega | exact Nat.le_refl _⟩, ⟨by (with_reducible repeat (first | apply Kd.R_alloc | apply Kd.R_drewN | apply Kd.R_drew)); exact Kd.R_mono HO278.out (fun _ hk => hk.2)⟩, ⟨by (with_reducible repeat (first | apply Kd.R_alloc | apply Kd.R_drewN | apply Kd.R_drew)); exact Kd.R_mono HO286.out (fun _ hk => hk.2)⟩, ⟨by repeat (first | (with_reducible first | exact HB.out | apply below_alloc | apply pw_below_drewN | apply below_drew1) | exact HB.out)⟩⟩
   case rest =>
    clear HC12
    try clear c1
    try clear c2
    try clear p2
    try clear c4
    try clear c6
    try clear c6b0
    try clear c6b1
    try clear p6
    try clear c7
    try clear c18
    try clear c18b0
    try clear c18b1
    try clear c19
    try clear c19b0
    try clear c19b1
    try clear c20
    try clear c20b0
    try clear c20b1
    try clear c21
    try clear c21b0
    try clear c21b1
    try clear c22
    try clear c22b0
    try clear c22b1
    try clear c23
    try clear c23b0
    try clear c23b1
    obtain ⟨kq, x77_11, rfl, HA, HJ11, HO_5, HO_11, HB⟩ := hcut
    cases kq with
    | zero => exact absurd HA.out (by simp [corncriblaw03_StripeBack.j0])
    | succ kj11 =>
     have H := HA.out
     clear HA
     simp only [corncriblaw03_StripeBack.j0] at H
     by_cases c25 : x77_11 = true
     ·subst c25
      have H1 : (some false) = some r := by rw [if_pos rfl] at H; exact H
      clear H
      have H := H1
      clear H1
      obtain rfl := Option.some.inj H
      go_wp2
      repeat (go_quiet (fail); try go_wp2)
      go_ret
      exact ⟨by first | rfl | (simp [errW_none, errW_some] <;> rfl) | (simp [*, errW_none, errW_some] <;> rfl), by repeat (first | (with_reducible first | exact HB.out | apply below_alloc | apply pw_below_drewN | apply below_drew1) | exact HB.out)⟩
     ·replace c25 := Bool.eq_false_iff.mpr c25
      subst c25
      have H1 : (corncriblaw03_StripeBack.l0 kj11 (wrap64 (1 + t274)) t275 t279 t283 (t283.length : Int) 0) = some r := by rw [if_neg (show ¬ (false = true) by decide)] at H; exact H
      clear H
      have H := H1
      clear H1
      have H' := Aside0.mk H
      clear H
      obtain ⟨Ao26, co26, eo26⟩ := Kd.R_slice HO_11.out
      subst eo26
      go_wp2
      repeat (go_quiet (fail); try go_wp2)
      go_loopg [80] kj11 (fun kq v80 w' => ∃ (x80_2 : Int), v80 = .int .i64 x80_2 ∧ Aside0 (corncriblaw03_StripeBack.l0 kq (wrap64 (1 + t274)) t275 t279 t283 (t283.length : Int) x80_2 = some r) ∧ Aside0 (kq ≤ kj11) ∧ Aside0 (Kd.R Kd.string 9 w' w.heap.size (fun k_ => some k_ ≠ ((.slice Ao26 t283.length co26) : Value).ownBlock) (.slice Ao15 t275.length co15) t275) ∧ Aside0 (Kd.R Kd.string 9 w' w.heap.size (fun k_ => some k_ ≠ ((.slice Ao15 t275.length co15) : Value).ownBlock) (.slice Ao26 t283.length co26) t283) ∧ Aside0 (Below w.heap.size w w'))
      case atStart => exact ⟨(0), (by first | rfl | (simp; done) | (simp [*]; done)), H', ⟨Nat.le_refl _⟩, ⟨by (with_reducible repeat (first | apply Kd.R_alloc | apply Kd.R_drewN | apply Kd.R_drew)); exact HO_5.out⟩, ⟨by (with_reducible repeat (first | apply Kd.R_alloc | apply Kd.R_drewN | apply Kd.R_drew)); exact HO_11.out⟩, ⟨by repeat (first | (with_reducible first | exact HB.out | apply below_alloc | apply pw_below_drewN | apply below_drew1) | exact HB.out)⟩⟩
      case round =>
       clear H'
       try clear c1
       try clear c2
       try clear p2
       try clear c4
       try clear c6
       try clear c6b0
       try clear c6b1
       try clear p6
       try clear c7
       try clear c18
       try clear c18b0
       try clear c18b1
       try clear c19
       try clear c19b0
       try clear c19b1
       try clear c20
       try clear c20b0
       try clear c20b1
       try clear c21
       try clear c21b0
       try clear c21b1
       try clear c22
       try clear c22b0
       try clear c22b1
       try clear c23
       try clear c23b0
       try clear c23b1
       try clear c25
       try clear p2
       try clear p6
       obtain ⟨x80_2, rfl, HA, HK2, HO_5, HO_11, HB⟩ := hrel
       cases gk with
       | zero => exact absurd HA.out (by simp [corncriblaw03_StripeBack.l0])
       | succ k2 =>
        have H := HA.out
        clear HA
        simp only [corncriblaw03_StripeBack.l0] at H
        by_cases c27 : x80_2 < (t283.length : Int)
        ·rw [if_pos c27] at H
         have c27b0 : decide (x80_2 < (t283.length : Int)) = true := decide_eq_true c27
         clear c27
         by_cases c28 : 0 ≤ x80_2
         ·rw [if_pos c28] at H
          have c28b0 : decide (0 ≤ x80_2) = true := decide_eq_true c28
          clear c28
          by_cases c29 : x80_2 < (t283.length : Int)
          ·rw [if_pos c29] at H
           have c29b0 : decide (x80_2 < (t283.length : Int)) = true := decide_eq_true c29
           clear c29
           by_cases c30 : ((rdOf ByteArray.empty t283 x80_2).size : Int) = t279
           ·rw [if_pos c30] at H
            have c30b0 : (((rdOf ByteArray.empty t283 x80_2).size : Int) == t279) = true := beq_iff_eq.mpr c30
            have c30b1 : (((rdOf ByteArray.empty t283 x80_2).size : Int) != t279) = false := bne_eq_false_iff_eq.mpr c30
            clear c30
            by_cases c31 : x80_2 < (wrap64 (1 + t274))
            ·rw [if_pos c31] at H
             have c31b0 : decide (x80_2 < (wrap64 (1 + t274))) = true := decide_eq_true c31
             clear c31
             by_cases c32 : x80_2 < (t275.length : Int)
             ·rw [if_pos c32] at H
              have c32b0 : decide (x80_2 < (t275.length : Int)) = true := decide_eq_true c32
              clear c32
              by_cases c33 : (rdOf ByteArray.empty t283 x80_2).toList = (rdOf ByteArray.empty t275 x80_2).toList
              ·rw [if_pos c33] at H
               have c33b0 : ((rdOf ByteArray.empty t283 x80_2).toList == (rdOf ByteArray.empty t275 x80_2).toList) = true := beq_iff_eq.mpr c33
               have c33b1 : ((rdOf ByteArray.empty t283 x80_2).toList != (rdOf ByteArray.empty t275 x80_2).toList) = false := bne_eq_false_iff_eq.mpr c33
               clear c33
               have H' := Aside0.mk H
               clear H
               have p287 : 0 ≤ (x80_2 : Int) := of_decide_eq_true (by first | (with_reducible assumption) | assumption)
               have q287 : x80_2 < (t283.length : Int) := of_decide_eq_true (by first | (with_reducible assumption) | assumption)
               obtain ⟨ad287, e287, hx287_0⟩ := Kd.at_string (Kd.R_reads' HO_11.out).2.2 x80_2 p287 q287
               cases e287
               replace p287 := eq_true p287
               replace q287 := eq_true q287
               have p288 : 0 ≤ (x80_2 : Int) := of_decide_eq_true (by first | (with_reducible assumption) | assumption)
               have q288 : x80_2 < (t283.length : Int) := of_decide_eq_true (by first | (with_reducible assumption) | assumption)
               obtain ⟨ad288, e288, hx288_0⟩ := Kd.at_string (Kd.R_reads' HO_11.out).2.2 x80_2 p288 q288
               obtain rfl : ad287 = ad288 := (by injection e288)
               replace p288 := eq_true p288
               replace q288 := eq_true q288
               have p289 : 0 ≤ (x80_2 : Int) := of_decide_eq_true (by first | (with_reducible assumption) | assumption)
               have q289 : x80_2 < (t275.length : Int) := of_decide_eq_true (by first | (with_reducible assumption) | assumption)
               obtain ⟨ad289, e289, hx289_0⟩ := Kd.at_string (Kd.R_reads' HO_5.out).2.2 x80_2 p289 q289
               cases e289
               replace p289 := eq_true p289
               replace q289 := eq_true q289
               go_wp2
               repeat (go_quiet (fail); try go_wp2)
               go_roundg k2
               case measure => have := HJ11.out; have := HK2.out; omega
               case rel => exact ⟨(wrap64 (x80_2 + 1)), (by first | rfl | (simp; done) | (simp [*]; done)), H', ⟨by have := HJ11.out; have := HK2.out; omega⟩, ⟨by (with_reducible repeat (first | apply Kd.R_alloc | apply Kd.R_drewN | apply Kd.R_drew)); exact HO_5.out⟩, ⟨by (with_reducible repeat (first | apply Kd.R_alloc | apply Kd.R_drewN | apply Kd.R_drew)); exact HO_11.out⟩, ⟨by repeat (first | (with_reducible first | exact HB.out | apply below_alloc | apply pw_below_drewN | apply below_drew1) | exact HB.out)⟩⟩
              ·rw [if_neg c33] at H
               have c33b0 : ((rdOf ByteArray.empty t283 x80_2).toList == (rdOf ByteArray.empty t275 x80_2).toList) = false := beq_eq_false_iff_ne.mpr c33
               have c33b1 : ((rdOf ByteArray.empty t283 x80_2).toList != (rdOf ByteArray.empty t275 x80_2).toList) = true := bne_iff_ne.mpr c33
               obtain rfl := Option.some.inj H
               have p287 : 0 ≤ (x80_2 : Int) := of_decide_eq_true (by first | (with_reducible assumption) | assumption)
               have q287 : x80_2 < (t283.length : Int) := of_decide_eq_true (by first | (with_reducible assumption) | assumption)
               obtain ⟨ad287, e287, hx287_0⟩ := Kd.at_string (Kd.R_reads' HO_11.out).2.2 x80_2 p287 q287
               cases e287
               replace p287 := eq_true p287
               replace q287 := eq_true q287
               have p288 : 0 ≤ (x80_2 : Int) := of_decide_eq_true (by first | (with_reducible assumption) | assumption)
               have q288 : x80_2 < (t283.length : Int) := of_decide_eq_true (by first | (with_reducible assumption) | assumption)
               obtain ⟨ad288, e288, hx288_0⟩ := Kd.at_string (Kd.R_reads' HO_11.out).2.2 x80_2 p288 q288
               obtain rfl : ad287 = ad288 := (by injection e288)
               replace p288 := eq_true p288
               replace q288 := eq_true q288
               have p289 : 0 ≤ (x80_2 : Int) := of_decide_eq_true (by first | (with_reducible assumption) | assumption)
               have q289 : x80_2 < (t275.length : Int) := of_decide_eq_true (by first | (with_reducible assumption) | assumption)
               obtain ⟨ad289, e289, hx289_0⟩ := Kd.at_string (Kd.R_reads' HO_5.out).2.2 x80_2 p289 q289
               cases e289
               replace p289 := eq_true p289
               replace q289 := eq_true q289
               go_wp2
               repeat (go_quiet (fail); try go_wp2)
               go_ret
               exact ⟨by first | rfl | (simp [errW_none, errW_some] <;> rfl) | (simp [*, errW_none, errW_some] <;> rfl), by repeat (first | (with_reducible first | exact HB.out | apply below_alloc | apply pw_below_drewN | apply below_drew1) | exact HB.out)⟩
             ·rw [if_neg c32] at H
              exact absurd H (by simp)
            ·rw [if_neg c31] at H
             have c31b0 : decide (x80_2 < (wrap64 (1 + t274))) = false := decide_eq_false c31
             clear c31
             have H' := Aside0.mk H
             clear H
             have p287 : 0 ≤ (x80_2 : Int) := of_decide_eq_true (by first | (with_reducible assumption) | assumption)
             have q287 : x80_2 < (t283.length : Int) := of_decide_eq_true (by first | (with_reducible assumption) | assumption)
             obtain ⟨ad287, e287, hx287_0⟩ := Kd.at_string (Kd.R_reads' HO_11.out).2.2 x80_2 p287 q287
             cases e287
             replace p287 := eq_true p287
             replace q287 := eq_true q287
             go_wp2
             repeat (go_quiet (fail); try go_wp2)
             go_roundg k2
             case measure => have := HJ11.out; have := HK2.out; omega
             case rel => exact ⟨(wrap64 (x80_2 + 1)), (by first | rfl | (simp; done) | (simp [*]; done)), H', ⟨by have := HJ11.out; have := HK2.out; omega⟩, ⟨by (with_reducible repeat (first | apply Kd.R_alloc | apply Kd.R_drewN | apply Kd.R_drew)); exact HO_5.out⟩, ⟨by (with_reducible repeat (first | apply Kd.R_alloc | apply Kd.R_drewN | apply Kd.R_drew)); exact HO_11.out⟩, ⟨by repeat (first | (with_reducible first | exact HB.out | apply below_alloc | apply pw_below_drewN | apply below_drew1) | exact HB.out)⟩⟩
           ·rw [if_neg c30] at H
            have c30b0 : (((rdOf ByteArray.empty t283 x80_2).size : Int) == t279) = false := beq_eq_false_iff_ne.mpr c30
            have c30b1 : (((rdOf ByteArray.empty t283 x80_2).size : Int) != t279) = true := bne_iff_ne.mpr c30
            obtain rfl := Option.some.inj H
            have p287 : 0 ≤ (x80_2 : Int) := of_decide_eq_true (by first | (with_reducible assumption) | assumption)
            have q287 : x80_2 < (t283.length : Int) := of_decide_eq_true (by first | (with_reducible assumption) | assumption)
            obtain ⟨ad287, e287, hx287_0⟩ := Kd.at_string (Kd.R_reads' HO_11.out).2.2 x80_2 p287 q287
            cases e287
            replace p287 := eq_true p287
            replace q287 := eq_true q287
            go_wp2
            repeat (go_quiet (fail); try go_wp2)
            go_ret
            exact ⟨by first | rfl | (simp [errW_none, errW_some] <;> rfl) | (simp [*, errW_none, errW_some] <;> rfl), by repeat (first | (with_reducible first | exact HB.out | apply below_alloc | apply pw_below_drewN | apply below_drew1) | exact HB.out)⟩
          ·rw [if_neg c29] at H
           exact absurd H (by simp)
         ·rw [if_neg c28] at H
          exact absurd H (by simp)
        ·rw [if_neg c27] at H
         have c27b0 : decide (x80_2 < (t283.length : Int)) = false := decide_eq_false c27
         clear c27
         obtain rfl := Option.some.inj H
         go_wp2
         repeat (go_quiet (fail); try go_wp2)
         go_ret
         exact ⟨by first | rfl | (simp [errW_none, errW_some] <;> rfl) | (simp [*, errW_none, errW_some] <;> rfl), by repeat (first | (with_reducible first | exact HB.out | apply below_alloc | apply pw_below_drewN | apply below_drew1) | exact HB.out)⟩
 ·replace c4 := Bool.eq_false_iff.mpr c4
  subst c4
  have H1 : (some false) = some r := by rw [if_neg (show ¬ (false = true) by decide)] at H; exact H
  clear H
  have H := H1
  clear H1
  obtain rfl := Option.some.inj H
  go_enter Tryd.func7, Tryd.ntmps7
  go_wp2_with (first | (go_at_call 20; (with_reducible refine (corncriblaw03_works.calls k  false _ A3.out).mono ?_); rintro e w34 ⟨rfl, hb⟩; have n0_ := Aside0.mk (below_step (by repeat (first | (with_reducible first | exact HB.out | apply below_alloc | apply pw_below_drewN | apply below_drew1) | exact HB.out)) hb); clear HB; have HB := n0_; clear n0_; (try clear hb); (try clear hb2); (try clear hk); (try clear hi)))
  repeat (go_quiet (first | (go_at_call 20; (with_reducible refine (corncriblaw03_works.calls k  false _ A3.out).mono ?_); rintro e w34 ⟨rfl, hb⟩; have n0_ := Aside0.mk (below_step (by repeat (first | (with_reducible first | exact HB.out | apply below_alloc | apply pw_below_drewN | apply below_drew1) | exact HB.out)) hb); clear HB; have HB := n0_; clear n0_; (try clear hb); (try clear hb2); (try clear hk); (try clear hi))); try go_wp2_with (first | (go_at_call 20; (with_reducible refine (corncriblaw03_works.calls k  false _ A3.out).mono ?_); rintro e w34 ⟨rfl, hb⟩; have n0_ := Aside0.mk (below_step (by repeat (first | (with_reducible first | exact HB.out | apply below_alloc | apply pw_below_drewN | apply below_drew1) | exact HB.out)) hb); clear HB; have HB := n0_; clear n0_; (try clear hb); (try clear hb2); (try clear hk); (try clear hi))))
  go_ret
  exact ⟨by first | rfl | (simp [errW_none, errW_some] <;> rfl) | (simp [*, errW_none, errW_some] <;> rfl), by repeat (first | (with_reducible first | exact HB.out | apply below_alloc | apply pw_below_drewN | apply below_drew1) | exact HB.out)⟩

end Go.Proofs.YtegmmefijihdeaaDoor.PS
