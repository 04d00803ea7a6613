-- WRITTEN BY A PROGRAM (mk.py of this session, over the kit's print.py, some functions given by hand). Lean checks it.
import Derived.Test.YtegmmefijihdeaaDoorPS0
import Derived.Test.YtegmmefijihdeaaDoorPSf49
namespace Go.Proofs.YtegmmefijihdeaaDoor.PS
open Go.RowKit Go.Proofs.YtegmmefijihdeaaDoorW.PrintWords Go.Proofs.YtegmmefijihdeaaDoorW.PrintLast Go.Proofs.YtegmmefijihdeaaDoorW.PrintMore
attribute [local go_sem] Mk.str_leq Mk.str_gtr Mk.str_geq max2_int min2_int max_two min_two max_three min_three max_four min_four   -- for this text's walks alone
set_option linter.unusedVariables false
set_option linter.unusedSimpArgs false

/-! ### corncribref03_Whole: function 54 -/
def corncribref03_Whole.f (k : Nat) (a0 : Int) (a1 : ByteArray) : Option (ByteArray × Bool) := if (a1.size : Int) < 4 then (some ((⟨#[]⟩ : ByteArray), false)) else (if 0 < (a1.size : Int) then (if 1 < (a1.size : Int) then (if 2 < (a1.size : Int) then (if 3 < (a1.size : Int) then (if (wrap64 ((wrap64 ((wrap64 ((wrap64 ((wrap64 (bt a1 0)) * 16777216)) + (wrap64 ((wrap64 (bt a1 1)) * 65536)))) + (wrap64 ((wrap64 (bt a1 2)) * 256)))) + (wrap64 (bt a1 3)))) > 2048 then (some ((⟨#[]⟩ : ByteArray), false)) else (if (wrap64 ((wrap64 ((wrap64 ((wrap64 ((wrap64 (bt a1 0)) * 16777216)) + (wrap64 ((wrap64 (bt a1 1)) * 65536)))) + (wrap64 ((wrap64 (bt a1 2)) * 256)))) + (wrap64 (bt a1 3)))) > (wrap64 ((a1.size : Int) - 4)) then (some ((⟨#[]⟩ : ByteArray), false)) else (if 4 ≤ (wrap64 (4 + (wrap64 ((wrap64 ((wrap64 ((wrap64 ((wrap64 (bt a1 0)) * 16777216)) + (wrap64 ((wrap64 (bt a1 1)) * 65536)))) + (wrap64 ((wrap64 (bt a1 2)) * 256)))) + (wrap64 (bt a1 3)))))) then (if (wrap64 (4 + (wrap64 ((wrap64 ((wrap64 ((wrap64 ((wrap64 (bt a1 0)) * 16777216)) + (wrap64 ((wrap64 (bt a1 1)) * 65536)))) + (wrap64 ((wrap64 (bt a1 2)) * 256)))) + (wrap64 (bt a1 3)))))) ≤ (a1.size : Int) then ((corncribref03_Plain.f k a0 (a1.extract 4 ((wrap64 (4 + (wrap64 ((wrap64 ((wrap64 ((wrap64 ((wrap64 (bt a1 0)) * 16777216)) + (wrap64 ((wrap64 (bt a1 1)) * 65536)))) + (wrap64 ((wrap64 (bt a1 2)) * 256)))) + (wrap64 (bt a1 3)))))) : Int).toNat)).bind fun t180 => (some (a1.extract 4 ((wrap64 (4 + (wrap64 ((wrap64 ((wrap64 ((wrap64 ((wrap64 (bt a1 0)) * 16777216)) + (wrap64 ((wrap64 (bt a1 1)) * 65536)))) + (wrap64 ((wrap64 (bt a1 2)) * 256)))) + (wrap64 (bt a1 3)))))) : Int).toNat, (t180.toList == a1.toList)))) else (none)) else (none)))) else (none)) else (none)) else (none)) else (none))
theorem corncribref03_Whole.mono : ∀ a0 a1 k, LeO (corncribref03_Whole.f k a0 a1) (corncribref03_Whole.f (k + 1) a0 a1) := by
 intro a0 a1 k
 unfold corncribref03_Whole.f
 repeat' first
   | (with_reducible exact corncribref03_Plain.mono _ _ _)
   | (with_reducible exact LeO.refl _)
   | (with_reducible exact LeO.none _)
   | (with_reducible refine LeO.ite ?_ ?_)
   | (with_reducible refine LeO.bind ?_ (fun _ => ?_))
   | exact corncribref03_Plain.mono _ _ _
   | exact LeO.none _
   | refine LeO.ite ?_ ?_
   | refine LeO.bind ?_ (fun _ => ?_)
set_option maxHeartbeats 8000000 in
set_option maxRecDepth 100000 in
theorem corncribref03_Whole.calls (k : Nat) (a0 : Int) (a1 : ByteArray) (r1 : ByteArray) (r2 : Bool) (w : World) (h : corncribref03_Whole.f k a0 a1 = some (r1, r2)) :
  Calls Tryd.prog 54 #[.int .i64 a0, .string a1] w fun e w' => e = .returned (.tuple #[.string r1, .bool r2]) ∧ Below w.heap.size w w' := by
 have HB := Aside0.mk (Below.refl w.heap.size w)
 have H : (if (a1.size : Int) < 4 then (some ((⟨#[]⟩ : ByteArray), false)) else (if 0 < (a1.size : Int) then (if 1 < (a1.size : Int) then (if 2 < (a1.size : Int) then (if 3 < (a1.size : Int) then (if (wrap64 ((wrap64 ((wrap64 ((wrap64 ((wrap64 (bt a1 0)) * 16777216)) + (wrap64 ((wrap64 (bt a1 1)) * 65536)))) + (wrap64 ((wrap64 (bt a1 2)) * 256)))) + (wrap64 (bt a1 3)))) > 2048 then (some ((⟨#[]⟩ : ByteArray), false)) else (if (wrap64 ((wrap64 ((wrap64 ((wrap64 ((wrap64 (bt a1 0)) * 16777216)) + (wrap64 ((wrap64 (bt a1 1)) * 65536)))) + (wrap64 ((wrap64 (bt a1 2)) * 256)))) + (wrap64 (bt a1 3)))) > (wrap64 ((a1.size : Int) - 4)) then (some ((⟨#[]⟩ : ByteArray), false)) else (if 4 ≤ (wrap64 (4 + (wrap64 ((wrap64 ((wrap64 ((wrap64 ((wrap64 (bt a1 0)) * 16777216)) + (wrap64 ((wrap64 (bt a1 1)) * 65536)))) + (wrap64 ((wrap64 (bt a1 2)) * 256)))) + (wrap64 (bt a1 3)))))) then (if (wrap64 (4 + (wrap64 ((wrap64 ((wrap64 ((wrap64 ((wrap64 (bt a1 0)) * 16777216)) + (wrap64 ((wrap64 (bt a1 1)) * 65536)))) + (wrap64 ((wrap64 (bt a1 2)) * 256)))) + (wrap64 (bt a1 3)))))) ≤ (a1.size : Int) then ((corncribref03_Plain.f k a0 (a1.extract 4 ((wrap64 (4 + (wrap64 ((wrap64 ((wrap64 ((wrap64 ((wrap64 (bt a1 0)) * 16777216)) + (wrap64 ((wrap64 (bt a1 1)) * 65536)))) + (wrap64 ((wrap64 (bt a1 2)) * 256)))) + (wrap64 (bt a1 3)))))) : Int).toNat)).bind fun t180 => (some (a1.extract 4 ((wrap64 (4 + (wrap64 ((wrap64 ((wrap64 ((wrap64 ((wrap64 (bt a1 0)) * 16777216)) + (wrap64 ((wrap64 (bt a1 1)) * 65536)))) + (wrap64 ((wrap64 (bt a1 2)) * 256)))) + (wrap64 (bt a1 3)))))) : Int).toNat, (t180.toList == a1.toList)))) else (none)) else (none)))) else (none)) else (none)) else (none)) else (none))) = some (r1, r2) := h
 clear h
 by_cases c3 : (a1.size : Int) < 4
 ·rw [if_pos c3] at H
  have c3b0 : decide ((a1.size : Int) < 4) = true := decide_eq_true c3
  have c3b1 : decide (a1.size < 4) = true := decide_eq_true (by omega)
  clear c3
  simp only [Option.some.injEq, Prod.mk.injEq] at H
  obtain ⟨rfl, rfl⟩ := H
  go_enter Tryd.func54, Tryd.ntmps54
  go_wp2
  repeat (go_quiet (fail); try go_wp2)
  go_ret2
  exact ⟨by first | rfl | (simp [errW_none, errW_some] <;> rfl) | (simp [*, errW_none, errW_some] <;> rfl), by repeat (first | (with_reducible first | exact HB.out | apply below_alloc | apply pw_below_drewN | apply below_drew1) | exact HB.out)⟩
 ·rw [if_neg c3] at H
  have c3b0 : decide ((a1.size : Int) < 4) = false := decide_eq_false c3
  have c3b1 : decide (a1.size < 4) = false := decide_eq_false (by omega)
  clear c3
  by_cases c4 : 0 < (a1.size : Int)
  ·rw [if_pos c4] at H
   have c4b0 : decide (0 < (a1.size : Int)) = true := decide_eq_true c4
   have c4b1 : decide (0 < a1.size) = true := decide_eq_true (by omega)
   clear c4
   by_cases c6 : 1 < (a1.size : Int)
   ·rw [if_pos c6] at H
    have c6b0 : decide (1 < (a1.size : Int)) = true := decide_eq_true c6
    have c6b1 : decide (1 < a1.size) = true := decide_eq_true (by omega)
    clear c6
    by_cases c8 : 2 < (a1.size : Int)
    ·rw [if_pos c8] at H
     have c8b0 : decide (2 < (a1.size : Int)) = true := decide_eq_true c8
     have c8b1 : decide (2 < a1.size) = true := decide_eq_true (by omega)
     clear c8
     by_cases c10 : 3 < (a1.size : Int)
     ·rw [if_pos c10] at H
      have c10b0 : decide (3 < (a1.size : Int)) = true := decide_eq_true c10
      have c10b1 : decide (3 < a1.size) = true := decide_eq_true (by omega)
      clear c10
      by_cases c12 : (wrap64 ((wrap64 ((wrap64 ((wrap64 ((wrap64 (bt a1 0)) * 16777216)) + (wrap64 ((wrap64 (bt a1 1)) * 65536)))) + (wrap64 ((wrap64 (bt a1 2)) * 256)))) + (wrap64 (bt a1 3)))) > 2048
      ·rw [if_pos c12] at H
       have c12b0 : decide (2048 < (wrap64 ((wrap64 ((wrap64 ((wrap64 ((wrap64 (bt a1 0)) * 16777216)) + (wrap64 ((wrap64 (bt a1 1)) * 65536)))) + (wrap64 ((wrap64 (bt a1 2)) * 256)))) + (wrap64 (bt a1 3))))) = true := decide_eq_true c12
       clear c12
       simp only [Option.some.injEq, Prod.mk.injEq] at H
       obtain ⟨rfl, rfl⟩ := H
       have p5 : 0 ≤ (0 : Int) := (by omega)
       have q5 : 0 < a1.size := (by have : (0 : Int) < (a1.size : Int) := of_decide_eq_true (by first | (with_reducible assumption) | assumption); omega)
       have hx5 : ∀ h : 0 < a1.size, ((a1[0]'h).toNat : Int) = bt a1 0 := bt_at a1 0
       clear p5
       have qi5 : (0 < (a1.size : Int)) = True := eq_true (of_decide_eq_true (by first | (with_reducible assumption) | assumption))
       replace q5 := eq_true q5
       have p7 : 0 ≤ (1 : Int) := (by omega)
       have q7 : 1 < a1.size := (by have : (1 : Int) < (a1.size : Int) := of_decide_eq_true (by first | (with_reducible assumption) | assumption); omega)
       have hx7 : ∀ h : 1 < a1.size, ((a1[1]'h).toNat : Int) = bt a1 1 := bt_at a1 1
       clear p7
       have qi7 : (1 < (a1.size : Int)) = True := eq_true (of_decide_eq_true (by first | (with_reducible assumption) | assumption))
       replace q7 := eq_true q7
       have p9 : 0 ≤ (2 : Int) := (by omega)
       have q9 : 2 < a1.size := (by have : (2 : Int) < (a1.size : Int) := of_decide_eq_true (by first | (with_reducible assumption) | assumption); omega)
       have hx9 : ∀ h : 2 < a1.size, ((a1[2]'h).toNat : Int) = bt a1 2 := bt_at a1 2
       clear p9
       have qi9 : (2 < (a1.size : Int)) = True := eq_true (of_decide_eq_true (by first | (with_reducible assumption) | assumption))
       replace q9 := eq_true q9
       have p11 : 0 ≤ (3 : Int) := (by omega)
       have q11 : 3 < a1.size := (by have : (3 : Int) < (a1.size : Int) := of_decide_eq_true (by first | (with_reducible assumption) | assumption); omega)
       have hx11 : ∀ h : 3 < a1.size, ((a1[3]'h).toNat : Int) = bt a1 3 := bt_at a1 3
       clear p11
       have qi11 : (3 < (a1.size : Int)) = True := eq_true (of_decide_eq_true (by first | (with_reducible assumption) | assumption))
       replace q11 := eq_true q11
       go_enter Tryd.func54, Tryd.ntmps54
       go_wp2
       repeat (go_quiet (fail); try go_wp2)
       go_ret2
       exact ⟨by first | rfl | (simp [errW_none, errW_some] <;> rfl) | (simp [*, errW_none, errW_some] <;> rfl), by repeat (first | (with_reducible first | exact HB.out | apply below_alloc | apply pw_below_drewN | apply below_drew1) | exact HB.out)⟩
      ·rw [if_neg c12] at H
       have c12b0 : decide (2048 < (wrap64 ((wrap64 ((wrap64 ((wrap64 ((wrap64 (bt a1 0)) * 16777216)) + (wrap64 ((wrap64 (bt a1 1)) * 65536)))) + (wrap64 ((wrap64 (bt a1 2)) * 256)))) + (wrap64 (bt a1 3))))) = false := decide_eq_false c12
       clear c12
       by_cases c13 : (wrap64 ((wrap64 ((wrap64 ((wrap64 ((wrap64 (bt a1 0)) * 16777216)) + (wrap64 ((wrap64 (bt a1 1)) * 65536)))) + (wrap64 ((wrap64 (bt a1 2)) * 256)))) + (wrap64 (bt a1 3)))) > (wrap64 ((a1.size : Int) - 4))
       ·rw [if_pos c13] at H
        have c13b0 : decide ((wrap64 ((a1.size : Int) - 4)) < (wrap64 ((wrap64 ((wrap64 ((wrap64 ((wrap64 (bt a1 0)) * 16777216)) + (wrap64 ((wrap64 (bt a1 1)) * 65536)))) + (wrap64 ((wrap64 (bt a1 2)) * 256)))) + (wrap64 (bt a1 3))))) = true := decide_eq_true c13
        clear c13
        simp only [Option.some.injEq, Prod.mk.injEq] at H
        obtain ⟨rfl, rfl⟩ := H
        have p5 : 0 ≤ (0 : Int) := (by omega)
        have q5 : 0 < a1.size := (by have : (0 : Int) < (a1.size : Int) := of_decide_eq_true (by first | (with_reducible assumption) | assumption); omega)
        have hx5 : ∀ h : 0 < a1.size, ((a1[0]'h).toNat : Int) = bt a1 0 := bt_at a1 0
        clear p5
        have qi5 : (0 < (a1.size : Int)) = True := eq_true (of_decide_eq_true (by first | (with_reducible assumption) | assumption))
        replace q5 := eq_true q5
        have p7 : 0 ≤ (1 : Int) := (by omega)
        have q7 : 1 < a1.size := (by have : (1 : Int) < (a1.size : Int) := of_decide_eq_true (by first | (with_reducible assumption) | assumption); omega)
        have hx7 : ∀ h : 1 < a1.size, ((a1[1]'h).toNat : Int) = bt a1 1 := bt_at a1 1
        clear p7
        have qi7 : (1 < (a1.size : Int)) = True := eq_true (of_decide_eq_true (by first | (with_reducible assumption) | assumption))
        replace q7 := eq_true q7
        have p9 : 0 ≤ (2 : Int) := (by omega)
        have q9 : 2 < a1.size := (by have : (2 : Int) < (a1.size : Int) := of_decide_eq_true (by first | (with_reducible assumption) | assumption); omega)
        have hx9 : ∀ h : 2 < a1.size, ((a1[2]'h).toNat : Int) = bt a1 2 := bt_at a1 2
        clear p9
        have qi9 : (2 < (a1.size : Int)) = True := eq_true (of_decide_eq_true (by first | (with_reducible assumption) | assumption))
        replace q9 := eq_true q9
        have p11 : 0 ≤ (3 : Int) := (by omega)
        have q11 : 3 < a1.size := (by have : (3 : Int) < (a1.size : Int) := of_decide_eq_true (by first | (with_reducible assumption) | assumption); omega)
        have hx11 : ∀ h : 3 < a1.size, ((a1[3]'h).toNat : Int) = bt a1 3 := bt_at a1 3
        clear p11
        have qi11 : (3 < (a1.size : Int)) = True := eq_true (of_decide_eq_true (by first | (with_reducible assumption) | assumption))
        replace q11 := eq_true q11
        go_enter Tryd.func54, Tryd.ntmps54
        go_wp2
        repeat (go_quiet (fail); try go_wp2)
        go_ret2
        exact ⟨by first | rfl | (simp [errW_none, errW_some] <;> rfl) | (simp [*, errW_none, errW_some] <;> rfl), by repeat (first | (with_reducible first | exact HB.out | apply below_alloc | apply pw_below_drewN | apply below_drew1) | exact HB.out)⟩
       ·rw [if_neg c13] at H
        have c13b0 : decide ((wrap64 ((a1.size : Int) - 4)) < (wrap64 ((wrap64 ((wrap64 ((wrap64 ((wrap64 (bt a1 0)) * 16777216)) + (wrap64 ((wrap64 (bt a1 1)) * 65536)))) + (wrap64 ((wrap64 (bt a1 2)) * 256)))) + (wrap64 (bt a1 3))))) = false := decide_eq_false c13
        clear c13
        by_cases c14 : 4 ≤ (wrap64 (4 + (wrap64 ((wrap64 ((wrap64 ((wrap64 ((wrap64 (bt a1 0)) * 16777216)) + (wrap64 ((wrap64 (bt a1 1)) * 65536)))) + (wrap64 ((wrap64 (bt a1 2)) * 256)))) + (wrap64 (bt a1 3))))))
        ·rw [if_pos c14] at H
         have c14b0 := eq_true c14
         have c14b1 : decide (4 ≤ (wrap64 (4 + (wrap64 ((wrap64 ((wrap64 ((wrap64 ((wrap64 (bt a1 0)) * 16777216)) + (wrap64 ((wrap64 (bt a1 1)) * 65536)))) + (wrap64 ((wrap64 (bt a1 2)) * 256)))) + (wrap64 (bt a1 3))))))) = true := decide_eq_true c14
         by_cases c15 : (wrap64 (4 + (wrap64 ((wrap64 ((wrap64 ((wrap64 ((wrap64 (bt a1 0)) * 16777216)) + (wrap64 ((wrap64 (bt a1 1)) * 65536)))) + (wrap64 ((wrap64 (bt a1 2)) * 256)))) + (wrap64 (bt a1 3)))))) ≤ (a1.size : Int)
         ·rw [if_pos c15] at H
          have c15b0 := eq_true c15
          have c15b1 : decide ((wrap64 (4 + (wrap64 ((wrap64 ((wrap64 ((wrap64 ((wrap64 (bt a1 0)) * 16777216)) + (wrap64 ((wrap64 (bt a1 1)) * 65536)))) + (wrap64 ((wrap64 (bt a1 2)) * 256)))) + (wrap64 (bt a1 3)))))) ≤ (a1.size : Int)) = true := decide_eq_true c15
          replace H := Option.bind_eq_some_iff.mp H
          obtain ⟨t180, A160, H⟩ := H
          replace H : (some (a1.extract 4 ((wrap64 (4 + (wrap64 ((wrap64 ((wrap64 ((wrap64 ((wrap64 (bt a1 0)) * 16777216)) + (wrap64 ((wrap64 (bt a1 1)) * 65536)))) + (wrap64 ((wrap64 (bt a1 2)) * 256)))) + (wrap64 (bt a1 3)))))) : Int).toNat, (t180.toList == a1.toList))) = some (r1, r2) := H
          have A16 := Aside0.mk A160
          clear A160
          simp only [Option.some.injEq, Prod.mk.injEq] at H
          obtain ⟨rfl, rfl⟩ := H
          have p5 : 0 ≤ (0 : Int) := (by omega)
          have q5 : 0 < a1.size := (by have : (0 : Int) < (a1.size : Int) := of_decide_eq_true (by first | (with_reducible assumption) | assumption); omega)
          have hx5 : ∀ h : 0 < a1.size, ((a1[0]'h).toNat : Int) = bt a1 0 := bt_at a1 0
          clear p5
          have qi5 : (0 < (a1.size : Int)) = True := eq_true (of_decide_eq_true (by first | (with_reducible assumption) | assumption))
          replace q5 := eq_true q5
          have p7 : 0 ≤ (1 : Int) := (by omega)
          have q7 : 1 < a1.size := (by have : (1 : Int) < (a1.size : Int) := of_decide_eq_true (by first | (with_reducible assumption) | assumption); omega)
          have hx7 : ∀ h : 1 < a1.size, ((a1[1]'h).toNat : Int) = bt a1 1 := bt_at a1 1
          clear p7
          have qi7 : (1 < (a1.size : Int)) = True := eq_true (of_decide_eq_true (by first | (with_reducible assumption) | assumption))
          replace q7 := eq_true q7
          have p9 : 0 ≤ (2 : Int) := (by omega)
          have q9 : 2 < a1.size := (by have : (2 : Int) < (a1.size : Int) := of_decide_eq_true (by first | (with_reducible assumption) | assumption); omega)
          have hx9 : ∀ h : 2 < a1.size, ((a1[2]'h).toNat : Int) = bt a1 2 := bt_at a1 2
          clear p9
          have qi9 : (2 < (a1.size : Int)) = True := eq_true (of_decide_eq_true (by first | (with_reducible assumption) | assumption))
          replace q9 := eq_true q9
          have p11 : 0 ≤ (3 : Int) := (by omega)
          have q11 : 3 < a1.size := (by have : (3 : Int) < (a1.size : Int) := of_decide_eq_true (by first | (with_reducible assumption) | assumption); omega)
          have hx11 : ∀ h : 3 < a1.size, ((a1[3]'h).toNat : Int) = bt a1 3 := bt_at a1 3
          clear p11
          have qi11 : (3 < (a1.size : Int)) = True := eq_true (of_decide_eq_true (by first | (with_reducible assumption) | assumption))
          replace q11 := eq_true q11
          go_enter Tryd.func54, Tryd.ntmps54
          go_wp2_with (first | (go_at_call 49; (with_reducible refine (corncribref03_Plain.calls k a0 (a1.extract 4 ((wrap64 (4 + (wrap64 ((wrap64 ((wrap64 ((wrap64 ((wrap64 (bt a1 0)) * 16777216)) + (wrap64 ((wrap64 (bt a1 1)) * 65536)))) + (wrap64 ((wrap64 (bt a1 2)) * 256)))) + (wrap64 (bt a1 3)))))) : Int).toNat) t180 _ A16.out).mono ?_); rintro e w17 ⟨rfl, hb⟩; have n0_ := Aside0.mk (below_step (by repeat (first | (with_reducible first | exact HB.out | apply below_alloc | apply pw_below_drewN | apply below_drew1) | exact HB.out)) hb); clear HB; have HB := n0_; clear n0_; (try clear hb); (try clear hb2); (try clear hk); (try clear hi)))
          repeat (go_quiet (first | (go_at_call 49; (with_reducible refine (corncribref03_Plain.calls k a0 (a1.extract 4 ((wrap64 (4 + (wrap64 ((wrap64 ((wrap64 ((wrap64 ((wrap64 (bt a1 0)) * 16777216)) + (wrap64 ((wrap64 (bt a1 1)) * 65536)))) + (wrap64 ((wrap64 (bt a1 2)) * 256)))) + (wrap64 (bt a1 3)))))) : Int).toNat) t180 _ A16.out).mono ?_); rintro e w17 ⟨rfl, hb⟩; have n0_ := Aside0.mk (below_step (by repeat (first | (with_reducible first | exact HB.out | apply below_alloc | apply pw_below_drewN | apply below_drew1) | exact HB.out)) hb); clear HB; have HB := n0_; clear n0_; (try clear hb); (try clear hb2); (try clear hk); (try clear hi))); try go_wp2_with (first | (go_at_call 49; (with_reducible refine (corncribref03_Plain.calls k a0 (a1.extract 4 ((wrap64 (4 + (wrap64 ((wrap64 ((wrap64 ((wrap64 ((wrap64 (bt a1 0)) * 16777216)) + (wrap64 ((wrap64 (bt a1 1)) * 65536)))) + (wrap64 ((wrap64 (bt a1 2)) * 256)))) + (wrap64 (bt a1 3)))))) : Int).toNat) t180 _ A16.out).mono ?_); rintro e w17 ⟨rfl, hb⟩; have n0_ := Aside0.mk (below_step (by repeat (first | (with_reducible first | exact HB.out | apply below_alloc | apply pw_below_drewN | apply below_drew1) | exact HB.out)) hb); clear HB; have HB := n0_; clear n0_; (try clear hb); (try clear hb2); (try clear hk); (try clear hi))))
          go_ret2
          exact ⟨by first | rfl | (simp [errW_none, errW_some] <;> rfl) | (simp [*, errW_none, errW_some] <;> rfl), by repeat (first | (with_reducible first | exact HB.out | apply below_alloc | apply pw_below_drewN | apply below_drew1) | exact HB.out)⟩
         ·rw [if_neg c15] at H
          exact absurd H (by simp)
        ·rw [if_neg c14] at H
         exact absurd H (by simp)
     ·rw [if_neg c10] at H
      exact absurd H (by simp)
    ·rw [if_neg c8] at H
     exact absurd H (by simp)
   ·rw [if_neg c6] at H
    exact absurd H (by simp)
  ·rw [if_neg c4] at H
   exact absurd H (by simp)

end Go.Proofs.YtegmmefijihdeaaDoor.PS
