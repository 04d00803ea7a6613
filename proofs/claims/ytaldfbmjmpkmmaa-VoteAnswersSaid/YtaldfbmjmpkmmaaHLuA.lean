/- corncribref07.Check of any letter, walked. -/
import Derived.Test.YtaldfbmjmpkmmaaM9e970c
import Derived.Test.YtaldfbmjmpkmmaaHRefP
import Derived.Test.YtaldfbmjmpkmmaaMf7495f
namespace Go.Proofs.Ytaldfbmjmpkmmaa.PL
open Go.RowKit Go.Proofs.YtaldfbmjmpkmmaaW.PrintWords Go.Proofs.YtaldfbmjmpkmmaaW.PrintLast Go.Proofs.YtaldfbmjmpkmmaaW.PrintMore
set_option linter.unusedVariables false
set_option linter.unusedSimpArgs false
set_option linter.unusedSectionVars false
theorem addr7_f (n : Int) : corncribref07_Address.f n = some (addrB n) := by
 unfold corncribref07_Address.f addrB
 by_cases h0 : 0 ≤ n
 ·by_cases h1 : n < 12
  ·rw [if_pos (by omega), if_pos h1]
   simp [h0, h1]
  ·by_cases h2 : 100 ≤ n
   ·rw [if_pos (by omega), if_neg h1, if_pos (by omega)]
    simp [h0, h1, h2]
   ·rw [if_pos (by omega), if_neg h1, if_neg (by omega)]
    simp [h1, h2]
 ·rw [if_neg (by omega), if_neg (by omega)]
  have : ¬ 100 ≤ n := by omega
  simp [h0, this]
def txn7B (n : Int) : Bool := !decide (n < 1) && !decide (1125899906842623 < n)
def stamp7B (n : Int) : Bool := !decide (n < 0) && !decide (1125899906842624 < n)
theorem txn7_f (n : Int) : corncribref07_Txn.f n = some (txn7B n) := by
 unfold corncribref07_Txn.f txn7B
 by_cases h : n < 1
 ·rw [if_neg (by omega)]; simp [h]
 ·rw [if_pos (by omega)]
  have : decide (n < 1) = false := decide_eq_false h
  rw [this]
  by_cases h2 : 1125899906842623 < n
  ·simp [h2]
  ·have h3 : n ≤ 1125899906842623 := by omega
   simp [h2, h3]
theorem stamp7_f (n : Int) : corncribref07_Stamp.f n = some (stamp7B n) := by
 unfold corncribref07_Stamp.f stamp7B
 by_cases h : n < 0
 ·rw [if_neg (by omega)]; simp [h]
 ·rw [if_pos (by omega)]
  have : decide (n < 0) = false := decide_eq_false h
  rw [this]
  by_cases h2 : 1125899906842624 < n
  ·simp [h2]
  ·have h3 : n ≤ 1125899906842624 := by omega
   simp [h2, h3]
def head7 (fr tw tx ts cd : Int) : Bool := addrB fr && (addrB tw && (txn7B tx && (stamp7B ts && (!decide (cd < 0) && !decide (4 < cd)))))
def one7 (l7 : List ByteArray) (l8 : List S56) : Bool := oneB l7 && l8.isEmpty
def bare7 (text : ByteArray) (l7 : List ByteArray) (l8 : List S56) : Bool := l7.isEmpty && (l8.isEmpty && text.toList.isEmpty)
def may7 (k cd : Int) (text : ByteArray) (l7 : List ByteArray) (l8 : List S56) : Bool :=
 if k = 1 then one7 l7 l8 && (text.toList.isEmpty && cd == 0)
 else if k = 2 then one7 l7 l8 && (decide (text.size ≤ 2052) && (text.toList.isEmpty || cd == 1))
 else if k = 3 then decide (l7.length ≤ 16) && (risingB l7 && (writesB l8 && (text.toList.isEmpty && cd == 0)))
 else if k = 4 then bare7 text l7 l8 && decide (cd ≤ 1)
 else if k = 5 ∨ k = 6 ∨ k = 7 then bare7 text l7 l8 && cd == 0
 else if k = 8 then bare7 text l7 l8 && decide (cd ≤ 2)
 else false
theorem let7_same (k fr tw tx ts cd : Int) (text : ByteArray) (l7 : List ByteArray) (l8 : List S56) : (head7 fr tw tx ts cd && may7 k cd text l7 l8) = letB k fr tw tx ts cd text l7 l8 := by
 unfold letB
 cases hh : headB fr tw tx ts cd with
 | false =>
  rw [Bool.false_and]
  have : head7 fr tw tx ts cd = false := by
   cases h7 : head7 fr tw tx ts cd with
   | false => rfl
   | true =>
    rw [← hh]
    unfold head7 txn7B stamp7B at h7
    simp only [Bool.and_eq_true] at h7
    obtain ⟨h1, h2, ⟨h3, h4⟩, ⟨h5, h6⟩, h8, -⟩ := h7
    unfold headB
    rw [h1, h2, h3, h4, h5, h6, h8]
    rfl
  rw [this, Bool.false_and]
 | true =>
  rw [Bool.true_and]
  unfold headB at hh
  simp only [Bool.and_eq_true] at hh
  obtain ⟨h1, h2, h3, h4, h5, h6, h8⟩ := hh
  have hcd : 0 ≤ cd := by simpa using h8
  have e7 : head7 fr tw tx ts cd = !decide (4 < cd) := by
   unfold head7 txn7B stamp7B
   rw [h1, h2, h3, h4, h5, h6, h8]
   simp
  rw [e7]
  by_cases k1 : k = 1
  ·subst k1
   unfold may7 kindB restB mostV keysV writV textV one7
   by_cases hc : cd = 0
   ·subst hc; cases oneB l7 <;> cases l8.isEmpty <;> cases text.toList.isEmpty <;> rfl
   ·have g1 : (cd == 0) = false := by simpa using hc
    have g2 : decide (0 < cd) = true := decide_eq_true (by omega)
    simp [g1, g2]
  ·by_cases k2 : k = 2
   ·subst k2
    unfold may7 kindB restB mostV keysV writV textV one7
    by_cases hc : 4 < cd
    ·have g1 : decide (4 < cd) = true := decide_eq_true hc
     simp [g1]
    ·have g1 : decide (4 < cd) = false := decide_eq_false hc
     simp [g1, Bool.and_assoc]
   ·by_cases k3 : k = 3
    ·subst k3
     unfold may7 kindB restB mostV keysV writV textV
     by_cases hc : cd = 0
     ·subst hc; simp [Bool.and_assoc]
     ·have g1 : (cd == 0) = false := by simpa using hc
      have g2 : decide (0 < cd) = true := decide_eq_true (by omega)
      simp [g1, g2]
    ·by_cases k4 : k = 4
     ·subst k4
      unfold may7 kindB restB mostV keysV writV textV bare7
      by_cases hc : cd ≤ 1
      ·have g1 : decide (4 < cd) = false := decide_eq_false (by omega)
       have g2 : decide (1 < cd) = false := decide_eq_false (by omega)
       simp [g1, g2, hc]
      ·have g2 : decide (1 < cd) = true := decide_eq_true (by omega)
       simp [g2, hc]
     ·by_cases k5 : k = 5 ∨ k = 6 ∨ k = 7
      ·have e8 : may7 k cd text l7 l8 = (bare7 text l7 l8 && cd == 0) := by unfold may7; rw [if_neg k1, if_neg k2, if_neg k3, if_neg k4, if_pos k5]
       have e9 : kindB k = true := by unfold kindB; simp; omega
       have e10 : mostV k = 0 := by unfold mostV; rw [if_neg k2, if_neg (by omega), if_neg k4]
       have e11 : keysV k l7 = l7.isEmpty := by unfold keysV; rw [if_neg (by omega), if_neg k3]
       have e12 : writV k l8 = l8.isEmpty := by unfold writV; rw [if_neg k3]
       have e13 : textV k cd text = text.toList.isEmpty := by unfold textV; rw [if_neg k2]
       unfold restB
       rw [e8, e9, e10, e11, e12, e13]
       unfold bare7
       by_cases hc : cd = 0
       ·subst hc; simp
       ·have g1 : (cd == 0) = false := by simpa using hc
        have g2 : decide (0 < cd) = true := decide_eq_true (by omega)
        simp [g1, g2]
      ·by_cases k8 : k = 8
       ·subst k8
        unfold may7 kindB restB mostV keysV writV textV bare7
        by_cases hc : cd ≤ 2
        ·have g1 : decide (4 < cd) = false := decide_eq_false (by omega)
         have g2 : decide (2 < cd) = false := decide_eq_false (by omega)
         simp [g1, g2, hc]
        ·have g2 : decide (2 < cd) = true := decide_eq_true (by omega)
         simp [g2, hc]
       ·have e8 : may7 k cd text l7 l8 = false := by unfold may7; rw [if_neg k1, if_neg k2, if_neg k3, if_neg k4, if_neg k5, if_neg k8]
        have e9 : kindB k = false := by unfold kindB; simp; omega
        rw [e8, e9]
        simp
end Go.Proofs.Ytaldfbmjmpkmmaa.PL
