/- Comparisons of strings as the walk spells them: each by '<' alone. -/
import Derived.Laws.Strings
import Derived.WalkKit
namespace Go.Proofs.Ytaldfbmjmpkmmaa.Mk
open Go.RowKit
theorem bytesLess_or_eq : ∀ (a b : List UInt8), (Op.bytesLess a b || a == b) = !Op.bytesLess b a
 | [], [] => by simp [Op.bytesLess]
 | [], b :: y => by simp [Op.bytesLess]
 | a :: x, [] => by simp [Op.bytesLess]
 | a :: x, b :: y => by
  have ih := bytesLess_or_eq x y
  simp only [Op.bytesLess]
  by_cases h : a = b
  ·subst h
   have h1 : decide (a < a) = false := by simp
   simp only [h1, Bool.false_or, beq_self_eq_true, Bool.true_and]
   rw [← ih]
   simp
  ·have h2 : (a == b) = false := by simpa using h
   have h3 : (b == a) = false := by simpa using fun e => h e.symm
   have h4 : (a :: x == b :: y) = false := by simp [h]
   rw [h2, h3, h4]
   simp only [Bool.false_and, Bool.or_false]
   by_cases h5 : a < b
   ·have h6 : ¬ b < a := by intro h7; exact absurd (UInt8.lt_trans h5 h7) (UInt8.lt_irrefl _)
    simp [h5, h6]
   ·have h6 : b < a := by
     rcases UInt8.lt_or_lt_of_ne h with h7 | h7
     ·exact absurd h7 h5
     ·exact h7
    simp [h5, h6]
theorem str_leq (t : TypeId) (a b : ByteArray) : binOp .leq t (.string a) (.string b) = pure (.bool (!(Op.bytesLess b.toList a.toList))) := by
 simp [binOp, Op.stringOp, bytesLess_or_eq]
theorem str_gtr (t : TypeId) (a b : ByteArray) : binOp .gtr t (.string a) (.string b) = pure (.bool (Op.bytesLess b.toList a.toList)) := by
 have h := bytesLess_or_eq a.toList b.toList
 simp only [binOp, Op.stringOp, h, Bool.not_not]
theorem str_geq (t : TypeId) (a b : ByteArray) : binOp .geq t (.string a) (.string b) = pure (.bool (!(Op.bytesLess a.toList b.toList))) := by
 simp [binOp, Op.stringOp]
end Go.Proofs.Ytaldfbmjmpkmmaa.Mk
