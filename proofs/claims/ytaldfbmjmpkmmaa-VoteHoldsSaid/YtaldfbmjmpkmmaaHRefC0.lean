/- The document's Check of a record: its ranges. -/
-- IMPORTS
-- END IMPORTS
import Derived.Test.YtaldfbmjmpkmmaaM91f659
import Derived.Test.YtaldfbmjmpkmmaaM8c4092
import Derived.Test.YtaldfbmjmpkmmaaHRefP
import Derived.Test.YtaldfbmjmpkmmaaHCheck
namespace Go.Proofs.Ytaldfbmjmpkmmaa.PL
open Go.RowKit Go.Proofs.YtaldfbmjmpkmmaaW.PrintWords Go.Proofs.YtaldfbmjmpkmmaaW.PrintLast Go.Proofs.YtaldfbmjmpkmmaaW.PrintMore
attribute [local go_sem] Mk.str_leq Mk.str_gtr Mk.str_geq
set_option linter.unusedVariables false
set_option linter.unusedSimpArgs false
def stampB (a : Int) : Bool := decide (0 ≤ a) && decide (a ≤ 1125899906842624)
def txnB (a : Int) : Bool := decide (1 ≤ a) && decide (a ≤ 1125899906842623)
theorem stamp_f (a : Int) : corncribref07_Stamp.f a = some (stampB a) := by
  unfold corncribref07_Stamp.f stampB
  by_cases e : 0 ≤ a
  · rw [if_pos (by omega)]; simp [e]
  · rw [if_neg (by omega)]; simp [e]
theorem txn_f (a : Int) : corncribref07_Txn.f a = some (txnB a) := by
  unfold corncribref07_Txn.f txnB
  by_cases e : 1 ≤ a
  · rw [if_pos (by omega)]; simp [e]
  · rw [if_neg (by omega)]; simp [e]
theorem range_eq (a1 a2 a3 : Int) : rangeBad a1 a2 a3 = (!(a1 == 0 || txnB a1) || (!stampB a2 || (decide (a3 < 0) || decide (a3 ≥ 16)))) := by
  rw [Bool.eq_iff_iff]
  unfold rangeBad txnB stampB
  simp only [Bool.or_eq_true, Bool.not_eq_true', Bool.or_eq_false_iff, Bool.and_eq_false_iff, decide_eq_true_eq, decide_eq_false_iff_not, beq_eq_false_iff_ne]
  omega

end Go.Proofs.Ytaldfbmjmpkmmaa.PL
