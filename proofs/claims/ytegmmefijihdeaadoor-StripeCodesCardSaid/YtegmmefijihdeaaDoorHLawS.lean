/- The stripe's laws walked: splits, codes, sizes. -/
import Derived.Test.YtegmmefijihdeaaDoorHWorksS
namespace Go.Proofs.YtegmmefijihdeaaDoor.PS
open Go.RowKit Go.Proofs.YtegmmefijihdeaaDoorW.PrintWords Go.Proofs.YtegmmefijihdeaaDoorW.PrintLast Go.Proofs.YtegmmefijihdeaaDoorW.PrintMore
set_option linter.unusedVariables false
theorem splits_walk (W : World) (x0 : Int) (g0 : (Lit.int .i64 x0).wf = true) (x1 : ByteArray) (g1 : x1.size ≤ 140737488351232) (x2 : Int) (g2 : (Lit.int .i64 x2).wf = true) :
    Calls Tryd.prog 3 #[.int .i64 x0, .string x1, .int .i64 x2] W fun e W' => e = .returned (.bool true) ∧ Below W.heap.size W W' :=
  corncriblaw03_StripeSplits.calls 3000 x0 x1 x2 true W (splits_pure x0 x1 x2)
theorem codes_walk (W : World) (x0 : Int) (g0 : (Lit.int .i64 x0).wf = true) (x1 : Int) (g1 : (Lit.int .i64 x1).wf = true) (x2 : ByteArray) (g2 : x2.size ≤ 140737488351232) :
    Calls Tryd.prog 5 #[.int .i64 x0, .int .i64 x1, .string x2] W fun e W' => e = .returned (.bool true) ∧ Below W.heap.size W W' := by
  obtain ⟨k, hk⟩ := codes_pure x0 x1 x2
  exact corncriblaw03_StripeCodes.calls k x0 x1 x2 true W hk
theorem sizes_walk (W : World) (x0 : Int) (g0 : (Lit.int .i64 x0).wf = true) (x1 : Int) (g1 : (Lit.int .i64 x1).wf = true) :
    Calls Tryd.prog 9 #[.int .i64 x0, .int .i64 x1] W fun e W' => e = .returned (.bool true) ∧ Below W.heap.size W W' :=
  corncriblaw03_StripeSizes.calls 10 x0 x1 true W (sizes_pure x0 x1 g0 g1)
end Go.Proofs.YtegmmefijihdeaaDoor.PS
