/- How the code of StripeLinear is read. -/
import Derived.Test.YtegmmefijihdeaaDoorHOpenS
namespace Go.Proofs.YtegmmefijihdeaaDoor.Read
open Go.RowKit Go.Proofs.YtegmmefijihdeaaDoorW.PrintWords
set_option linter.unusedVariables false
def kCode : Kd (Int × Int) := Kd.pair (Kd.int .i64) (Kd.int .i64)
theorem openInt : Opens Tryd.prog (Kd.int .i64) 3 (fun a => (Lit.int .i64 a).wf = true) := opens_int Tryd.underlying3 (by kernel_rfl)
theorem openCode : Opens Tryd.prog kCode 44 (fun x => (Lit.int .i64 x.1).wf = true ∧ (Lit.int .i64 x.2).wf = true) :=
  opens_good (opens_struct Tryd.underlying44 (by kernel_rfl) (parts_cons rfl openInt (parts_one rfl openInt))) (fun _ h => h)
theorem code_value {W : World} {x : Int × Int} {v : Value} (h : kCode.K W x v.cells.toList) {p : Prop} (_ : p) : v = .agg #[.int .i64 x.1, .int .i64 x.2] := by
  obtain ⟨_, _, e, rfl, rfl⟩ := h
  cases v <;> simp [Value.cells] at e
  rename_i cs
  congr 1
  exact Array.toList_inj.1 (by simpa using e)
end Go.Proofs.YtegmmefijihdeaaDoor.Read
