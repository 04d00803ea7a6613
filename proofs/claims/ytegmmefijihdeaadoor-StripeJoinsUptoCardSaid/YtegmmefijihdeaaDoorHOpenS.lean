/- How the arguments of the stripe's laws are read. -/
import Derived.Test.YtegmmefijihdeaaDoorHRead
import Derived.Test.YtegmmefijihdeaaDoorProg
namespace Go.Proofs.YtegmmefijihdeaaDoor.Read
open Go.RowKit Go.Proofs.YtegmmefijihdeaaDoorW.PrintWords
set_option linter.unusedVariables false
theorem openStr : Opens Tryd.prog Kd.string 9 (fun s => s.size ≤ 140737488351232) := opens_string Tryd.underlying9 (by kernel_rfl)
theorem openTexts : Opens Tryd.prog (Kd.slice 9 Kd.string) 25 (fun l => l.length * 16 ≤ 140737488351232 ∧ ∀ s, s ∈ l → s.size ≤ 140737488351232) := opens_slice Tryd.underlying25 (by kernel_rfl) (by kernel_rfl) openStr
end Go.Proofs.YtegmmefijihdeaaDoor.Read
