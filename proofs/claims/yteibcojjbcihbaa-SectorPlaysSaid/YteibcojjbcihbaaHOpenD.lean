/- How the arguments of the device's laws are read. -/
import Derived.Test.YteibcojjbcihbaaHActT
namespace Go.Proofs.Yteibcojjbcihbaa.Sec
open Go.RowKit Go.Proofs.YteibcojjbcihbaaW.PrintWords Go.Proofs.Yteibcojjbcihbaa.Read
open Go.Proofs.Yteibcojjbcihbaa.Txn (openI openS openB okStr list_value)
theorem open81 : Opens Try.prog (Kd.slice 4 Kd.bool) 81 (fun _ => True) := opens_good (opens_slice (B := 1) Try.underlying81 (by kernel_rfl) (by kernel_rfl) openB) (fun _ _ => trivial)
theorem open57 : Opens Try.prog (Kd.slice 3 (Kd.int .i64)) 57 (fun _ => True) := opens_good (opens_slice (B := 8) Try.underlying57 (by kernel_rfl) (by kernel_rfl) openI) (fun _ _ => trivial)
theorem open40 : Opens Try.prog (Kd.slice 9 Kd.string) 40 (fun l => ∀ s, s ∈ l → okStr s) := opens_good (opens_slice (B := 16) Try.underlying40 (by kernel_rfl) (by kernel_rfl) openS) (fun _ h => h.2)
end Go.Proofs.Yteibcojjbcihbaa.Sec
