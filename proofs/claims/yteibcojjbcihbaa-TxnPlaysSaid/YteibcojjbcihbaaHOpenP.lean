/- How TxnPlays' arguments are read. -/
import Derived.Test.YteibcojjbcihbaaHPlaysT
import Derived.Test.YteibcojjbcihbaaHActT
namespace Go.Proofs.Yteibcojjbcihbaa.PT
open Go.RowKit Go.Proofs.YteibcojjbcihbaaW.PrintWords Go.Proofs.Yteibcojjbcihbaa.Read
open Go.Proofs.Yteibcojjbcihbaa.Txn (openI)
def kBegun : Kd (Int × Int) := Kd.pair (Kd.int .i64) (Kd.int .i64)
theorem open44 : Opens Try.prog kBegun 44 (fun _ => True) :=
  opens_good (opens_struct Try.underlying44 (by kernel_rfl) (parts_cons rfl openI (parts_one rfl openI))) (fun _ _ => trivial)
theorem begun_value {W : World} {x : Int × Int} {v : Value} (h : kBegun.K W x v.cells.toList) : v = .agg #[.int .i64 x.1, .int .i64 x.2] := by
  obtain ⟨_, _, e, rfl, rfl⟩ := h
  cases v <;> simp [Value.cells] at e
  rename_i cs
  congr 1
  exact Array.toList_inj.1 (by simpa using e)

end Go.Proofs.Yteibcojjbcihbaa.PT
