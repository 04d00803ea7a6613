/- VoteAnswers' row: its letter opened, its walk at it. -/
import Derived.Test.YtaldfbmjmpkmmaaHVaA
import Derived.Test.YtaldfbmjmpkmmaaM91f659
namespace Go.Proofs.Ytaldfbmjmpkmmaa.PL
open Go.RowKit Go.Proofs.YtaldfbmjmpkmmaaW.PrintWords Go.Proofs.Ytaldfbmjmpkmmaa.Read
set_option linter.unusedVariables false
set_option maxRecDepth 100000
theorem openLet : Opens Try.prog (Kd.pair (Kd.int .i64) (Kd.pair (Kd.int .i64) (Kd.pair (Kd.int .i64) (Kd.pair (Kd.int .i64) (Kd.pair (Kd.int .i64) (Kd.pair (Kd.int .i64) (Kd.pair Kd.string (Kd.pair (Kd.slice 9 Kd.string) (Kd.slice 56 k56))))))))) 46 (fun x => x.2.2.2.2.2.2.2.1.length * 16 ≤ 140737488351232 ∧ x.2.2.2.2.2.2.2.2.length * 40 ≤ 140737488351232) :=
 opens_good (opens_struct Try.underlying46 (by kernel_rfl) (parts_cons rfl openI (parts_cons rfl openI (parts_cons rfl openI (parts_cons rfl openI (parts_cons rfl openI (parts_cons rfl openI (parts_cons rfl openS (parts_cons rfl open22 (parts_one rfl open23)))))))))) (fun _ h => ⟨h.2.2.2.2.2.2.2.1, h.2.2.2.2.2.2.2.2⟩)
theorem let_value {W : World} {x : Int × Int × Int × Int × Int × Int × ByteArray × List ByteArray × List S56} {v : Value} (h : (Kd.pair (Kd.int .i64) (Kd.pair (Kd.int .i64) (Kd.pair (Kd.int .i64) (Kd.pair (Kd.int .i64) (Kd.pair (Kd.int .i64) (Kd.pair (Kd.int .i64) (Kd.pair Kd.string (Kd.pair (Kd.slice 9 Kd.string) (Kd.slice 56 k56))))))))).K W x v.cells.toList) :
 ∃ A7 c7 A8 c8, v = .agg #[.int .i64 x.1, .int .i64 x.2.1, .int .i64 x.2.2.1, .int .i64 x.2.2.2.1, .int .i64 x.2.2.2.2.1, .int .i64 x.2.2.2.2.2.1, .string x.2.2.2.2.2.2.1, .slice A7 x.2.2.2.2.2.2.2.1.length c7, .slice A8 x.2.2.2.2.2.2.2.2.length c8] ∧
 x.2.2.2.2.2.2.2.1.length ≤ c7 ∧ Kd.string.C W A7 x.2.2.2.2.2.2.2.1.length x.2.2.2.2.2.2.2.1 ∧ x.2.2.2.2.2.2.2.2.length ≤ c8 ∧ k56.C W A8 x.2.2.2.2.2.2.2.2.length x.2.2.2.2.2.2.2.2 := by
 obtain ⟨c0, r0, e, rfl, ⟨c1, r1, rfl, rfl, ⟨c2, r2, rfl, rfl, ⟨c3, r3, rfl, rfl, ⟨c4, r4, rfl, rfl, ⟨c5, r5, rfl, rfl, ⟨c6, r6, rfl, rfl, ⟨c7, r7, rfl, ⟨A7, n7, rfl, h1, h2⟩, ⟨A8, n8, rfl, h3, h4⟩⟩⟩⟩⟩⟩⟩⟩⟩ := h
 refine ⟨A7, n7, A8, n8, ?_, h1, h2, h3, h4⟩
 cases v <;> simp [Value.cells] at e
 rename_i cs
 congr 1
 exact Array.toList_inj.1 (by simpa using e)
end Go.Proofs.Ytaldfbmjmpkmmaa.PL
