/- Records, and lists of them, read as arguments. -/
import Derived.Test.YtaldfbmjmpkmmaaHRead
import Derived.Test.YtaldfbmjmpkmmaaPL0
namespace Go.Proofs.Ytaldfbmjmpkmmaa.PL
open Go.RowKit Go.Proofs.YtaldfbmjmpkmmaaW.PrintWords Go.Proofs.Ytaldfbmjmpkmmaa.Read
set_option linter.unusedVariables false
set_option maxRecDepth 100000
instance : Inhabited S56 := ⟨⟨⟨#[]⟩, ⟨#[]⟩, false⟩⟩
def okRec (r : S35) : Prop := r.f7.length * 16 ≤ 140737488351232 ∧ r.f8.length * 40 ≤ 140737488351232
theorem open62 : Opens Try.prog k56 56 (fun _ => True) :=
 opens_good (opens_iso (fun x => (⟨x.1, x.2.1, x.2.2⟩ : S56)) (fun _ => rfl)
  (opens_struct Try.underlying56 (by kernel_rfl) (parts_cons rfl (opens_string Try.underlying9 (by kernel_rfl)) (parts_cons rfl (opens_string Try.underlying9 (by kernel_rfl)) (parts_one rfl (opens_bool Try.underlying4 (by kernel_rfl))))))) (fun _ _ => trivial)
theorem openI : Opens Try.prog (Kd.int .i64) 3 (fun _ => True) := opens_good (opens_int Try.underlying3 (by kernel_rfl)) (fun _ _ => trivial)
theorem openS : Opens Try.prog Kd.string 9 (fun _ => True) := opens_good (opens_string Try.underlying9 (by kernel_rfl)) (fun _ _ => trivial)
theorem openB : Opens Try.prog Kd.bool 4 (fun _ => True) := opens_bool Try.underlying4 (by kernel_rfl)
theorem open22 : Opens Try.prog (Kd.slice 9 Kd.string) 32 (fun l => l.length * 16 ≤ 140737488351232) := opens_good (opens_slice Try.underlying32 (by kernel_rfl) (by kernel_rfl) openS) (fun _ h => h.1)
theorem open23 : Opens Try.prog (Kd.slice 56 k56) 33 (fun l => l.length * 40 ≤ 140737488351232) := opens_good (opens_slice Try.underlying33 (by kernel_rfl) (by kernel_rfl) open62) (fun _ h => h.1)
theorem open25 : Opens Try.prog k35 35 okRec :=
 opens_good (opens_iso (fun x => (⟨x.1, x.2.1, x.2.2.1, x.2.2.2.1, x.2.2.2.2.1, x.2.2.2.2.2.1, x.2.2.2.2.2.2.1, x.2.2.2.2.2.2.2.1, x.2.2.2.2.2.2.2.2⟩ : S35)) (fun _ => rfl)
  (opens_struct Try.underlying35 (by kernel_rfl) (parts_cons rfl openI (parts_cons rfl openI (parts_cons rfl openI (parts_cons rfl openI (parts_cons rfl openS (parts_cons rfl openS (parts_cons rfl openB (parts_cons rfl open22 (parts_one rfl open23)))))))))))
  (fun _ h => ⟨h.2.2.2.2.2.2.2.1, h.2.2.2.2.2.2.2.2⟩)
instance : Inhabited S35 := ⟨⟨0, 0, 0, 0, ⟨#[]⟩, ⟨#[]⟩, false, [], []⟩⟩
theorem open31 : Opens Try.prog (Kd.slice 35 k35) 22 (fun l => l.length * 120 ≤ 140737488351232 ∧ ∀ r, r ∈ l → okRec r) := opens_slice Try.underlying22 (by kernel_rfl) (by kernel_rfl) open25
/-- A record's value, from its cells. -/
theorem rec_value {W : World} {r : S35} {v : Value} (h : k35.K W r v.cells.toList) : ∃ A7 c7 A8 c8, v = .agg #[.int .i64 r.f0, .int .i64 r.f1, .int .i64 r.f2, .int .i64 r.f3, .string r.f4, .string r.f5, .bool r.f6, .slice A7 r.f7.length c7, .slice A8 r.f8.length c8] ∧
 r.f7.length ≤ c7 ∧ Kd.string.C W A7 r.f7.length r.f7 ∧ r.f8.length ≤ c8 ∧ k56.C W A8 r.f8.length r.f8 := by
 obtain ⟨A7, c7, A8, c8, e, h1, h2, h3, h4⟩ := k35_open h
 refine ⟨A7, c7, A8, c8, ?_, h1, h2, h3, h4⟩
 cases v <;> simp [Value.cells] at e
 rename_i cs
 congr 1
 exact Array.toList_inj.1 (by simpa using e)
theorem list_value {α : Type} {d : Kd α} {W : World} {t : Nat} {l : List α} {a : Option Addr} {len cap : Nat} (h : (Kd.slice t d).K W l (Value.slice a len cap).cells.toList) : len = l.length ∧ l.length ≤ cap ∧ d.C W a l.length l := by
 obtain ⟨A, c, e, h1, h2⟩ := h
 simp [Value.cells] at e
 obtain ⟨rfl, rfl, rfl⟩ := e
 exact ⟨rfl, h1, h2⟩
/-- A box with a record in it, cell by cell. -/
theorem rec_cells {w : World} {g : Nat} {t : Nat} {v0 v1 v2 v3 v4 v5 v6 v7 v8 : Value} (h : w.heap[g]? = some (.cells #[v0, v1, v2, v3, v4, v5, v6, v7, v8] t (0, 0))) :
 w.cell? ⟨g, 0, none⟩ = some v0 ∧ w.cell? ⟨g, 1, none⟩ = some v1 ∧ w.cell? ⟨g, 2, none⟩ = some v2 ∧ w.cell? ⟨g, 3, none⟩ = some v3 ∧ w.cell? ⟨g, 4, none⟩ = some v4 ∧ w.cell? ⟨g, 5, none⟩ = some v5 ∧ w.cell? ⟨g, 6, none⟩ = some v6 ∧
 w.cell? ⟨g, 7, none⟩ = some v7 ∧ w.cell? ⟨g, 8, none⟩ = some v8 :=
 ⟨(blk_cell h 0).trans rfl, (blk_cell h 1).trans rfl, (blk_cell h 2).trans rfl, (blk_cell h 3).trans rfl, (blk_cell h 4).trans rfl, (blk_cell h 5).trans rfl, (blk_cell h 6).trans rfl, (blk_cell h 7).trans rfl, (blk_cell h 8).trans rfl⟩
end Go.Proofs.Ytaldfbmjmpkmmaa.PL
