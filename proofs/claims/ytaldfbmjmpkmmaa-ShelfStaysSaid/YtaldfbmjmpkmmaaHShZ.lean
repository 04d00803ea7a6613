/- How the arguments of the shelf's laws are read; ShelfStays at them. -/
import Derived.Test.YtaldfbmjmpkmmaaHShY
namespace Go.Proofs.Ytaldfbmjmpkmmaa.PL
open Go.RowKit Go.Proofs.YtaldfbmjmpkmmaaW.PrintWords Go.Proofs.YtaldfbmjmpkmmaaW.PrintLast Go.Proofs.YtaldfbmjmpkmmaaW.PrintMore Go.Proofs.Ytaldfbmjmpkmmaa.Read
set_option linter.unusedVariables false
set_option maxRecDepth 100000
theorem sizesOk_rec {r : Rec} (h : okRec r) : sizesOk r := by
  unfold okRec at h
  unfold sizesOk
  omega
theorem openPlace : Opens Try.prog (Kd.pair Kd.string (Kd.int .i64)) 24 (fun x => x.1.size ≤ maxLen) :=
  opens_good (opens_struct Try.underlying24 (by kernel_rfl) (parts_cons rfl (opens_string Try.underlying9 (by kernel_rfl)) (parts_one rfl openI))) (fun _ h => Nat.le_trans h.1 (by decide))
theorem place_value {W : World} {x : ByteArray × Int} {v : Value} (h : (Kd.pair Kd.string (Kd.int .i64)).K W x v.cells.toList) : v = .agg #[.string x.1, .int .i64 x.2] := by
  obtain ⟨c0, c1, e, rfl, rfl⟩ := h
  cases v <;> simp [Value.cells] at e
  rename_i cs
  congr 1
  exact Array.toList_inj.1 (by simpa using e)
theorem shelfStays_walk (w : World) {l : List Rec} {A0 : Option Addr} {c0 : Nat} (hc0 : l.length ≤ c0) (hr0 : Kd.C k35 w A0 l.length l) (g0 : l.length * 120 ≤ 140737488351232 ∧ ∀ r, r ∈ l → okRec r) (x : ByteArray × Int) (hks : x.1.size ≤ maxLen) {more : List Rec} {A1 : Option Addr} {c1 : Nat} (hc1 : more.length ≤ c1) (hr1 : Kd.C k35 w A1 more.length more) (g1 : more.length * 120 ≤ 140737488351232 ∧ ∀ r, r ∈ more → okRec r) :
    Calls Try.prog 3 #[.slice A0 l.length c0, .agg #[.string x.1, .int .i64 x.2], .slice A1 more.length c1] w fun e w' => e = .returned (.bool true) ∧ Below w.heap.size w w' :=
  shelfStays_core w hr0 (fun r hr => sizesOk_rec (g0.2 r hr)) x.1 hks x.2 hr1 (fun r hr => sizesOk_rec (g1.2 r hr))
end Go.Proofs.Ytaldfbmjmpkmmaa.PL
