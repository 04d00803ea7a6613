/- Calls of a transaction, as the law's argument: how they are read. -/
import Derived.Test.YteibcojjbcihbaaHRead
import Derived.Test.YteibcojjbcihbaaProg
namespace Go.Proofs.Yteibcojjbcihbaa.Txn
open Go.RowKit Go.Proofs.YteibcojjbcihbaaW.PrintWords Go.Proofs.YteibcojjbcihbaaW.PrintLast Go.Proofs.YteibcojjbcihbaaW.PrintMore Go.Proofs.Yteibcojjbcihbaa.Read
set_option linter.unusedVariables false
structure S30 where
  f0 : Int
  f1 : ByteArray
  f2 : ByteArray
  f3 : Bool
def z30 : S30 := ⟨0, ⟨#[]⟩, ⟨#[]⟩, false⟩
instance : Inhabited S30 := ⟨z30⟩
def k30 : Kd S30 := Kd.iso (Kd.pair (Kd.int .i64) (Kd.pair Kd.string (Kd.pair Kd.string Kd.bool))) (fun x : S30 => (x.f0, x.f1, x.f2, x.f3))
theorem k30_heap : Kd.Heap k30 := Kd.heap_iso _ (Kd.heap_pair (Kd.heap_int .i64) (Kd.heap_pair Kd.heap_string (Kd.heap_pair Kd.heap_string Kd.heap_bool)))
theorem k30_open {w : World} {x : S30} {cs : List Value} (h : k30.K w x cs) : cs = [.int .i64 x.f0, .string x.f1, .string x.f2, .bool x.f3] := by
  obtain ⟨_, _, rfl, rfl, ⟨_, _, rfl, rfl, ⟨_, _, rfl, rfl, rfl⟩⟩⟩ := h
  exact rfl
def rd30 (xs : List S30) (i : Int) : S30 := xs.getD i.toNat z30
theorem at30 {w : World} {A : Option Addr} {n : Nat} {xs : List S30} (h : Kd.C k30 w A n xs) (i : Int) (h0 : 0 ≤ i) (h1 : i < n) : ∃ ad, A = some ad ∧ w.cell? (ad.add (i.toNat * 4)) = some (.int .i64 (rd30 xs i).f0) ∧ w.cell? ⟨(ad.add (i.toNat * 4)).block, (ad.add (i.toNat * 4)).off + 1, none⟩ = some (.string (rd30 xs i).f1) ∧
    w.cell? ⟨(ad.add (i.toNat * 4)).block, (ad.add (i.toNat * 4)).off + 2, none⟩ = some (.string (rd30 xs i).f2) ∧ w.cell? ⟨(ad.add (i.toNat * 4)).block, (ad.add (i.toNat * 4)).off + 3, none⟩ = some (.bool (rd30 xs i).f3) := by
  obtain ⟨ad, c, e, _, hK, hc0⟩ := Kd.C_get h z30 i h0 h1
  have hc : ∀ j u, c[j]? = some u → w.cell? (ad.add (i.toNat * 4 + j)) = some u := hc0
  obtain rfl := k30_open hK
  exact ⟨ad, e, hc 0 _ rfl, by rw [← add_field _ _ 1 (by omega)]; exact hc 1 _ rfl, by rw [← add_field _ _ 2 (by omega)]; exact hc 2 _ rfl, by rw [← add_field _ _ 3 (by omega)]; exact hc 3 _ rfl⟩
theorem rd30_nat (l : List S30) (k : Nat) (h : k < l.length) : rd30 l (k : Int) = l[k] := by
  unfold rd30
  rw [Int.toNat_natCast, List.getD_eq_getElem?_getD, List.getElem?_eq_getElem h, Option.getD_some]
def okStr (s : ByteArray) : Prop := s.size ≤ 140737488351232
def okAct (a : S30) : Prop := okStr a.f1 ∧ okStr a.f2
theorem openI : Opens Try.prog (Kd.int .i64) 3 (fun _ => True) := opens_good (opens_int Try.underlying3 (by kernel_rfl)) (fun _ _ => trivial)
theorem openS : Opens Try.prog Kd.string 9 okStr := opens_string Try.underlying9 (by kernel_rfl)
theorem openB : Opens Try.prog Kd.bool 4 (fun _ => True) := opens_bool Try.underlying4 (by kernel_rfl)
theorem open30 : Opens Try.prog k30 30 okAct :=
  opens_good (opens_iso (fun x => (⟨x.1, x.2.1, x.2.2.1, x.2.2.2⟩ : S30)) (fun _ => rfl)
    (opens_struct Try.underlying30 (by kernel_rfl) (parts_cons rfl openI (parts_cons rfl openS (parts_cons rfl openS (parts_one rfl openB)))))) (fun _ h => ⟨h.2.1, h.2.2.1⟩)
theorem open22 : Opens Try.prog (Kd.slice 30 k30) 22 (fun l => l.length * 48 ≤ 140737488351232 ∧ ∀ r, r ∈ l → okAct r) := opens_slice Try.underlying22 (by kernel_rfl) (by kernel_rfl) open30
theorem list_value {α : Type} {d : Kd α} {W : World} {t : Nat} {l : List α} {a : Option Addr} {len cap : Nat} (h : (Kd.slice t d).K W l (Value.slice a len cap).cells.toList) : len = l.length ∧ l.length ≤ cap ∧ d.C W a l.length l := by
  obtain ⟨A, c, e, h1, h2⟩ := h
  simp [Value.cells] at e
  obtain ⟨rfl, rfl, rfl⟩ := e
  exact ⟨rfl, h1, h2⟩
end Go.Proofs.Yteibcojjbcihbaa.Txn
