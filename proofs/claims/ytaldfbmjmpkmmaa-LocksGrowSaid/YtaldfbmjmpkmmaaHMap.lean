/- Maps whose elements are told as raw values; sets of strings. -/
import Derived.Maps.OwnSet
import Derived.Maps.RangeWalk
import Derived.Maps.Ext
import Derived.StringKeys
import Derived.WalkKit
namespace Go.Proofs.Ytaldfbmjmpkmmaa.Mk
open Go.RowKit Go.Maps Go.WideMaps
/-- An element told as the very value. -/
def Rv (v : Value) : Option (DataW Value × List MemPlace) := some (.held v, [])
theorem Rv_mk (v : Value) : Rv v = some (.held v, []) := rfl
/-- A map's block is no row. -/
theorem owns_ne {P : Program} {k : TypeId} {R : Value → Option (DataW Value × List MemPlace)} {w : World} {b n : Nat} {D : DataW Value} (h : w.ownsMap P k R b n D) {a : Addr} {v : Value} (hc : w.cell? a = some v) : a.block ≠ b := by
 obtain ⟨es, clock, hb, _⟩ := h
 intro e
 subst e
 simp [World.cell?, hb] at hc
theorem cell_but {w w' : World} {b : Nat} (h : w.grownBy w' (some b)) {a : Addr} {v : Value} (hne : a.block ≠ b) (hc : w.cell? a = some v) : w'.cell? a = some v := by
 have := h.block a.block (World.block_lt_of_cell? w a hc) (fun e => hne (by injection e))
 exact (World.cell?_of_block this).trans hc
/-- A set of strings: what was put into it. -/
def SetIs (P : Program) (k : TypeId) (w : World) (b : Nat) (ks : List (List UInt8)) : Prop :=
 ∃ n, ∃ D : DataW Value, w.ownsMap P k unitElem b n D ∧ n ≤ ks.length ∧ ∀ s, Maps.has D (.string s) = ks.contains s
theorem SetIs.made (P : Program) (k : TypeId) (w : World) : SetIs P k (w.alloc (.map #[] 0)) w.heap.size [] :=
 ⟨0, .map [], World.ownsMap_made _ _ _ _, Nat.le_refl _, fun _ => rfl⟩
theorem SetIs.kept {P : Program} {k : TypeId} {w w' : World} {b : Nat} {ks : List (List UInt8)} (h : SetIs P k w b ks) {row : Option Nat} (hg : w.grownBy w' row) (hne : some b ≠ row) : SetIs P k w' b ks := by
 obtain ⟨n, D, ho, hn, hs⟩ := h
 exact ⟨n, D, ho.kept hg hne, hn, hs⟩
theorem SetIs.lt {P : Program} {k : TypeId} {w : World} {b : Nat} {ks : List (List UInt8)} (h : SetIs P k w b ks) : b < w.heap.size := by
 obtain ⟨n, D, ho, hn, hs⟩ := h
 exact ho.lt
theorem SetIs.ne {P : Program} {k : TypeId} {w : World} {b : Nat} {ks : List (List UInt8)} (h : SetIs P k w b ks) {a : Addr} {v : Value} (hc : w.cell? a = some v) : a.block ≠ b := by
 obtain ⟨n, D, ho, hn, hs⟩ := h
 exact owns_ne ho hc
theorem grownBy_of_below {w w1 : World} (h : Below w.heap.size w w1) (row : Option Nat) : w.grownBy w1 row := ⟨h.os, h.tape, h.output, h.size, fun i hi _ => h.block i hi⟩
theorem SetIs.below {P : Program} {k : TypeId} {w w' : World} {b : Nat} {ks : List (List UInt8)} (h : SetIs P k w b ks) (hb : Below w.heap.size w w') : SetIs P k w' b ks := h.kept (grownBy_of_below hb none) (by simp)
theorem has_step {D : DataW Value} (hm : IsMap D) {ks : List (List UInt8)} (h : ∀ s, Maps.has D (.string s) = ks.contains s) (x : List UInt8) (d : DataW Value) : ∀ s, Maps.has (D.put (.string x) d) (.string s) = (ks ++ [x]).contains s := by
 intro s
 by_cases e : s = x
 ·rw [e, has_put_same hm (show WideAt.IsKeyLit (Lit.string x) from trivial)]
  simp
 ·have hne : (Lit.string s) ≠ Lit.string x := fun h => e (by injection h)
  rw [has_put_other hne, h]
  simp [e]
theorem key_str {P : Program} {k : TypeId} (hk : P.underlying k = some .string) {s : ByteArray} (hs : s.size ≤ maxLen) : keyOf P k (.string s) = some (.string s.data.toList) := keyOf_string_mk hk hs

/-- The step of a range over a set of strings. -/
theorem next_set {P : Program} (w : World) {ops : Array Oper} {rest : List Oper} {o : Oper} {a : Act} {Q : Exit → Act → World → Prop} (hg : o.guard = none) (it : Operand) (hop : o.op = Op.next it false) (k : TypeId) (hk : P.underlying k = some .string)
 (b r n : Nat) (D : DataW Value) (left : Lit → Bool) (cnt : Nat) (hit : a.eval it = .pointer (some ⟨r, 0, none⟩)) (h : w.ranges P k unitElem b r n D left cnt)
 (hDone : cnt = 0 → (∀ kl, left kl = false) → wpList P ops Q rest (a.put o.dst (.tuple #[.bool false])) w)
 (hMore : ∀ (x : ByteArray) (w' : World) (cnt' : Nat), x.size ≤ maxLen → left (.string x.data.toList) = true → Maps.has D (.string x.data.toList) = true → w'.ranges P k unitElem b r n D (fun z => left z && !z.sameKey (.string x.data.toList)) cnt' → cnt' < cnt →
  w.grownBy w' (some r) → w'.heap.size = w.heap.size → (Instr.entry (.pointer (some ⟨r, 0, none⟩))).run P w' = .ok (.tuple #[.string x, .agg #[]]) w' → wpList P ops Q rest (a.put o.dst (.tuple #[.bool true, .string x, .agg #[]])) w') :
 wpList P ops Q (o :: rest) a w :=
 wpList_next_ranges w hg it hop k (string_keyed hk) unitElem Value.string (fun _ : Unit => Value.agg #[]) (fun _ _ hkey => by obtain ⟨x, rfl, _⟩ := string_of_keyOf hk hkey; exact ⟨x, rfl⟩) (fun _ _ hv => by obtain ⟨rfl, _⟩ := unitElem_inv hv; exact ⟨(), rfl⟩)
  b r n D left cnt hit h hDone (fun x _ kl y w' cnt' hkey hlk _ hat hrg hlt hgr hsz hen => by
   obtain ⟨x', ex, rfl, hwx⟩ := string_of_keyOf hk hkey
   cases ex
   exact hMore x w' cnt' hwx hlk (has_true_of_atKey hat) hrg hlt hgr hsz hen)
theorem sameKey_str (s x : List UInt8) : (Lit.string s).sameKey (.string x) = decide (s = x) := by
 by_cases e : s = x
 ·subst e
  simp [Lit.sameKey]
 ·rw [sameKey_ne (fun h => e (by injection h))]
  simp [e]
end Go.Proofs.Ytaldfbmjmpkmmaa.Mk
