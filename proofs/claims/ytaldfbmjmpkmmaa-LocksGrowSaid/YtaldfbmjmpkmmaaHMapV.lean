/- Maps keyed by strings whose elements are plain values, told as functions from keys. (A template: put the seat's Name for Ytaldfbmjmpkmmaa.) -/
import Derived.Test.YtaldfbmjmpkmmaaHMap
namespace Go.Proofs.Ytaldfbmjmpkmmaa.Mk
open Go.RowKit Go.Maps Go.WideMaps
set_option linter.unusedVariables false
/-- At most n entries, sz of them; f tells each key's element. -/
def MapV (P : Program) (k : TypeId) (w : World) (b n sz : Nat) (f : List UInt8 → Option Value) : Prop :=
 ∃ D : DataW Value, w.ownsMap P k Rv b n D ∧ Maps.size D = sz ∧ (∀ s, Maps.has D (.string s) = (f s).isSome) ∧ ∀ s v, f s = some v → ∀ z, D.atKey (.string s) z = .held v
section
variable {P : Program} {k : TypeId} {w w' : World} {b n sz : Nat} {f : List UInt8 → Option Value}
theorem MapV.made (P : Program) (k : TypeId) (w : World) : MapV P k (w.alloc (.map #[] 0)) w.heap.size 0 0 (fun _ => none) :=
 ⟨.map [], World.ownsMap_made _ _ _ _, rfl, fun _ => rfl, fun _ _ h => by cases h⟩
theorem MapV.kept (h : MapV P k w b n sz f) {row : Option Nat} (hg : w.grownBy w' row) (hne : some b ≠ row) : MapV P k w' b n sz f := by
 obtain ⟨D, ho, h1, h2, h3⟩ := h
 exact ⟨D, ho.kept hg hne, h1, h2, h3⟩
theorem MapV.below (h : MapV P k w b n sz f) (hb : Below w.heap.size w w') : MapV P k w' b n sz f := h.kept (grownBy_of_below hb none) (by simp)
theorem MapV.lt (h : MapV P k w b n sz f) : b < w.heap.size := by
 obtain ⟨D, ho, _⟩ := h
 exact ho.lt
theorem MapV.ne (h : MapV P k w b n sz f) {a : Addr} {v : Value} (hc : w.cell? a = some v) : a.block ≠ b := by
 obtain ⟨D, ho, _⟩ := h
 exact owns_ne ho hc

/-- 'v, ok := m[key]'. -/
theorem MapV.look {ops : Array Oper} {rest : List Oper} {o : Oper} {a : Act} {Q : Exit → Act → World → Prop} (h : MapV P k w b n sz f) (hg : o.guard = none) (m x : Operand) (t e : TypeId) (hop : o.op = Op.lookup t m x true) (hk : P.underlying k = some .string)
 (ht : P.underlying t = some (.map k e)) {z : Value} (hz : (zeroValue e).run P w = .ok z w) (hm : a.eval m = .map (some b)) (s : ByteArray) (hx : a.eval x = .string s) (hs : s.size ≤ maxLen)
 (hK : wpList P ops Q rest (a.put o.dst (.tuple #[(f s.data.toList).getD z, .bool (f s.data.toList).isSome])) w) : wpList P ops Q (o :: rest) a w := by
 obtain ⟨D, ho, h1, h2, h3⟩ := h
 refine wpList_lookup_own_ok w hg m x t hop k e (string_keyed hk) ht Rv hz (.held z) [] rfl b n D hm ho _ (.string s.data.toList) hx (key_str hk hs) (fun v ps hv => ?_)
 rw [h2 s.data.toList]
 cases hf : f s.data.toList with
 | none =>
  rw [hf] at hK
  have hno : Maps.has D (.string s.data.toList) = false := by rw [h2, hf]; rfl
  rw [Maps.atKey_of_not_has hno] at hv
  have : v = z := by
   have := congrArg (fun q => q.map (·.1)) hv
   simpa [Rv] using this
  subst this
  exact hK
 | some u =>
  rw [hf] at hK
  rw [h3 _ u hf] at hv
  have : v = u := by
   have := congrArg (fun q => q.map (·.1)) hv
   simpa [Rv] using this
  subst this
  exact hK
/-- 'm[key] = val'. -/
theorem MapV.store {ops : Array Oper} {rest : List Oper} {o : Oper} {a : Act} {Q : Exit → Act → World → Prop} (h : MapV P k w b n sz f) (hg : o.guard = none) (m x y : Operand) (t e : TypeId) (hop : o.op = Op.mapUpdate t m x y) (hk : P.underlying k = some .string)
 (ht : P.underlying t = some (.map k e)) (hn : n < maxLen) (hm : a.eval m = .map (some b)) (s : ByteArray) (hx : a.eval x = .string s) (hs : s.size ≤ maxLen) (val : Value) (hy : a.eval y = val)
 (hK : ∀ w', MapV P k w' b (n + 1) (if (f s.data.toList).isSome then sz else sz + 1) (fun q => if q = s.data.toList then some val else f q) → w.grownBy w' (some b) → wpList P ops Q rest (a.put o.dst undef) w') : wpList P ops Q (o :: rest) a w := by
 obtain ⟨D, ho, h1, h2, h3⟩ := h
 refine wpList_mapUpdate_own w hg m x y t hop k e (string_keyed hk) ht Rv b n D hm ho hn _ val (.string s.data.toList) hx hy (key_str hk hs) (.held val) [] rfl (fun w' ho' hg' => hK w' ?_ hg')
 refine ⟨_, ho', ?_, fun q => ?_, fun q v hq zz => ?_⟩
 ·rw [Maps.size_put (ho.tidy (string_keyed hk)), h2, h1]
 ·by_cases e1 : q = s.data.toList
  ·rw [e1, has_put_same ho.isMap (show WideAt.IsKeyLit (Lit.string s.data.toList) from trivial)]
   simp
  ·rw [has_put_other (fun h => e1 (by injection h)), h2]
   simp [e1]
 ·by_cases e1 : q = s.data.toList
  ·have hq' : some val = some v := by simpa [e1] using hq
   cases hq'
   rw [e1]
   exact atKey_put_same ho.isMap (show WideAt.IsKeyLit (Lit.string s.data.toList) from trivial) _ _
  ·have hq' : f q = some v := by simpa [e1] using hq
   rw [atKey_put_other (fun h => e1 (by injection h))]
   exact h3 q v hq' zz
/-- 'len(m)'. -/
theorem MapV.len {ops : Array Oper} {rest : List Oper} {o : Oper} {a : Act} {Q : Exit → Act → World → Prop} (h : MapV P k w b n sz f) (hg : o.guard = none) (m : Operand) (t e : TypeId) (hop : o.op = Op.call { callee := Callee.builtin Builtin.len, args := #[m], argTypes := #[t] })
 (ht : P.underlying t = some (.map k e)) (hm : a.eval m = .map (some b)) (hK : wpList P ops Q rest (a.put o.dst (.int .i64 sz)) w) : wpList P ops Q (o :: rest) a w := by
 obtain ⟨D, ho, h1, _⟩ := h
 exact wpList_len_own w hg m t hop k e ht Rv b n D hm ho (by rw [h1]; exact hK)
end
end Go.Proofs.Ytaldfbmjmpkmmaa.Mk
