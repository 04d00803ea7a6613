/- Maps from ints to strings, told as functions from keys. -/
import Derived.Test.YteibcojjbcihbaaHMap
import Derived.Test.YteibcojjbcihbaaProg
import Derived.Lib.SlKeysI
namespace Go.Proofs.Yteibcojjbcihbaa.Sec
open Go.RowKit Go.Maps Go.WideMaps Go.Proofs.Yteibcojjbcihbaa.Mk
set_option linter.unusedVariables false
/-- An element that is a string. -/
def Sv : Value → Option (DataW Value × List MemPlace)
  | .string s => some (.held (.string s), [])
  | _ => none
theorem Sv_inv {v : Value} {y : DataW Value × List MemPlace} (h : Sv v = some y) : ∃ s : ByteArray, v = .string s ∧ y = (.held (.string s), []) := by
  cases v <;> simp [Sv] at h
  rename_i s
  exact ⟨s, rfl, h.symm⟩
theorem keyed3 : Keyed Try.prog 3 := int_keyed Try.underlying3
theorem key3 {i : Int} (h : -9223372036854775808 ≤ i ∧ i ≤ 9223372036854775807) : keyOf Try.prog 3 (.int .i64 i) = some (.int .i64 i) := keyOf_int_mk Try.underlying3 (WalkArith.wf_i64 (by omega))
theorem zero9 (w : World) : (zeroValue 9).run Try.prog w = .ok (.string ⟨#[]⟩) w := by kernel_rfl
abbrev Cache := Int → Option ByteArray
def cput (f : Cache) (i : Int) (s : ByteArray) : Cache := fun q => if q = i then some s else f q
/-- At most N entries, sz of them. -/
def MapI (w : World) (b N sz : Nat) (f : Cache) : Prop :=
  ∃ D : DataW Value, w.ownsMap Try.prog 3 Sv b N D ∧ Maps.size D = sz ∧ (∀ i, Maps.has D (.int .i64 i) = (f i).isSome) ∧ ∀ i s, f i = some s → ∀ z, D.atKey (.int .i64 i) z = .held (.string s)
section
variable {w w' : World} {b N sz : Nat} {f : Cache}
theorem MapI.made (w : World) : MapI (w.alloc (.map #[] 0)) w.heap.size 0 0 (fun _ => none) :=
  ⟨.map [], World.ownsMap_made _ _ _ _, rfl, fun _ => rfl, fun _ _ h => by cases h⟩
theorem MapI.kept (h : MapI w b N sz f) {row : Option Nat} (hg : w.grownBy w' row) (hne : some b ≠ row) : MapI w' b N sz f := by
  obtain ⟨D, ho, h1, h2, h3⟩ := h
  exact ⟨D, ho.kept hg hne, h1, h2, h3⟩
theorem MapI.below (h : MapI w b N sz f) (hb : Below w.heap.size w w') : MapI w' b N sz f := h.kept (grownBy_of_below hb none) (by simp)
theorem MapI.lt (h : MapI w b N sz f) : b < w.heap.size := by
  obtain ⟨D, ho, _⟩ := h
  exact ho.lt
theorem MapI.mono (h : MapI w b N sz f) {M : Nat} (hm : N ≤ M) : MapI w b M sz f := by
  obtain ⟨D, ho, h1⟩ := h
  exact ⟨D, ho.mono hm, h1⟩
theorem MapI.not_cells (h : MapI w b N sz f) {cells : Array Value} {t : TypeId} : w.heap[b]? ≠ some (.cells cells t (0, 0)) := by
  obtain ⟨D, ho, _⟩ := h
  obtain ⟨es, clock, hb, _⟩ := ho
  rw [hb]
  intro e
  injection e with e
  cases e
theorem MapI.sz_le (h : MapI w b N sz f) : sz ≤ N := by
  obtain ⟨D, ho, h1, _⟩ := h
  rw [← h1]
  exact ho.size_le
/-- 'v, ok := m[i]' -/
theorem MapI.look {ops : Array Oper} {rest : List Oper} {o : Oper} {a : Act} {Q : Exit → Act → World → Prop} (h : MapI w b N sz f) (hg : o.guard = none) (m x : Operand) (hop : o.op = Op.lookup 98 m x true)
    (hm : a.eval m = .map (some b)) (i : Int) (hx : a.eval x = .int .i64 i) (hi : -9223372036854775808 ≤ i ∧ i ≤ 9223372036854775807)
    (hK : wpList Try.prog ops Q rest (a.put o.dst (.tuple #[.string ((f i).getD ⟨#[]⟩), .bool (f i).isSome])) w) : wpList Try.prog ops Q (o :: rest) a w := by
  obtain ⟨D, ho, h1, h2, h3⟩ := h
  refine wpList_lookup_own_ok w hg m x 98 hop 3 9 keyed3 Try.underlying98 Sv (zero9 w) (.held (.string ⟨#[]⟩)) [] rfl b N D hm ho _ (.int .i64 i) hx (key3 hi) (fun v ps hv => ?_)
  rw [h2 i]
  obtain ⟨s, rfl, hy⟩ := Sv_inv hv
  cases hf : f i with
  | none =>
    rw [hf] at hK
    have hno : Maps.has D (.int .i64 i) = false := by rw [h2, hf]; rfl
    rw [Maps.atKey_of_not_has hno] at hy
    have : s = ⟨#[]⟩ := by
      have := congrArg (·.1) hy
      injection this with this
      injection this with this
      exact this.symm
    subst this
    exact hK
  | some u =>
    rw [hf] at hK
    rw [h3 _ u hf] at hy
    have : s = u := by
      have := congrArg (·.1) hy
      injection this with this
      injection this with this
      exact this.symm
    subst this
    exact hK
/-- 'm[i]', as an equation. -/
theorem MapI.get (h : MapI w b N sz f) (i : Int) (hi : -9223372036854775808 ≤ i ∧ i ≤ 9223372036854775807) (s : ByteArray) (hf : f i = some s) : (Instr.lookup 98 (.map (some b)) (.int .i64 i) false).run Try.prog w = .ok (.string s) w := by
  obtain ⟨D, ho, h1, h2, h3⟩ := h
  obtain ⟨v, ps, hrun, hR⟩ := ho.lookup keyed3 Try.underlying98 (zero9 w) (zd := .held (.string ⟨#[]⟩)) (zp := []) rfl (key3 hi)
  rw [h3 i s hf] at hR
  obtain ⟨s', rfl, hy⟩ := Sv_inv hR
  cases hy
  exact hrun
/-- 'm[i] = s' -/
theorem MapI.store {ops : Array Oper} {rest : List Oper} {o : Oper} {a : Act} {Q : Exit → Act → World → Prop} (h : MapI w b N sz f) (hg : o.guard = none) (m x y : Operand) (hop : o.op = Op.mapUpdate 98 m x y)
    (hn : N < maxLen) (hm : a.eval m = .map (some b)) (i : Int) (hx : a.eval x = .int .i64 i) (hi : -9223372036854775808 ≤ i ∧ i ≤ 9223372036854775807) (s : ByteArray) (hy : a.eval y = .string s)
    (hK : ∀ w', MapI w' b (N + 1) (if (f i).isSome then sz else sz + 1) (cput f i s) → w.grownBy w' (some b) → wpList Try.prog ops Q rest (a.put o.dst undef) w') : wpList Try.prog ops Q (o :: rest) a w := by
  obtain ⟨D, ho, h1, h2, h3⟩ := h
  refine wpList_mapUpdate_own w hg m x y 98 hop 3 9 keyed3 Try.underlying98 Sv b N D hm ho hn _ (.string s) (.int .i64 i) hx hy (key3 hi) (.held (.string s)) [] rfl (fun w' ho' hg' => hK w' ?_ hg')
  refine ⟨_, ho', ?_, fun q => ?_, fun q v hq zz => ?_⟩
  · rw [Maps.size_put (ho.tidy keyed3), h2, h1]
  · unfold cput
    by_cases e1 : q = i
    · rw [e1, has_put_same ho.isMap (show WideAt.IsKeyLit (Lit.int .i64 i) from trivial)]
      simp
    · rw [has_put_other (fun h => e1 (by injection h)), h2]
      simp [e1]
  · unfold cput at hq
    by_cases e1 : q = i
    · have hq' : some s = some v := by simpa [e1] using hq
      cases hq'
      rw [e1]
      exact atKey_put_same ho.isMap (show WideAt.IsKeyLit (Lit.int .i64 i) from trivial) _ _
    · have hq' : f q = some v := by simpa [e1] using hq
      rw [atKey_put_other (fun h => e1 (by injection h))]
      exact h3 q v hq' zz
/-- 'len(m)'. -/
theorem MapI.len {ops : Array Oper} {rest : List Oper} {o : Oper} {a : Act} {Q : Exit → Act → World → Prop} (h : MapI w b N sz f) (hg : o.guard = none) (m : Operand) (hop : o.op = Op.call { callee := Callee.builtin Builtin.len, args := #[m], argTypes := #[98] })
    (hm : a.eval m = .map (some b)) (hK : wpList Try.prog ops Q rest (a.put o.dst (.int .i64 sz)) w) : wpList Try.prog ops Q (o :: rest) a w := by
  obtain ⟨D, ho, h1, _⟩ := h
  exact wpList_len_own w hg m 98 hop 3 9 Try.underlying98 Sv b N D hm ho (by rw [h1]; exact hK)
/-- 'clear(m)' -/
theorem MapI.clear {ops : Array Oper} {rest : List Oper} {o : Oper} {a : Act} {Q : Exit → Act → World → Prop} (h : MapI w b N sz f) (hg : o.guard = none) (m : Operand) (hop : o.op = Op.call { callee := Callee.builtin Builtin.clear, args := #[m], argTypes := #[98] })
    (hm : a.eval m = .map (some b))
    (hK : ∀ w', MapI w' b 0 0 (fun _ => none) → w.grownBy w' (some b) → wpList Try.prog ops Q rest (a.put o.dst (.tuple #[])) w') : wpList Try.prog ops Q (o :: rest) a w := by
  obtain ⟨D, ho, h1, h2, h3⟩ := h
  obtain ⟨es, clock, hb, F, hs, hD⟩ := ho
  have hlt : b < w.heap.size := (Array.getElem?_eq_some_iff.1 hb).1
  have hrun : ∃ w', (Builtin.clear_ #[98] o.type #[.map (some b)]).run Try.prog w = .ok (.tuple #[]) w' ∧ w'.heap[b]? = some (.map #[] clock) ∧ w.grownBy w' (some b) := by
    refine ⟨{ w with heap := w.heap.setIfInBounds b (.map #[] clock) }, ?_, ?_, ?_⟩
    · simp [Builtin.clear_, run_underlying Try.underlying98, MapKept.run_getObj_map hb, MapKept.run_setObj_map _ hb, Result.andThen]
    · simp [hlt]
    · refine ⟨rfl, rfl, rfl, by simp, fun i hi hne => ?_⟩
      have : b ≠ i := fun e => hne (by rw [e])
      simp [Array.getElem?_setIfInBounds, this]
  obtain ⟨w', hr, hb', hg'⟩ := hrun
  refine wpList_plain hg fun K' hK' => ?_
  unfold Oper.wp
  simp [execOp, hop, resolve, invoke, builtin, hm, hr, Result.andThen]
  refine hK' _ _ (hK w' ⟨.map [], ⟨#[], clock, hb', ⟨by simp, MapKept.stamped_empty _, by simp⟩, Nat.le_refl _, rfl⟩, rfl, fun _ => rfl, fun _ _ h => by cases h⟩ hg')
end
end Go.Proofs.Yteibcojjbcihbaa.Sec
