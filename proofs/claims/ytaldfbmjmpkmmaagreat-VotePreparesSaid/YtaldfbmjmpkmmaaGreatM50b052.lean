/- Texts of this proof, one behind the other (merged by a program of this session). -/
import Derived.Maps.OwnSet
import Derived.Maps.RangeWalk
import Derived.Maps.Ext
import Derived.StringKeys
import Derived.WalkKit
import Derived.Maps.Range
namespace Go.Proofs.YtaldfbmjmpkmmaaGreat.Mk
open Go.RowKit Go.Maps Go.WideMaps
/-- An element told as the very value. -/
def Rv (v : Value) : Option (DataW Value × List MemPlace) := some (.held v, [])
theorem Rv_mk (v : Value) : Rv v = some (.held v, []) := rfl
/-- A map's block is no row. -/
theorem owns_ne {P : Program} {k : TypeId} {R : Value → Option (DataW Value × List MemPlace)} {w : World} {b n : Nat} {D : DataW Value} (h : w.ownsMap P k R b n D) {a : Addr} {v : Value} (hc : w.cell? a = some v) : a.block ≠ b := by
 obtain ⟨es, clock, hb, _⟩ := h
 intro e
 subst e
 simp [World.cell?, hb] at hc
theorem cell_but {w w' : World} {b : Nat} (h : w.grownBy w' (some b)) {a : Addr} {v : Value} (hne : a.block ≠ b) (hc : w.cell? a = some v) : w'.cell? a = some v := by
 have := h.block a.block (World.block_lt_of_cell? w a hc) (fun e => hne (by injection e))
 exact (World.cell?_of_block this).trans hc
/-- A set of strings: what was put into it. -/
def SetIs (P : Program) (k : TypeId) (w : World) (b : Nat) (ks : List (List UInt8)) : Prop :=
 ∃ n, ∃ D : DataW Value, w.ownsMap P k unitElem b n D ∧ n ≤ ks.length ∧ ∀ s, Maps.has D (.string s) = ks.contains s
theorem SetIs.made (P : Program) (k : TypeId) (w : World) : SetIs P k (w.alloc (.map #[] 0)) w.heap.size [] :=
 ⟨0, .map [], World.ownsMap_made _ _ _ _, Nat.le_refl _, fun _ => rfl⟩
theorem SetIs.kept {P : Program} {k : TypeId} {w w' : World} {b : Nat} {ks : List (List UInt8)} (h : SetIs P k w b ks) {row : Option Nat} (hg : w.grownBy w' row) (hne : some b ≠ row) : SetIs P k w' b ks := by
 obtain ⟨n, D, ho, hn, hs⟩ := h
 exact ⟨n, D, ho.kept hg hne, hn, hs⟩
theorem SetIs.lt {P : Program} {k : TypeId} {w : World} {b : Nat} {ks : List (List UInt8)} (h : SetIs P k w b ks) : b < w.heap.size := by
 obtain ⟨n, D, ho, hn, hs⟩ := h
 exact ho.lt
theorem SetIs.ne {P : Program} {k : TypeId} {w : World} {b : Nat} {ks : List (List UInt8)} (h : SetIs P k w b ks) {a : Addr} {v : Value} (hc : w.cell? a = some v) : a.block ≠ b := by
 obtain ⟨n, D, ho, hn, hs⟩ := h
 exact owns_ne ho hc
theorem grownBy_of_below {w w1 : World} (h : Below w.heap.size w w1) (row : Option Nat) : w.grownBy w1 row := ⟨h.os, h.tape, h.output, h.size, fun i hi _ => h.block i hi⟩
theorem SetIs.below {P : Program} {k : TypeId} {w w' : World} {b : Nat} {ks : List (List UInt8)} (h : SetIs P k w b ks) (hb : Below w.heap.size w w') : SetIs P k w' b ks := h.kept (grownBy_of_below hb none) (by simp)
theorem has_step {D : DataW Value} (hm : IsMap D) {ks : List (List UInt8)} (h : ∀ s, Maps.has D (.string s) = ks.contains s) (x : List UInt8) (d : DataW Value) : ∀ s, Maps.has (D.put (.string x) d) (.string s) = (ks ++ [x]).contains s := by
 intro s
 by_cases e : s = x
 ·rw [e, has_put_same hm (show WideAt.IsKeyLit (Lit.string x) from trivial)]
  simp
 ·have hne : (Lit.string s) ≠ Lit.string x := fun h => e (by injection h)
  rw [has_put_other hne, h]
  simp [e]
theorem key_str {P : Program} {k : TypeId} (hk : P.underlying k = some .string) {s : ByteArray} (hs : s.size ≤ maxLen) : keyOf P k (.string s) = some (.string s.data.toList) := keyOf_string_mk hk hs
/-- Every key of a map keyed by strings is a string. -/
theorem key_str_inv {P : Program} {k : TypeId} (hk : P.underlying k = some .string) {key : Value} {kl : Lit} (h : keyOf P k key = some kl) : ∃ s : ByteArray, key = .string s ∧ kl = .string s.data.toList := by
 obtain ⟨s, h1, h2, _⟩ := string_of_keyOf hk h
 exact ⟨s, h1, h2⟩
/-- The step of a range over a set of strings. -/
theorem next_set {P : Program} (w : World) {ops : Array Oper} {rest : List Oper} {o : Oper} {a : Act} {Q : Exit → Act → World → Prop} (hg : o.guard = none) (it : Operand) (hop : o.op = Op.next it false) (k : TypeId) (hk : P.underlying k = some .string)
 (b r n : Nat) (D : DataW Value) (left : Lit → Bool) (cnt : Nat) (hit : a.eval it = .pointer (some ⟨r, 0, none⟩)) (h : w.ranges P k unitElem b r n D left cnt)
 (hDone : cnt = 0 → (∀ kl, left kl = false) → wpList P ops Q rest (a.put o.dst (.tuple #[.bool false])) w)
 (hMore : ∀ (x : ByteArray) (w' : World) (cnt' : Nat), x.size ≤ maxLen → left (.string x.data.toList) = true → Maps.has D (.string x.data.toList) = true → w'.ranges P k unitElem b r n D (fun z => left z && !z.sameKey (.string x.data.toList)) cnt' → cnt' < cnt →
  w.grownBy w' (some r) → w'.heap.size = w.heap.size → (Instr.entry (.pointer (some ⟨r, 0, none⟩))).run P w' = .ok (.tuple #[.string x, .agg #[]]) w' → wpList P ops Q rest (a.put o.dst (.tuple #[.bool true, .string x, .agg #[]])) w') :
 wpList P ops Q (o :: rest) a w :=
 wpList_next_ranges w hg it hop k (string_keyed hk) unitElem Value.string (fun _ : Unit => Value.agg #[]) (fun _ _ hkey => by obtain ⟨x, rfl, _⟩ := string_of_keyOf hk hkey; exact ⟨x, rfl⟩) (fun _ _ hv => by obtain ⟨rfl, _⟩ := unitElem_inv hv; exact ⟨(), rfl⟩)
  b r n D left cnt hit h hDone (fun x _ kl y w' cnt' hkey hlk _ hat hrg hlt hgr hsz hen => by
   obtain ⟨x', ex, rfl, hwx⟩ := string_of_keyOf hk hkey
   cases ex
   exact hMore x w' cnt' hwx hlk (has_true_of_atKey hat) hrg hlt hgr hsz hen)
theorem sameKey_str (s x : List UInt8) : (Lit.string s).sameKey (.string x) = decide (s = x) := by
 by_cases e : s = x
 ·subst e
  simp [Lit.sameKey]
 ·rw [sameKey_ne (fun h => e (by injection h))]
  simp [e]
end Go.Proofs.YtaldfbmjmpkmmaaGreat.Mk
namespace Go.Proofs.YtaldfbmjmpkmmaaGreat.Mk
open Go.RowKit Go.Maps Go.WideMaps
set_option linter.unusedVariables false
/-- At most n entries, sz of them; f tells each key's element. -/
def MapV (P : Program) (k : TypeId) (w : World) (b n sz : Nat) (f : List UInt8 → Option Value) : Prop :=
 ∃ D : DataW Value, w.ownsMap P k Rv b n D ∧ Maps.size D = sz ∧ (∀ s, Maps.has D (.string s) = (f s).isSome) ∧ ∀ s v, f s = some v → ∀ z, D.atKey (.string s) z = .held v
section
variable {P : Program} {k : TypeId} {w w' : World} {b n sz : Nat} {f : List UInt8 → Option Value}
theorem MapV.made (P : Program) (k : TypeId) (w : World) : MapV P k (w.alloc (.map #[] 0)) w.heap.size 0 0 (fun _ => none) :=
 ⟨.map [], World.ownsMap_made _ _ _ _, rfl, fun _ => rfl, fun _ _ h => by cases h⟩
theorem MapV.kept (h : MapV P k w b n sz f) {row : Option Nat} (hg : w.grownBy w' row) (hne : some b ≠ row) : MapV P k w' b n sz f := by
 obtain ⟨D, ho, h1, h2, h3⟩ := h
 exact ⟨D, ho.kept hg hne, h1, h2, h3⟩
theorem MapV.below (h : MapV P k w b n sz f) (hb : Below w.heap.size w w') : MapV P k w' b n sz f := h.kept (grownBy_of_below hb none) (by simp)
theorem MapV.lt (h : MapV P k w b n sz f) : b < w.heap.size := by
 obtain ⟨D, ho, _⟩ := h
 exact ho.lt
theorem MapV.ne (h : MapV P k w b n sz f) {a : Addr} {v : Value} (hc : w.cell? a = some v) : a.block ≠ b := by
 obtain ⟨D, ho, _⟩ := h
 exact owns_ne ho hc
theorem MapV.sz_le (h : MapV P k w b n sz f) : sz ≤ n := by
 obtain ⟨D, ho, h1, _⟩ := h
 rw [← h1]
 exact ho.size_le
/-- 'v, ok := m[key]'. -/
theorem MapV.look {ops : Array Oper} {rest : List Oper} {o : Oper} {a : Act} {Q : Exit → Act → World → Prop} (h : MapV P k w b n sz f) (hg : o.guard = none) (m x : Operand) (t e : TypeId) (hop : o.op = Op.lookup t m x true) (hk : P.underlying k = some .string)
 (ht : P.underlying t = some (.map k e)) {z : Value} (hz : (zeroValue e).run P w = .ok z w) (hm : a.eval m = .map (some b)) (s : ByteArray) (hx : a.eval x = .string s) (hs : s.size ≤ maxLen)
 (hK : wpList P ops Q rest (a.put o.dst (.tuple #[(f s.data.toList).getD z, .bool (f s.data.toList).isSome])) w) : wpList P ops Q (o :: rest) a w := by
 obtain ⟨D, ho, h1, h2, h3⟩ := h
 refine wpList_lookup_own_ok w hg m x t hop k e (string_keyed hk) ht Rv hz (.held z) [] rfl b n D hm ho _ (.string s.data.toList) hx (key_str hk hs) (fun v ps hv => ?_)
 rw [h2 s.data.toList]
 cases hf : f s.data.toList with
 | none =>
  rw [hf] at hK
  have hno : Maps.has D (.string s.data.toList) = false := by rw [h2, hf]; rfl
  rw [Maps.atKey_of_not_has hno] at hv
  have : v = z := by
   have := congrArg (fun q => q.map (·.1)) hv
   simpa [Rv] using this
  subst this
  exact hK
 | some u =>
  rw [hf] at hK
  rw [h3 _ u hf] at hv
  have : v = u := by
   have := congrArg (fun q => q.map (·.1)) hv
   simpa [Rv] using this
  subst this
  exact hK
/-- 'm[key] = val'. -/
theorem MapV.store {ops : Array Oper} {rest : List Oper} {o : Oper} {a : Act} {Q : Exit → Act → World → Prop} (h : MapV P k w b n sz f) (hg : o.guard = none) (m x y : Operand) (t e : TypeId) (hop : o.op = Op.mapUpdate t m x y) (hk : P.underlying k = some .string)
 (ht : P.underlying t = some (.map k e)) (hn : n < maxLen) (hm : a.eval m = .map (some b)) (s : ByteArray) (hx : a.eval x = .string s) (hs : s.size ≤ maxLen) (val : Value) (hy : a.eval y = val)
 (hK : ∀ w', MapV P k w' b (n + 1) (if (f s.data.toList).isSome then sz else sz + 1) (fun q => if q = s.data.toList then some val else f q) → w.grownBy w' (some b) → wpList P ops Q rest (a.put o.dst undef) w') : wpList P ops Q (o :: rest) a w := by
 obtain ⟨D, ho, h1, h2, h3⟩ := h
 refine wpList_mapUpdate_own w hg m x y t hop k e (string_keyed hk) ht Rv b n D hm ho hn _ val (.string s.data.toList) hx hy (key_str hk hs) (.held val) [] rfl (fun w' ho' hg' => hK w' ?_ hg')
 refine ⟨_, ho', ?_, fun q => ?_, fun q v hq zz => ?_⟩
 ·rw [Maps.size_put (ho.tidy (string_keyed hk)), h2, h1]
 ·by_cases e1 : q = s.data.toList
  ·rw [e1, has_put_same ho.isMap (show WideAt.IsKeyLit (Lit.string s.data.toList) from trivial)]
   simp
  ·rw [has_put_other (fun h => e1 (by injection h)), h2]
   simp [e1]
 ·by_cases e1 : q = s.data.toList
  ·have hq' : some val = some v := by simpa [e1] using hq
   cases hq'
   rw [e1]
   exact atKey_put_same ho.isMap (show WideAt.IsKeyLit (Lit.string s.data.toList) from trivial) _ _
  ·have hq' : f q = some v := by simpa [e1] using hq
   rw [atKey_put_other (fun h => e1 (by injection h))]
   exact h3 q v hq' zz
/-- 'len(m)'. -/
theorem MapV.len {ops : Array Oper} {rest : List Oper} {o : Oper} {a : Act} {Q : Exit → Act → World → Prop} (h : MapV P k w b n sz f) (hg : o.guard = none) (m : Operand) (t e : TypeId) (hop : o.op = Op.call { callee := Callee.builtin Builtin.len, args := #[m], argTypes := #[t] })
 (ht : P.underlying t = some (.map k e)) (hm : a.eval m = .map (some b)) (hK : wpList P ops Q rest (a.put o.dst (.int .i64 sz)) w) : wpList P ops Q (o :: rest) a w := by
 obtain ⟨D, ho, h1, _⟩ := h
 exact wpList_len_own w hg m t hop k e ht Rv b n D hm ho (by rw [h1]; exact hK)
end
end Go.Proofs.YtaldfbmjmpkmmaaGreat.Mk
namespace Go.Proofs.YtaldfbmjmpkmmaaGreat.Mk
open Go.RowKit Go.Maps Go.WideMaps Go.ChangeMaps Go.MapKept Go.WideShapes
open Go.WideElems (Fit rd rg pl rd_key rd_val rg_of other_key rd_mk)
open Go.Maps (Keyed)
set_option linter.unusedVariables false
set_option linter.unusedSectionVars false
section
variable {H : Type} {P : Program} {k : TypeId} {R : Value → Option (DataW H × List MemPlace)} {w : World} {b r n : Nat} {D : DataW H} {left : Lit → Bool} {cnt : Nat}
theorem born_modify (es : Array MapEntry) (j : Nat) (key val : Value) : (es.modify j (fun e' => { e' with key := key, val := val })).toList.map (·.born) = es.toList.map (·.born) := by
 apply List.ext_getElem?
 intro i
 rw [List.getElem?_map, List.getElem?_map, Array.getElem?_toList, Array.getElem?_toList, Array.getElem?_modify]
 by_cases h : j = i
 ·rw [if_pos h, Option.map_map]
  rfl
 ·rw [if_neg h]
theorem left_len (es : Array MapEntry) (seen : Array Nat) : (leftOf es seen).size = ((es.toList.map (·.born)).filter fun b => !seen.contains b).length := by
 unfold leftOf
 rw [← Array.length_toList, Array.toList_filter, List.filter_map, List.length_map]
 rfl
/-- 'm[k] = v' in the round, at a key that is there. -/
theorem ranges_put (h : w.ranges P k R b r n D left cnt) (K : Keyed P k) {t e : TypeId} (ht : P.underlying t = some (.map k e)) (hn : n < maxLen) {key val : Value} {kl : Lit} {d : DataW H} {ps : List MemPlace}
 (hkey : keyOf P k key = some kl) (hv : R val = some (d, ps)) (hhas : Maps.has D kl = true) :
 ∃ w', (Instr.mapUpdate t (.map (some b)) key val).run P w = .ok () w' ∧ w'.ranges P k R b r n (D.put kl d) left cnt ∧ w.grownBy w' (some b) := by
 have hne := h.ne
 obtain ⟨es, clock, since, seen, c0, hb, F, hs, rfl, hr, hold, rfl, hl1, hl2, hsc, hsk⟩ := h
 obtain ⟨es', clock', hrun, F', hput, _⟩ := Maps.fit_store (R' := R) K ht hb F (Nat.lt_of_le_of_lt hs hn) (fun _ _ _ _ hz => hz) hkey hv
 rcases K.find w hkey es.toList F.keys with ⟨h1, h2⟩ | ⟨j, e0, h1, h2, h3⟩
 ·exfalso
  obtain ⟨p, hp, hpk⟩ := List.any_eq_true.1 hhas
  obtain ⟨x, hx, rfl⟩ := List.mem_map.1 (mem_sorted.1 hp)
  obtain ⟨y, hy⟩ := F.reads x hx
  have e1 := WideAt.sameKey_eq hpk
  rw [rg_of hy] at e1
  exact h2 x hx (K.inj (e1 ▸ rd_key hy) hkey)
 ·have hj : es[j]? = some e0 := by simpa using h2
  have hrun2 : (Instr.mapUpdate t (.map (some b)) key val).run P w = .ok () (setBlock w b (.map (es.modify j (fun e' => { e' with key := key, val := val })) clock)) := by
   simp [Instr.mapUpdate, run_underlying ht, MapKept.run_getObj_map hb, K.check w false hkey, h1, hj, h3, K.stays w hkey, MapKept.run_setObj_map _ hb, Result.andThen, setBlock]
  rw [hrun2] at hrun
  have hw : setBlock w b (.map (es.modify j (fun e' => { e' with key := key, val := val })) clock) = setBlock w b (.map es' clock') := by injection hrun
  have hob : (Obj.map (es.modify j (fun e' => { e' with key := key, val := val })) clock) = .map es' clock' := by
   have g1 := heap_setBlock_same hb (.map (es.modify j (fun e' => { e' with key := key, val := val })) clock)
   have g2 := heap_setBlock_same hb (.map es' clock')
   rw [hw, g2] at g1
   injection g1 with g1
   exact g1.symm
  injection hob with he1 he2
  subst he1 he2
  have hlist : (es.modify j (fun e' => { e' with key := key, val := val })).toList = es.toList.set j { e0 with key := key, val := val } := by
   apply List.ext_getElem?
   intro i
   rw [Array.getElem?_toList, Array.getElem?_modify, List.getElem?_set]
   have hjl : j < es.toList.length := (List.getElem?_eq_some_iff.1 h2).1
   by_cases hji : j = i
   ·subst hji
    rw [if_pos rfl, if_pos rfl, if_pos hjl, hj]
    rfl
   ·rw [if_neg hji, if_neg hji, Array.getElem?_toList]
  have hjl : j < es.toList.length := (List.getElem?_eq_some_iff.1 h2).1
  have he0 : e0 ∈ es.toList := List.mem_of_getElem? h2
  have who : ∀ x ∈ es.toList.set j { e0 with key := key, val := val }, x = { e0 with key := key, val := val } ∨ x ∈ es.toList := by
   intro x hx
   rcases List.mem_or_eq_of_mem_set hx with hx | hx
   ·exact .inr hx
   ·exact .inl hx
  have hk0 : (rg P k R e0).1 = kl := by
   obtain ⟨y, hy⟩ := F.reads e0 he0
   rw [rg_of hy]
   have := rd_key hy
   rw [h3, hkey] at this
   injection this with this
   exact this.symm
  have hnew : ∀ bn, (rg P k R { e0 with key := key, val := val, born := bn }).1 = kl := fun bn => by rw [rg_of (rd_mk hkey hv)]
  refine ⟨_, hrun2, ⟨_, clock, since, seen, c0, heap_setBlock_same hb _, F', by simpa using hs, by rw [DataW.put_eq, hput], (heap_setBlock_other hb _ hne).trans hr, ?_, ?_, ?_, ?_, hsc, hsk⟩, ⟨rfl, rfl, rfl, by simp [setBlock], fun i _ hi => heap_setBlock_other hb _ (fun e => hi (by rw [e]))⟩⟩
  ·intro x hx
   rw [hlist] at hx
   rcases who x hx with rfl | hx
   ·exact hold e0 he0
   ·exact hold x hx
  ·rw [left_len, left_len, born_modify]
  ·intro x hx
   rw [hlist] at hx
   rcases who x hx with rfl | hx
   ·show left (rg P k R { e0 with key := key, val := val, born := e0.born }).1 = _
    rw [hnew, ← hk0, hl1 e0 he0]
   ·exact hl1 x hx
  ·intro q hq
   obtain ⟨x, hx, rfl⟩ := hl2 q hq
   rw [hlist]
   obtain ⟨i, hi, ei⟩ := List.getElem_of_mem hx
   by_cases hji : j = i
   ·subst hji
    have : x = e0 := by
     rw [List.getElem?_eq_getElem hi, ei] at h2
     exact Option.some.inj h2
    subst this
    exact ⟨_, List.mem_of_getElem? (List.getElem?_set_self hjl), by rw [hnew x.born]; exact hk0.symm⟩
   ·refine ⟨x, List.mem_of_getElem? (i := i) ?_, rfl⟩
    rw [List.getElem?_set_ne hji, List.getElem?_eq_getElem hi, ei]
end
end Go.Proofs.YtaldfbmjmpkmmaaGreat.Mk
