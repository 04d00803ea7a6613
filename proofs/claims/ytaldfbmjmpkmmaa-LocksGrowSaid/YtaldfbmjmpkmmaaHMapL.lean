/- Maps whose elements are plain values, whatever their keys, told as functions from keys: every operation, copies, a strike by a predicate, ranges. -/
import Derived.Test.YtaldfbmjmpkmmaaHRang
import Derived.Shelf.SlMaps.Clone
import Derived.Shelf.SlMaps.DeleteFunc
namespace Go.Proofs.Ytaldfbmjmpkmmaa.Mk
open Go.RowKit Go.Maps Go.WideMaps
set_option linter.unusedVariables false
set_option linter.unusedSectionVars false
/-- f tells each key's element. -/
def MapL (P : Program) (k : TypeId) (w : World) (b n : Nat) (f : Lit → Option Value) : Prop :=
 ∃ D : DataW Value, w.ownsMap P k Rv b n D ∧ (∀ q, Maps.has D q = (f q).isSome) ∧ ∀ q v, f q = some v → ∀ z, D.atKey q z = .held v
/-- A range under way: 'left' tells the keys that are still to come. -/
def RangeL (P : Program) (k : TypeId) (w : World) (b r n : Nat) (f : Lit → Option Value) (left : Lit → Bool) (cnt : Nat) : Prop :=
 ∃ D : DataW Value, w.ranges P k Rv b r n D left cnt ∧ (∀ q, Maps.has D q = (f q).isSome) ∧ (∀ q v, f q = some v → ∀ z, D.atKey q z = .held v) ∧ ∀ q, left q = true → (f q).isSome = true
def lput (f : Lit → Option Value) (q : Lit) (v : Value) : Lit → Option Value := fun x => if x.sameKey q = true then some v else f x
def ldel (f : Lit → Option Value) (q : Lit) : Lit → Option Value := fun x => if x.sameKey q = true then none else f x
section
variable {P : Program} {k : TypeId} {w w' : World} {b n : Nat} {f : Lit → Option Value}
theorem MapL.made (P : Program) (k : TypeId) (w : World) : MapL P k (w.alloc (.map #[] 0)) w.heap.size 0 (fun _ => none) :=
 ⟨.map [], World.ownsMap_made _ _ _ _, fun _ => rfl, fun _ _ h => by cases h⟩
theorem MapL.kept (h : MapL P k w b n f) {row : Option Nat} (hg : w.grownBy w' row) (hne : some b ≠ row) : MapL P k w' b n f := by
 obtain ⟨D, ho, h2, h3⟩ := h
 exact ⟨D, ho.kept hg hne, h2, h3⟩
theorem MapL.below (h : MapL P k w b n f) (hb : Below w.heap.size w w') : MapL P k w' b n f := h.kept (grownBy_of_below hb none) (by simp)
theorem MapL.mono (h : MapL P k w b n f) {m : Nat} (hm : n ≤ m) : MapL P k w b m f := by
 obtain ⟨D, ho, h2⟩ := h
 exact ⟨D, ho.mono hm, h2⟩
theorem MapL.lt (h : MapL P k w b n f) : b < w.heap.size := by
 obtain ⟨D, ho, _⟩ := h
 exact ho.lt
theorem MapL.ne (h : MapL P k w b n f) {a : Addr} {v : Value} (hc : w.cell? a = some v) : a.block ≠ b := by
 obtain ⟨D, ho, _⟩ := h
 exact owns_ne ho hc

theorem MapL.key (h : MapL P k w b n f) (K : Keyed P k) {q : Lit} (hq : (f q).isSome = true) : WideAt.IsKeyLit q := by
 obtain ⟨D, ho, h2, _⟩ := h
 obtain ⟨es, rfl, _, hk⟩ := ho.entries K
 rw [← h2] at hq
 obtain ⟨p, hp, hs⟩ := List.any_eq_true.1 hq
 rw [← WideAt.sameKey_eq hs]
 exact hk p hp
/-- How many keys there are. -/
theorem MapL.size (h : MapL P k w b n f) (K : Keyed P k) (ks : List Lit) (hd : ks.Nodup) (hk : ∀ q, (f q).isSome = true ↔ q ∈ ks) : ∃ D : DataW Value, w.ownsMap P k Rv b n D ∧ Maps.size D = ks.length := by
 obtain ⟨D, ho, h2, _⟩ := h
 obtain ⟨es, rfl, hp, hl⟩ := ho.entries K
 refine ⟨_, ho, ?_⟩
 show es.length = ks.length
 rw [show es.length = (es.map Prod.fst).length from by simp]
 refine List.Perm.length_eq ((List.perm_ext_iff_of_nodup ?_ hd).2 (fun q => ?_))
 ·exact List.pairwise_map.2 hp
 ·rw [← hk, ← h2, List.mem_map]
  constructor
  ·rintro ⟨p, hp, rfl⟩
   exact List.any_eq_true.2 ⟨p, hp, WideAt.sameKey_self (hl p hp)⟩
  ·intro hq
   obtain ⟨p, hp, hs⟩ := List.any_eq_true.1 hq
   exact ⟨p, hp, WideAt.sameKey_eq hs⟩
variable {ops : Array Oper} {rest : List Oper} {o : Oper} {a : Act} {Q : Exit → Act → World → Prop}
theorem MapL.get_ (h : MapL P k w b n f) (K : Keyed P k) {t e : TypeId} (ht : P.underlying t = some (.map k e)) {z : Value} (hz : (zeroValue e).run P w = .ok z w) {key : Value} {q : Lit} (hkey : keyOf P k key = some q) :
 (Instr.lookup t (.map (some b)) key false).run P w = .ok ((f q).getD z) w ∧ (Instr.lookup t (.map (some b)) key true).run P w = .ok (.tuple #[(f q).getD z, .bool (f q).isSome]) w := by
 obtain ⟨D, ho, h2, h3⟩ := h
 have hval : ∀ v ps, Rv v = some (D.atKey q (.held z), ps) → v = (f q).getD z := fun v ps hv => by
  have e1 : DataW.held v = D.atKey q (.held z) := by
   have := congrArg (fun q => q.map (·.1)) hv
   simpa [Rv] using this
  cases hf : f q with
  | none =>
   have hno : Maps.has D q = false := by rw [h2, hf]; rfl
   rw [Maps.atKey_of_not_has hno] at e1
   injection e1
  | some u =>
   rw [h3 q u hf] at e1
   injection e1
 refine ⟨?_, ?_⟩
 ·obtain ⟨v, ps, hrun, hR⟩ := ho.lookup K ht hz (zd := .held z) (zp := []) rfl hkey
  rw [hval v ps hR] at hrun
  exact hrun
 ·obtain ⟨v, ps, hrun, hR⟩ := ho.look_ok K ht hz (zd := .held z) (zp := []) rfl hkey
  rw [hval v ps hR, h2] at hrun
  exact hrun
/-- 'v, ok := m[key]'. -/
theorem MapL.look (h : MapL P k w b n f) (K : Keyed P k) (hg : o.guard = none) (m x : Operand) (t e : TypeId) (hop : o.op = Op.lookup t m x true)
 (ht : P.underlying t = some (.map k e)) {z : Value} (hz : (zeroValue e).run P w = .ok z w) (hm : a.eval m = .map (some b)) {key : Value} {q : Lit} (hx : a.eval x = key) (hkey : keyOf P k key = some q)
 (hK : wpList P ops Q rest (a.put o.dst (.tuple #[(f q).getD z, .bool (f q).isSome])) w) : wpList P ops Q (o :: rest) a w := by
 refine wpList_plain hg fun K' hK' => ?_
 unfold Oper.wp
 simp [execOp, hop, hm, hx, (h.get_ K ht hz hkey).2, Result.andThen]
 exact hK' _ _ hK


/-- 'm[key]'. -/
theorem MapL.at_ (h : MapL P k w b n f) (K : Keyed P k) (hg : o.guard = none) (m x : Operand) (t e : TypeId) (hop : o.op = Op.lookup t m x false)
 (ht : P.underlying t = some (.map k e)) {z : Value} (hz : (zeroValue e).run P w = .ok z w) (hm : a.eval m = .map (some b)) {key : Value} {q : Lit} (hx : a.eval x = key) (hkey : keyOf P k key = some q)
 (hK : wpList P ops Q rest (a.put o.dst ((f q).getD z)) w) : wpList P ops Q (o :: rest) a w := by
 refine wpList_plain hg fun K' hK' => ?_
 unfold Oper.wp
 simp [execOp, hop, hm, hx, (h.get_ K ht hz hkey).1, Result.andThen]
 exact hK' _ _ hK
theorem put_fits {D : DataW Value} (hD : Maps.IsMap D) {q : Lit} (hq : WideAt.IsKeyLit q) (v : Value) (h2 : ∀ q, Maps.has D q = (f q).isSome) (h3 : ∀ q v, f q = some v → ∀ z, D.atKey q z = .held v) :
 (∀ x, Maps.has (D.put q (.held v)) x = (lput f q v x).isSome) ∧ ∀ x u, lput f q v x = some u → ∀ z, (D.put q (.held v)).atKey x z = .held u := by
 refine ⟨fun x => ?_, fun x u hu z => ?_⟩
 ·unfold lput
  split
  ·rename_i hs
   obtain rfl := WideAt.sameKey_eq hs
   rw [has_put_same hD hq]
   rfl
  ·rename_i hs
   rw [has_put_other (fun e => hs (by rw [e]; exact WideAt.sameKey_self hq)), h2]
 ·unfold lput at hu
  split at hu
  ·rename_i hs
   obtain rfl := WideAt.sameKey_eq hs
   obtain rfl := Option.some.inj hu
   exact atKey_put_same hD hq _ _
  ·rename_i hs
   rw [atKey_put_other (fun e => hs (by rw [e]; exact WideAt.sameKey_self hq))]
   exact h3 x u hu z
theorem MapL.put_ (h : MapL P k w b n f) (K : Keyed P k) {t e : TypeId} (ht : P.underlying t = some (.map k e)) (hn : n < maxLen) {key : Value} {q : Lit} (hkey : keyOf P k key = some q) (val : Value) :
 ∃ w', (Instr.mapUpdate t (.map (some b)) key val).run P w = .ok () w' ∧ MapL P k w' b (n + 1) (lput f q val) ∧ w.grownBy w' (some b) := by
 obtain ⟨D, ho, h2, h3⟩ := h
 obtain ⟨w', hrun, ho', hg'⟩ := ho.update K ht hn hkey (Rv_mk val)
 exact ⟨w', hrun, ⟨_, ho', put_fits ho.isMap (K.key hkey) val h2 h3⟩, hg'⟩
/-- 'm[key] = val'. -/
theorem MapL.store (h : MapL P k w b n f) (K : Keyed P k) (hg : o.guard = none) (m x y : Operand) (t e : TypeId) (hop : o.op = Op.mapUpdate t m x y)
 (ht : P.underlying t = some (.map k e)) (hn : n < maxLen) (hm : a.eval m = .map (some b)) {key : Value} {q : Lit} (hx : a.eval x = key) (hkey : keyOf P k key = some q) (val : Value) (hy : a.eval y = val)
 (hK : ∀ w', MapL P k w' b (n + 1) (lput f q val) → w.grownBy w' (some b) → wpList P ops Q rest (a.put o.dst undef) w') : wpList P ops Q (o :: rest) a w := by
 obtain ⟨w', hrun, h', hg'⟩ := h.put_ K ht hn hkey val
 refine wpList_plain hg fun K' hK' => ?_
 unfold Oper.wp
 simp [execOp, hop, hm, hx, hy, hrun, Result.andThen]
 exact hK' _ _ (hK w' h' hg')
/-- 'delete(m, key)'. -/
theorem MapL.drop (h : MapL P k w b n f) (K : Keyed P k) (hg : o.guard = none) (m x : Operand) (t e : TypeId) (hop : o.op = Op.call { callee := Callee.builtin Builtin.delete, args := #[m, x], argTypes := #[t, k] })
 (ht : P.underlying t = some (.map k e)) (hm : a.eval m = .map (some b)) {key : Value} {q : Lit} (hx : a.eval x = key) (hkey : keyOf P k key = some q)
 (hK : ∀ w', MapL P k w' b n (ldel f q) → w.grownBy w' (some b) → wpList P ops Q rest (a.put o.dst (.tuple #[])) w') : wpList P ops Q (o :: rest) a w := by
 obtain ⟨D, ho, h2, h3⟩ := h
 refine wpList_delete_own w hg m x t k hop e K ht Rv b n D hm ho key q hx hkey (fun w' ho' ht' => hK w' ⟨_, ho', fun x => ?_, fun x u hu z => ?_⟩ ht'.grown)
 ·unfold ldel
  split
  ·rename_i hs
   obtain rfl := WideAt.sameKey_eq hs
   rw [has_del_same]
   rfl
  ·rename_i hs
   rw [has_del_other (fun e => hs (by rw [e]; exact WideAt.sameKey_self (K.key hkey))), h2]
 ·unfold ldel at hu
  split at hu
  ·cases hu
  ·rename_i hs
   rw [atKey_del_other (fun e => hs (by rw [e]; exact WideAt.sameKey_self (K.key hkey)))]
   exact h3 x u hu z
/-- 'len(m)'. -/
theorem MapL.len (h : MapL P k w b n f) (K : Keyed P k) (hg : o.guard = none) (m : Operand) (t e : TypeId) (hop : o.op = Op.call { callee := Callee.builtin Builtin.len, args := #[m], argTypes := #[t] })
 (ht : P.underlying t = some (.map k e)) (hm : a.eval m = .map (some b)) (ks : List Lit) (hd : ks.Nodup) (hk : ∀ q, (f q).isSome = true ↔ q ∈ ks)
 (hK : wpList P ops Q rest (a.put o.dst (.int .i64 ks.length)) w) : wpList P ops Q (o :: rest) a w := by
 obtain ⟨D, ho, hs⟩ := h.size K ks hd hk
 exact wpList_len_own w hg m t hop k e ht Rv b n D hm ho (by rw [hs]; exact hK)
/-! ranges -/
variable {r cnt : Nat} {left : Lit → Bool}
theorem RangeL.map (h : RangeL P k w b r n f left cnt) : MapL P k w b n f := by
 obtain ⟨D, hr, h2, h3, _⟩ := h
 exact ⟨D, hr.owns, h2, h3⟩
theorem RangeL.kept {row : Option Nat} (h : RangeL P k w b r n f left cnt) (hg : w.grownBy w' row) (h1 : some b ≠ row) (h2 : some r ≠ row) : RangeL P k w' b r n f left cnt := by
 obtain ⟨D, hr, h3⟩ := h
 exact ⟨D, hr.kept hg h1 h2, h3⟩
theorem RangeL.below (h : RangeL P k w b r n f left cnt) (hb : Below w.heap.size w w') : RangeL P k w' b r n f left cnt := h.kept (grownBy_of_below hb none) (by simp) (by simp)
theorem RangeL.lt (h : RangeL P k w b r n f left cnt) : r < w.heap.size := by
 obtain ⟨D, hr, _⟩ := h
 exact hr.lt
theorem RangeL.ne (h : RangeL P k w b r n f left cnt) : r ≠ b := by
 obtain ⟨D, hr, _⟩ := h
 exact hr.ne
theorem RangeL.left_eq (h : RangeL P k w b r n f left cnt) : w.rangeLeft b r = cnt := by
 obtain ⟨D, hr, _⟩ := h
 exact hr.left_eq

/-- 'range m'. -/
theorem MapL.range (h : MapL P k w b n f) (K : Keyed P k) (hg : o.guard = none) (m : Operand) (t e : TypeId) (hop : o.op = Op.range t m) (ht : P.underlying t = some (.map k e)) (hm : a.eval m = .map (some b))
 (hK : ∀ w' cnt, RangeL P k w' b w.heap.size n f (fun q => (f q).isSome) cnt → Below w.heap.size w w' → w'.heap.size = w.heap.size + 1 → wpList P ops Q rest (a.put o.dst (.pointer (some ⟨w.heap.size, 0, none⟩))) w') : wpList P ops Q (o :: rest) a w := by
 obtain ⟨D, ho, h2, h3⟩ := h
 refine wpList_range_own w hg m t hop k e K ht Rv b n D hm ho (fun w' hr hg' hs' => hK w' (Maps.size D) ⟨D, ?_, h2, h3, fun q hq => hq⟩ ⟨hg'.os, hg'.tape, hg'.output, hg'.size, fun i hi => hg'.block i hi (by simp)⟩ hs')
 rw [show (fun q => (f q).isSome) = Maps.has D from funext (fun q => (h2 q).symm)]
 exact hr
/-- The step. -/
theorem RangeL.next (h : RangeL P k w b r n f left cnt) (K : Keyed P k) (hg : o.guard = none) (it : Operand) (hop : o.op = Op.next it false) (hit : a.eval it = .pointer (some ⟨r, 0, none⟩))
 (hDone : cnt = 0 → (∀ q, left q = false) → wpList P ops Q rest (a.put o.dst (.tuple #[.bool false])) w)
 (hMore : ∀ (key : Value) (q : Lit) (v : Value) (w' : World) (cnt' : Nat), keyOf P k key = some q → left q = true → f q = some v → RangeL P k w' b r n f (fun z => left z && !z.sameKey q) cnt' → cnt' < cnt →
  w.grownBy w' (some r) → w'.heap.size = w.heap.size → (Instr.entry (.pointer (some ⟨r, 0, none⟩))).run P w' = .ok (.tuple #[key, v]) w' → wpList P ops Q rest (a.put o.dst (.tuple #[.bool true, key, v])) w') :
 wpList P ops Q (o :: rest) a w := by
 obtain ⟨D, hr, h2, h3, h4⟩ := h
 refine wpList_next_ranges w hg it hop k K Rv (fun x : Value => x) (fun x : Value => x) (fun key kl hkey => ⟨key, rfl⟩) (fun v y hv => ⟨v, rfl⟩) b r n D left cnt hit hr hDone (fun key v q y w' cnt' hkey hl hv hat hr' hlt hgr hsz hen => ?_)
 obtain ⟨u, hu⟩ := Option.isSome_iff_exists.1 (h4 q hl)
 have e1 := hat .nil
 rw [h3 q u hu] at e1
 have e2 : y = (.held v, []) := by
  unfold Rv at hv
  exact (Option.some.inj hv).symm
 rw [e2] at e1
 have e3 : u = v := by injection e1
 subst e3
 exact hMore key q u w' cnt' hkey hl hu ⟨D, hr', h2, h3, fun x hx => h4 x (by simp at hx; exact hx.1)⟩ hlt hgr hsz hen
/-- 'm[key] = val' in the round, at a key that is there. -/
theorem RangeL.put_ (h : RangeL P k w b r n f left cnt) (K : Keyed P k) {t e : TypeId} (ht : P.underlying t = some (.map k e)) (hn : n < maxLen) {key : Value} {q : Lit} (hkey : keyOf P k key = some q) (val : Value) (hh : (f q).isSome = true) :
 ∃ w', (Instr.mapUpdate t (.map (some b)) key val).run P w = .ok () w' ∧ RangeL P k w' b r n (lput f q val) left cnt ∧ w.grownBy w' (some b) := by
 obtain ⟨D, hr, h2, h3, h4⟩ := h
 obtain ⟨w', hrun, hr', hg'⟩ := ranges_put hr K ht hn hkey (Rv_mk val) (by rw [h2]; exact hh)
 obtain ⟨p2, p3⟩ := put_fits hr.owns.isMap (K.key hkey) val h2 h3
 refine ⟨w', hrun, ⟨_, hr', p2, p3, fun x hx => ?_⟩, hg'⟩
 unfold lput
 split
 ·rfl
 ·exact h4 x hx
theorem RangeL.store (h : RangeL P k w b r n f left cnt) (K : Keyed P k) (hg : o.guard = none) (m x y : Operand) (t e : TypeId) (hop : o.op = Op.mapUpdate t m x y)
 (ht : P.underlying t = some (.map k e)) (hn : n < maxLen) (hm : a.eval m = .map (some b)) {key : Value} {q : Lit} (hx : a.eval x = key) (hkey : keyOf P k key = some q) (val : Value) (hy : a.eval y = val) (hh : (f q).isSome = true)
 (hK : ∀ w', RangeL P k w' b r n (lput f q val) left cnt → w.grownBy w' (some b) → wpList P ops Q rest (a.put o.dst undef) w') : wpList P ops Q (o :: rest) a w := by
 obtain ⟨w', hrun, h', hg'⟩ := h.put_ K ht hn hkey val hh
 refine wpList_plain hg fun K' hK' => ?_
 unfold Oper.wp
 simp [execOp, hop, hm, hx, hy, hrun, Result.andThen]
 exact hK' _ _ (hK w' h' hg')
end
/-! copies, and a strike by a predicate -/
section
open Go.Shelf
variable {P : Program} {k : TypeId} {w : World} {b n : Nat} {f : Lit → Option Value} {ρ : Ren}

def heldOf : DataW Value → Value
 | .held v => v
 | _ => .tuple #[]
open Classical in
/-- Only values that are ok. -/
noncomputable def Ro (ok : Value → Prop) (v : Value) : Option (DataW Value × List MemPlace) := if ok v then Rv v else none
theorem Ro_Rv {ok : Value → Prop} {v : Value} {z : DataW Value × List MemPlace} (h : Ro ok v = some z) : ok v ∧ z = (.held v, []) := by
 unfold Ro at h
 split at h
 ·rename_i ho
  exact ⟨ho, (Option.some.inj h).symm⟩
 ·cases h
theorem Ro_mk {ok : Value → Prop} {v : Value} (h : ok v) : Ro ok v = some (.held v, []) := by
 unfold Ro
 rw [if_pos h]
 rfl
theorem owns_wide {ok : Value → Prop} {D : DataW Value} (h : w.ownsMap P k (Ro ok) b n D) : w.ownsMap P k Rv b n D := by
 obtain ⟨es, clock, hb, F, hs, rfl⟩ := h
 exact (World.ownsMap_of_fit hb F (fun x _ z hz => by rw [(Ro_Rv hz).2]; rfl)).mono hs
theorem owns_narrow {ok : Value → Prop} {D : DataW Value} (K : Keyed P k) (h : w.ownsMap P k Rv b n D) (h2 : ∀ q, Maps.has D q = (f q).isSome) (h3 : ∀ q v, f q = some v → ∀ z, D.atKey q z = .held v) (hok : ∀ q v, f q = some v → ok v) : w.ownsMap P k (Ro ok) b n D := by
 obtain ⟨es, clock, hb, F, hs, rfl⟩ := h
 refine (World.ownsMap_of_fit hb F (fun x hx z hz => ?_)).mono hs
 have hz' : z = (.held x.val, []) := (Option.some.inj hz).symm
 rw [hz']
 refine Ro_mk ?_
 obtain ⟨y, hy⟩ := F.reads x hx
 obtain ⟨z2, hz2, hzd⟩ := Go.WideElems.rd_val hy
 have hz3 : z2 = (.held x.val, []) := (Option.some.inj hz2).symm
 have hkey := Go.WideElems.rd_key hy
 have hat := (Go.WideShapes.atKey_sorted (es.toList.map (Go.WideElems.rg P k Rv)) (Maps.fit_rising K F) y.1 (K.key hkey)).2 (Go.WideElems.rg P k Rv x) (List.mem_map.2 ⟨x, hx, rfl⟩) (by rw [Go.WideElems.rg_of hy])
 have hhas : Maps.has (DataW.map ((es.toList.map (Go.WideElems.rg P k Rv)).foldr DataW.insert [])) y.1 = true :=
  List.any_eq_true.2 ⟨Go.WideElems.rg P k Rv x, mem_sorted.2 (List.mem_map.2 ⟨x, hx, rfl⟩), by rw [Go.WideElems.rg_of hy]; exact WideAt.sameKey_self (K.key hkey)⟩
 rw [h2] at hhas
 obtain ⟨v, hv⟩ := Option.isSome_iff_exists.1 hhas
 have e1 := h3 y.1 v hv .nil
 rw [hat .nil, Go.WideElems.rg_of hy, hzd, hz3] at e1
 have e2 : x.val = v := by injection e1
 rw [e2]
 exact hok _ _ hv
def strikeF (f : Lit → Option Value) (p : Lit → Value → Bool) : Lit → Option Value := fun q => match f q with | some v => if p q v = true then none else some v | none => none
theorem MapL.strike (L : SlLaysDf.n5 P ρ) (K : Keyed P (ρ.t 26)) (h : MapL P (ρ.t 26) w b n f) (ok : Value → Prop) (hok : ∀ q v, f q = some v → ok v) (p : Lit → Value → Bool) (g : Nat) (cb : Array Value) (eg : ∀ args w, (callFunc g args).run P w = .ok (.enter g args) w)
 (hdel : ∀ (W : World) (key val : Value) (q : Lit), w.grownBy W (some b) → keyOf P (ρ.t 26) key = some q → ok val → Calls P g (#[key, val] ++ cb) W fun e w' => e = .returned (.bool (p q val)) ∧ W.grownBy w' none) :
 Calls P (ρ.f 5) #[.map (some b), .func (.func g) #[] cb] w fun e w' => e = .returned (.tuple #[]) ∧ MapL P (ρ.t 26) w' b n (strikeF f p) ∧ w.grownBy w' (some b) := by
 obtain ⟨D, ho, h2, h3⟩ := h
 refine (AnyDf.maps_DeleteFunc L K (Ro ok) (fun q d => p q (heldOf d)) g cb b n D w eg (owns_narrow K ho h2 h3 hok) (fun W key val kl yd yp hg hk hv => ?_)).mono ?_
 ·obtain ⟨hv1, hv2⟩ := Ro_Rv hv
  have e2 : yd = .held val := congrArg Prod.fst hv2
  subst e2
  exact hdel W key val kl hg hk hv1
 ·rintro e w' ⟨he, ho', hg'⟩
  have ho2 := owns_wide ho'
  obtain ⟨es, rfl, hap, hl⟩ := ho.entries K
  have hat : ∀ x ∈ es, ∃ v, f x.1 = some v ∧ x.2 = .held v := fun x hx => by
   have hh : Maps.has (DataW.map es) x.1 = true := List.any_eq_true.2 ⟨x, hx, WideAt.sameKey_self (hl x hx)⟩
   rw [h2] at hh
   obtain ⟨v, hv⟩ := Option.isSome_iff_exists.1 hh
   exact ⟨v, hv, (WideAt.atKey_mem (.nil : DataW Value) (hl x hx) hap hx).symm.trans (h3 _ v hv .nil)⟩
  refine ⟨he, ⟨_, ho2, fun q => ?_, fun q v hq z => ?_⟩, hg'⟩
  ·show (List.any (es.filter fun x => !p x.1 (heldOf x.2)) fun x => x.1.sameKey q) = _
   unfold strikeF
   cases hf : f q with
   | none =>
    have : Maps.has (DataW.map es) q = false := by rw [h2, hf]; rfl
    have h0 : (es.any fun x => x.1.sameKey q) = false := this
    simp only [Option.isSome_none]
    rw [Bool.eq_false_iff]
    intro hc
    obtain ⟨x, hx, hs⟩ := List.any_eq_true.1 hc
    exact absurd (List.any_eq_true.2 ⟨x, (List.mem_filter.1 hx).1, hs⟩) (by rw [h0]; simp)
   | some v =>
    have : Maps.has (DataW.map es) q = true := by rw [h2, hf]; rfl
    obtain ⟨x, hx, hs⟩ := List.any_eq_true.1 (show (es.any fun x => x.1.sameKey q) = true from this)
    have hxq := WideAt.sameKey_eq hs
    obtain ⟨u, hu, hxu⟩ := hat x hx
    rw [hxq, hf] at hu
    obtain rfl := Option.some.inj hu
    simp only
    cases hp : p q v with
    | true =>
     simp only [if_pos, Option.isSome_none]
     rw [Bool.eq_false_iff]
     intro hc
     obtain ⟨y, hy, hs2⟩ := List.any_eq_true.1 hc
     obtain ⟨hy1, hy2⟩ := List.mem_filter.1 hy
     obtain ⟨u2, hu2, hyu⟩ := hat y hy1
     have hyq := WideAt.sameKey_eq hs2
     rw [hyq, hf] at hu2
     obtain rfl := Option.some.inj hu2
     rw [hyq, hyu] at hy2
     simp [heldOf, hp] at hy2
    | false =>
     simp only [Bool.false_eq_true, if_false, Option.isSome_some]
     refine List.any_eq_true.2 ⟨x, List.mem_filter.2 ⟨hx, ?_⟩, hs⟩
     rw [hxq, hxu]
     simp [heldOf, hp]
  ·unfold strikeF at hq
   cases hf : f q with
   | none => rw [hf] at hq; cases hq
   | some u =>
    rw [hf] at hq
    simp only at hq
    split at hq
    ·cases hq
    ·rename_i hp
     obtain rfl := Option.some.inj hq
     have : Maps.has (DataW.map es) q = true := by rw [h2, hf]; rfl
     obtain ⟨x, hx, hs⟩ := List.any_eq_true.1 (show (es.any fun x => x.1.sameKey q) = true from this)
     have hxq := WideAt.sameKey_eq hs
     obtain ⟨u2, hu2, hxu⟩ := hat x hx
     rw [hxq, hf] at hu2
     obtain rfl := Option.some.inj hu2
     have hm : x ∈ es.filter fun x => !p x.1 (heldOf x.2) := List.mem_filter.2 ⟨hx, by rw [hxq, hxu]; simp [heldOf, hp]⟩
     have hkq : WideAt.IsKeyLit q := by rw [← hxq]; exact hl x hx
     have := WideAt.atKey_mem (entries := es.filter fun x => !p x.1 (heldOf x.2)) (d := x.2) z hkq (hap.filter _) (by rw [← hxq]; exact hm)
     rw [hxu] at this
     exact this
end
end Go.Proofs.Ytaldfbmjmpkmmaa.Mk
