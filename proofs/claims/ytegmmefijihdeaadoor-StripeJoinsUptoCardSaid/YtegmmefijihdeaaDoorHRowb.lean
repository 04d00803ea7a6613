/- Rows of bytes. -/
import Derived.Test.YtegmmefijihdeaaDoorW
import Derived.Test.YtegmmefijihdeaaDoorProg
import Derived.Laws.CopyRow
import Derived.Laws.Tables
import Derived.Lib.BufferWrite
namespace Go.Proofs.YtegmmefijihdeaaDoor.Rowb
open Go.RowKit Go.Proofs.YtegmmefijihdeaaDoorW.PrintWords Go.Proofs.YtegmmefijihdeaaDoorW.PrintLast Go.Proofs.YtegmmefijihdeaaDoorW.PrintMore
open Go.Lib (byteCells byteCells_length byteCells_append byteCells_one)
set_option linter.unusedVariables false
set_option linter.unusedSimpArgs false
/-- 'copy(dst, s)', as much of s as dst takes. -/
theorem run_copy_part {P : Program} (w : World) (dT sT ty elem : TypeId) (g o dLen dCap : Nat) (s : ByteArray) (cur : Array Value) (t : TypeId)
    (hu : P.underlying dT = some (.slice elem)) (hs : (P.info? elem).map (·.size) = some 1) (hg : w.heap[g]? = some (.cells cur t (0, 0))) (hfit : o + dLen ≤ cur.size) :
    (Builtin.copy_ #[dT, sT] ty #[.slice (some ⟨g, o, none⟩) dLen dCap, .string s]).run P w =
      .ok (.int .i64 ((Nat.min s.size dLen : Nat) : Int)) (w.setRow g (cur.toList.take o ++ byteCells (s.data.toList.take dLen) ++ cur.toList.drop (o + (s.data.toList.take dLen).length)).toArray) := by
  have hsz : s.size = s.data.toList.length := by rw [Array.length_toList]; rfl
  have hmr : Nat.min s.size dLen ≤ dLen := Nat.min_le_right _ _
  have hlen : (byteCells (s.data.toList.take dLen)).length = Nat.min s.size dLen := by rw [byteCells_length, List.length_take, hsz]; exact Nat.min_comm _ _
  have hst := run_storeCells_at P g o t (byteCells (s.data.toList.take dLen)) 0 cur w hg (by rw [hlen]; omega) (byteCells_one _)
  have htk : List.take (Nat.min s.size dLen) (List.map (fun b : UInt8 => Value.int IntKind.u8 (b.toNat : Int)) s.data.toList) = byteCells (s.data.toList.take dLen) := by
    unfold byteCells
    rw [List.map_take]
    have hll : (List.map (fun b : UInt8 => Value.int IntKind.u8 (b.toNat : Int)) s.data.toList).length = s.size := by rw [List.length_map, hsz]
    rcases Nat.le_total s.size dLen with h | h
    · have e : Nat.min s.size dLen = s.size := Nat.min_eq_left h
      rw [e, List.take_of_length_le (by omega), List.take_of_length_le (by omega)]
    · have e : Nat.min s.size dLen = dLen := Nat.min_eq_right h
      rw [e]
  have hl2 : (s.data.toList.take dLen).length = (byteCells (s.data.toList.take dLen)).length := by rw [byteCells_length]
  rw [hl2]
  simp only [Nat.add_zero] at hst
  cases hq : P.info? elem with
  | none => simp [hq] at hs
  | some i =>
    simp [hq] at hs
    simp [Builtin.copy_, run_underlying hu, Builtin.lenOf, Builtin.firstCells, sizeOf, typeInfo, hq, hs]
    rw [htk, hst]
    simp [Result.andThen]
    rfl
theorem info5 : (Tryd.prog.info? 5).map (·.size) = some 1 := by kernel_rfl
theorem info5' : (Tryd.prog.info? 5).map (fun i => (i.zero, i.size, i.bytes)) = some (some (.int .u8 0), 1, 1) := by kernel_rfl
/-- A row of bytes. -/
def RowB (w : World) (g : Nat) (l : List UInt8) : Prop := w.heap[g]? = some (.cells (byteCells l).toArray 5 (0, 0))
theorem toList_toArray (l : List Value) : l.toArray.toList = l := by simp
theorem byteCells_take (l : List UInt8) (n : Nat) : (byteCells l).take n = byteCells (l.take n) := by unfold byteCells; rw [List.map_take]
theorem byteCells_drop (l : List UInt8) (n : Nat) : (byteCells l).drop n = byteCells (l.drop n) := by unfold byteCells; rw [List.map_drop]
/-- 'copy(row[o:o+n], s)' -/
theorem RowB.copy {w : World} {g : Nat} {l : List UInt8} {ops : Array Oper} {rest : List Oper} {o : Oper} {a : Act} {Q : Exit → Act → World → Prop} (h : RowB w g l) (hgd : o.guard = none) (d s : Operand)
    (hop : o.op = Op.call { callee := Callee.builtin Builtin.copy, args := #[d, s], argTypes := #[60, 9] }) (off n cap : Nat) (hd : a.eval d = .slice (some ⟨g, off, none⟩) n cap) (t : ByteArray) (hs : a.eval s = .string t) (hfit : off + n ≤ l.length)
    (hK : ∀ w', RowB w' g (l.take off ++ t.data.toList.take n ++ l.drop (off + (t.data.toList.take n).length)) → w.grownBy w' (some g) → wpList Tryd.prog ops Q rest (a.put o.dst (.int .i64 ((Nat.min t.size n : Nat) : Int))) w') : wpList Tryd.prog ops Q (o :: rest) a w := by
  have hr := run_copy_part (P := Tryd.prog) w 60 9 o.type 5 g off n cap t _ 5 Tryd.underlying60 info5 h (by rw [List.size_toArray, byteCells_length]; exact hfit)
  rw [toList_toArray, byteCells_take, byteCells_drop, ← byteCells_append, ← byteCells_append] at hr
  generalize l.take off ++ t.data.toList.take n ++ l.drop (off + (t.data.toList.take n).length) = L at *
  refine wpList_plain hgd fun K' hK' => ?_
  unfold Oper.wp
  simp [execOp, hop, resolve, invoke, builtin, hd, hs, hr, Result.andThen]
  refine hK' _ _ (hK _ (setRow_heap w g _ _ 5 (0, 0) h) ⟨rfl, rfl, rfl, by simp, fun i hi hne => setRow_other w g i _ (fun e => hne (by rw [e]))⟩)
/-- The zeros. -/
def zeros (n : Nat) : List UInt8 := List.replicate n 0
/-- 'clear(row)' -/
theorem RowB.clear {w : World} {g : Nat} {l : List UInt8} {ops : Array Oper} {rest : List Oper} {o : Oper} {a : Act} {Q : Exit → Act → World → Prop} (h : RowB w g l) (hgd : o.guard = none) (d : Operand)
    (hop : o.op = Op.call { callee := Callee.builtin Builtin.clear, args := #[d], argTypes := #[60] }) (cap : Nat) (hd : a.eval d = .slice (some ⟨g, 0, none⟩) l.length cap) (hpos : 0 < l.length)
    (hK : ∀ w', RowB w' g (zeros l.length) → w.grownBy w' (some g) → wpList Tryd.prog ops Q rest (a.put o.dst (.tuple #[])) w') : wpList Tryd.prog ops Q (o :: rest) a w := by
  have hz : (zeroValue 5).run Tryd.prog w = .ok (.int .u8 0) w := by kernel_rfl
  have hzc : ∀ n, (Builtin.zeroCells (Value.int .u8 0).cells n).toList = byteCells (zeros n) := fun n => by
    apply List.ext_getElem?
    intro i
    simp [Builtin.zeroCells, Value.cells, byteCells, zeros, Nat.mod_one]
    rw [List.getElem?_replicate]
    by_cases hi : i < n <;> simp [hi]
  have hst := run_storeCells_at Tryd.prog g 0 5 (byteCells (zeros l.length)) 0 _ w h (by rw [byteCells_length, List.size_toArray, byteCells_length]; simp [zeros]) (byteCells_one _)
  have hrow : ((byteCells l).toArray.toList.take (0 + 0) ++ byteCells (zeros l.length) ++ (byteCells l).toArray.toList.drop (0 + 0 + (byteCells (zeros l.length)).length)) = byteCells (zeros l.length) := by
    rw [toList_toArray, List.take_zero, List.nil_append, List.drop_of_length_le (by rw [byteCells_length, byteCells_length]; simp [zeros]), List.append_nil]
  rw [hrow] at hst
  obtain ⟨n, hn⟩ : ∃ n, l.length = n + 1 := ⟨l.length - 1, by omega⟩
  have hr : (Builtin.clear_ #[60] o.type #[.slice (some ⟨g, 0, none⟩) l.length cap]).run Tryd.prog w = .ok (.tuple #[]) (w.setRow g (byteCells (zeros l.length)).toArray) := by
    rw [hn] at hst ⊢
    simp [Builtin.clear_, run_underlying Tryd.underlying60, hz, hzc, hst, Result.andThen]
  refine wpList_plain hgd fun K' hK' => ?_
  unfold Oper.wp
  simp [execOp, hop, resolve, invoke, builtin, hd, hr, Result.andThen]
  refine hK' _ _ (hK _ (setRow_heap w g _ _ 5 (0, 0) h) ⟨rfl, rfl, rfl, by simp, fun i hi hne => setRow_other w g i _ (fun e => hne (by rw [e]))⟩)
/-- 'string(row[o:o+n])' -/
theorem RowB.text {w : World} {g : Nat} {l : List UInt8} (h : RowB w g l) (off n cap : Nat) (hfit : off + n ≤ l.length) : (convert 60 9 (.slice (some ⟨g, off, none⟩) n cap)).run Tryd.prog w = .ok (.string ⟨((l.drop off).take n).toArray⟩) w := by
  have hl : ((l.drop off).take n).length = n := by rw [List.length_take, List.length_drop]; omega
  have := run_convert_bytes_back (P := Tryd.prog) w 60 9 5 ⟨g, off, none⟩ cap ((l.drop off).take n) Tryd.underlying60 Tryd.underlying5 Tryd.underlying9 (fun j hj => by
    have hj' : j < n := by rw [hl] at hj; exact hj
    have hc := blk_cell h (off + j)
    rw [show (⟨g, off, none⟩ : Addr).add j = ⟨g, off + j, none⟩ from by cases j <;> simp [Addr.add], hc]
    simp only [List.getElem_take, List.getElem_drop]
    have : off + j < l.length := by omega
    simp [byteCells, List.getElem?_eq_getElem this])
  rw [hl] at this
  exact this

theorem zeros_len (n : Nat) : (zeros n).length = n := by simp [zeros]
theorem made_zeros (n : Nat) : madeCells #[(Value.int .u8 0)] n = (byteCells (zeros n)).toArray := by
  apply Array.ext'
  rw [toList_toArray]
  apply List.ext_getElem?
  intro i
  simp [madeCells, byteCells, zeros, Nat.mod_one]
  rw [List.getElem?_replicate]
  by_cases hi : i < n <;> simp [hi]
/-- 'make([]byte, n)' -/
theorem run_make_bytes (n : Nat) (hn : n ≤ 281474976710656) (w : World) : (Instr.makeSlice 60 (.int .i64 (n : Int)) (.int .i64 (n : Int))).run Tryd.prog w = .ok (.slice (some ⟨w.heap.size, 0, none⟩) n n) (w.alloc (.cells (byteCells (zeros n)).toArray 5)) := by
  have := run_make_row' (P := Tryd.prog) 60 5 (.int .u8 0) 1 Tryd.underlying60 info5' rfl .i64 .i64 n (by omega) (by omega) w
  rw [made_zeros] at this
  exact this
section
variable {w w' : World} {g : Nat} {l : List UInt8}
theorem RowB.cell (h : RowB w g l) (i : Nat) (hi : i < l.length) : w.cell? ⟨g, i, none⟩ = some (.int .u8 (l[i].toNat : Int)) := by
  rw [blk_cell h i, List.getElem?_toArray]
  unfold byteCells
  rw [List.getElem?_map, List.getElem?_eq_getElem hi]
  rfl
theorem RowB.frozen (h : RowB w g l) (i : Nat) : w.frozen? ⟨g, i, none⟩ = false := blk_frozen h i
theorem byteCells_set (l : List UInt8) (i : Nat) (b : UInt8) : (byteCells l).set i (.int .u8 (b.toNat : Int)) = byteCells (l.set i b) := by unfold byteCells; rw [List.map_set]
theorem RowB.put (h : RowB w g l) (i : Nat) (b : UInt8) : RowB (w.setCell ⟨g, i, none⟩ (.int .u8 (b.toNat : Int))) g (l.set i b) := by
  have := blk_set h i (.int .u8 (b.toNat : Int))
  rw [List.setIfInBounds_toArray, byteCells_set] at this
  exact this
theorem RowB.far (h : RowB w g l) {p : Addr} (hp : g ≠ p.block) (u : Value) : RowB (w.setCell p u) g l := blk_far h hp u
theorem RowB.below (h : RowB w g l) (hb : Below w.heap.size w w') : RowB w' g l := blk_below h hb
theorem RowB.lt (h : RowB w g l) : g < w.heap.size := blk_lt h
theorem RowB.new (w : World) (l : List UInt8) : RowB (w.alloc (.cells (byteCells l).toArray 5)) w.heap.size l := blk_new _ _
/-- 'string(row)' -/
theorem RowB.whole (h : RowB w g l) (cap : Nat) : (convert 60 9 (.slice (some ⟨g, 0, none⟩) l.length cap)).run Tryd.prog w = .ok (.string ⟨l.toArray⟩) w := by
  have := h.text 0 l.length cap (by omega)
  rw [List.drop_zero, List.take_of_length_le (Nat.le_refl _)] at this
  exact this
end
/-! Rows with a mark behind their end, as '[]byte(s)' makes them. -/
theorem blkf_cell {w : World} {g : Nat} {t : TypeId} {cs : Array Value} {fr : Nat × Nat} (h : w.heap[g]? = some (.cells cs t fr)) (i : Nat) : w.cell? ⟨g, i, none⟩ = cs[i]? := cell_of_row w g i cs t fr h
theorem blkf_set {w : World} {g : Nat} {t : TypeId} {cs : Array Value} {fr : Nat × Nat} (h : w.heap[g]? = some (.cells cs t fr)) (i : Nat) (u : Value) : (w.setCell ⟨g, i, none⟩ u).heap[g]? = some (.cells (cs.setIfInBounds i u) t fr) := by
  simp [World.setCell, Array.getElem?_modify, h]
theorem blkf_frozen {w : World} {g : Nat} {t : TypeId} {cs : Array Value} {fr : Nat × Nat} (h : w.heap[g]? = some (.cells cs t fr)) (i : Nat) (hi : fr = (0, 0) ∨ i < fr.1) : w.frozen? ⟨g, i, none⟩ = false := by
  obtain ⟨lo, hi'⟩ := fr
  unfold World.frozen?
  simp only [h]
  rcases hi with hi | hi
  · injection hi with h1 h2
    subst h1 h2
    simp
  · simp only at hi
    have : decide (lo ≤ i) = false := by simp; omega
    rw [this]; rfl
/-- A row of bytes, maybe with room behind it. -/
def RowS (w : World) (g : Nat) (l : List UInt8) : Prop := ∃ (sp : List Value) (fr : Nat × Nat), w.heap[g]? = some (.cells (byteCells l ++ sp).toArray 5 fr) ∧ (fr = (0, 0) ∨ l.length + sp.length ≤ fr.1)
section
variable {w w' : World} {g : Nat} {l : List UInt8}
theorem RowS.of (h : RowB w g l) : RowS w g l := ⟨[], (0, 0), by rw [List.append_nil]; exact h, .inl rfl⟩
theorem RowS.lt (h : RowS w g l) : g < w.heap.size := by obtain ⟨sp, fr, h, _⟩ := h; exact blk_lt h
theorem RowS.grown (h : RowS w g l) {row : Option Nat} (hg : w.grownBy w' row) (hne : some g ≠ row) : RowS w' g l := by obtain ⟨sp, fr, h, hf⟩ := h; exact ⟨sp, fr, blk_grown h hg hne, hf⟩
theorem RowS.below (h : RowS w g l) (hb : Below w.heap.size w w') : RowS w' g l := by obtain ⟨sp, fr, h, hf⟩ := h; exact ⟨sp, fr, blk_below h hb, hf⟩
theorem RowS.heap (h : RowS w g l) (e : w'.heap = w.heap) : RowS w' g l := by unfold RowS; rw [e]; exact h
theorem RowS.cell (h : RowS w g l) (i : Nat) (hi : i < l.length) : w.cell? ⟨g, i, none⟩ = some (.int .u8 (l[i].toNat : Int)) := by
  obtain ⟨sp, fr, h, hf⟩ := h
  rw [blkf_cell h i, List.getElem?_toArray, List.getElem?_append_left (by rw [byteCells_length]; exact hi)]
  unfold byteCells
  rw [List.getElem?_map, List.getElem?_eq_getElem hi]
  rfl
theorem RowS.frozen (h : RowS w g l) (i : Nat) (hi : i < l.length) : w.frozen? ⟨g, i, none⟩ = false := by
  obtain ⟨sp, fr, h, hf⟩ := h
  exact blkf_frozen h i (hf.imp_right (fun hf => by omega))
theorem RowS.put (h : RowS w g l) (i : Nat) (hi : i < l.length) (b : UInt8) : RowS (w.setCell ⟨g, i, none⟩ (.int .u8 (b.toNat : Int))) g (l.set i b) := by
  obtain ⟨sp, fr, h, hf⟩ := h
  refine ⟨sp, fr, ?_, by rw [List.length_set]; exact hf⟩
  have := blkf_set h i (.int .u8 (b.toNat : Int))
  rw [List.setIfInBounds_toArray, List.set_append_left _ _ (by rw [byteCells_length]; exact hi), byteCells_set] at this
  exact this
theorem RowS.far (h : RowS w g l) {p : Addr} (hp : g ≠ p.block) (u : Value) : RowS (w.setCell p u) g l := by
  obtain ⟨sp, fr, h, hf⟩ := h
  exact ⟨sp, fr, (Below.heap_setCell w p u g hp).trans h, hf⟩
/-- 'string(row)' -/
theorem RowS.whole (h : RowS w g l) (cap : Nat) : (convert 60 9 (.slice (some ⟨g, 0, none⟩) l.length cap)).run Tryd.prog w = .ok (.string ⟨l.toArray⟩) w :=
  run_convert_bytes_back (P := Tryd.prog) w 60 9 5 ⟨g, 0, none⟩ cap l Tryd.underlying60 Tryd.underlying5 Tryd.underlying9 (fun j hj => by
    rw [show (⟨g, 0, none⟩ : Addr).add j = ⟨g, j, none⟩ from by unfold Addr.add; split <;> simp_all]
    exact h.cell j hj)
/-- '[]byte(s)' -/
theorem run_bytes_new (W : World) (s : ByteArray) : ∃ cap W', (convert 9 60 (.string s)).run Tryd.prog W = .ok (.slice (some ⟨W.heap.size, 0, none⟩) s.size cap) W' ∧ s.size ≤ cap ∧ RowS W' W.heap.size s.data.toList ∧ Below W.heap.size W W' ∧ (∃ cs fr, W'.heap[W.heap.size]? = some (.cells cs 5 fr) ∧ cs.size = cap ∧ (fr = (0, 0) ∨ cap ≤ fr.1) ∧ cs.toList.take s.size = byteCells s.data.toList) := by
  have h := run_bytes_of_string (P := Tryd.prog) W 9 60 5 s Tryd.underlying9 Tryd.underlying60 Tryd.underlying5
  have hcap := grownCap_ge W s.size 0 5
  generalize grownCap W s.size 0 5 = cap at *
  have hsz : s.data.size = s.size := rfl
  have hcs : bytesRow s cap = (byteCells s.data.toList ++ List.replicate (cap - s.size) (Value.int .u8 0)).toArray := by
    apply Array.ext'
    unfold bytesRow byteCells
    simp
  have hlen : (bytesRow s cap).size = cap := by
    rw [hcs, List.size_toArray, List.length_append, byteCells_length, List.length_replicate, Array.length_toList, hsz]
    omega
  rw [hlen] at h
  have hn : (W.drew.alloc (.cells (bytesRow s cap) 5 (cap, cap + 1))).heap[W.heap.size]? = some (.cells (bytesRow s cap) 5 (cap, cap + 1)) := heap_alloc_new W.drew _
  refine ⟨cap, _, h, hcap, ⟨_, _, hn.trans (by rw [hcs]), .inr ?_⟩, (below_drew1 (Below.refl _ _)).alloc (Nat.le_refl _) _, _, _, hn, hlen, .inr (Nat.le_refl _), ?_⟩
  · rw [List.length_replicate, Array.length_toList, hsz]
    simp only
    omega
  · rw [hcs, List.toList_toArray, List.take_append_of_le_length (by rw [byteCells_length, Array.length_toList, hsz]; exact Nat.le_refl _), List.take_of_length_le (by rw [byteCells_length, Array.length_toList, hsz]; exact Nat.le_refl _)]
end
/-- A row of bytes of the call's own, that may grow. -/
def RowX (w : World) (base : Nat) (v : Value) (l : List UInt8) : Prop :=
  ∃ (g cap : Nat) (cs : Array Value) (fr : Nat × Nat), v = .slice (some ⟨g, 0, none⟩) l.length cap ∧ base ≤ g ∧ w.heap[g]? = some (.cells cs 5 fr) ∧ cs.size = cap ∧ l.length ≤ cap ∧ cs.toList.take l.length = byteCells l ∧ (fr = (0, 0) ∨ cap ≤ fr.1)
section
variable {w w' : World} {base : Nat} {v : Value} {l : List UInt8}
theorem RowX.below (h : RowX w base v l) (hb : Below w.heap.size w w') : RowX w' base v l := by
  obtain ⟨g, cap, cs, fr, e, h1, h2, h3⟩ := h
  exact ⟨g, cap, cs, fr, e, h1, blk_below h2 hb, h3⟩
theorem RowX.rowS (h : RowX w base v l) : ∃ g cap, v = .slice (some ⟨g, 0, none⟩) l.length cap ∧ base ≤ g ∧ RowS w g l := by
  obtain ⟨g, cap, cs, fr, e, h1, h2, h3, h4, h5, h6⟩ := h
  refine ⟨g, cap, e, h1, cs.toList.drop l.length, fr, ?_, ?_⟩
  · rw [← h5, List.take_append_drop]
    exact h2
  · refine h6.imp_right (fun h => ?_)
    have e := @Array.length_toList _ cs
    rw [List.length_drop]
    omega
theorem RowX.block (h : RowX w base v l) {t : TypeId} {g : Nat} {cs : Array Value} {fr : Nat × Nat} (hg : w.heap[g]? = some (.cells cs t fr)) (hne : 5 ≠ t) : some g ≠ v.ownBlock := by
  obtain ⟨g', cap, cs', fr', rfl, h1, h2, _⟩ := h
  intro e
  have e' : g = g' := by injection e
  subst e'
  rw [hg] at h2
  injection h2 with h2
  injection h2 with _ h2
  exact hne h2.symm
end
theorem RowX.append {w0 W : World} {base : Nat} {v : Value} {l : List UInt8} {b : UInt8} {ops : Array Oper} {rest : List Oper} {o : Oper} {a : Act} {Q : Exit → Act → World → Prop} (h : RowX W base v l) (hgd : o.guard = none) (s x : Operand)
    (ho : o.op = .call { callee := .builtin .append, args := #[s, x], argTypes := #[60, 60] }) (hs : a.eval s = v) (hx : a.eval x = .slice (some ⟨W.heap.size, 0, none⟩) 1 1) (HB : Below base w0 W) (hbase : base ≤ W.heap.size) (hl : l.length + 1 ≤ 140737488355328)
    (hk : ∀ v1 w1, RowX w1 base v1 (l ++ [b]) → Below base w0 w1 → W.grownBy w1 v.ownBlock → wpList Tryd.prog ops Q rest (a.put o.dst v1) w1) :
    wpList Tryd.prog ops Q (o :: rest) a (W.alloc (.cells #[.int .u8 (b.toNat : Int)] 5)) := by
  obtain ⟨i0, hi, hzz⟩ := Option.map_eq_some_iff.1 (show (Tryd.prog.info? 5).map (fun i => (i.zero, i.size, i.bytes)) = some (some (.int .u8 0), 1, 1) from info5')
  simp only [Prod.mk.injEq] at hzz
  obtain ⟨hz0, hz1, hz2⟩ := hzz
  obtain ⟨g, cap, cs, fr, rfl, h1, h2, h3, h4, h5, h6⟩ := h
  have hgl := blk_lt h2
  have h2' : (W.alloc (.cells #[.int .u8 (b.toNat : Int)] 5)).heap[g]? = some (.cells cs 5 fr) := blk_alloc h2 _
  have hga := World.grownBy_alloc W (.cells #[.int .u8 (b.toNat : Int)] 5) (some g)
  have hcl := @Array.length_toList _ cs
  refine wpList_append_arg (W.alloc (.cells #[.int .u8 (b.toNat : Int)] 5)) hgd s x 60 ho 5 i0 (.int .u8 0) 1 1 Tryd.underlying60 hi hz0 hz1 hz2 rfl (by decide) g 0 l.length cap (byteCells l) hs (by rw [byteCells_length, Nat.mul_one]) (fun j u hj => ?_) ⟨W.heap.size, 0, none⟩ 1 1 [.int .u8 (b.toNat : Int)] hx rfl (fun j u hj => ?_) (by simp [Value.oneCell']) (fun hr j hj => ?_) (by unfold maxLen; omega) (by omega) (fun hr => ?_) (fun hr v' w' hown hg' => ?_)
  · rw [Nat.zero_add, blkf_cell h2' j, ← Array.getElem?_toList]
    rw [← h5, List.getElem?_take] at hj
    split at hj
    · exact hj
    · cases hj
  · have hj0 : j = 0 := by
      have := (List.getElem?_eq_some_iff.1 hj).1
      simpa using this
    subst hj0
    simp only [List.getElem?_cons_zero, Option.some.injEq] at hj
    subst hj
    rw [show (⟨W.heap.size, 0, none⟩ : Addr).add 0 = ⟨W.heap.size, 0, none⟩ from rfl, blk_cell (blk_new W _) 0]
    rfl
  · have hj0 : j = 0 := by simpa using hj
    subst hj0
    rw [Nat.zero_add, Nat.mul_one, Nat.add_zero]
    refine ⟨?_, blkf_frozen h2' _ (h6.imp_right (fun h => by omega))⟩
    rw [blkf_cell h2' l.length, Array.getElem?_eq_getElem (by rw [h3]; omega)]
    rfl
  · have hset := blkf_set h2' (0 + l.length * 1) (.int .u8 (b.toNat : Int))
    have hsc : (W.alloc (.cells #[.int .u8 (b.toNat : Int)] 5)).setCells g (0 + l.length * 1) [.int .u8 (b.toNat : Int)] = (W.alloc (.cells #[.int .u8 (b.toNat : Int)] 5)).setCell ⟨g, 0 + l.length * 1, none⟩ (.int .u8 (b.toNat : Int)) := rfl
    rw [hsc]
    have hgs : (W.alloc (.cells #[.int .u8 (b.toNat : Int)] 5)).grownBy ((W.alloc (.cells #[.int .u8 (b.toNat : Int)] 5)).setCell ⟨g, 0 + l.length * 1, none⟩ (.int .u8 (b.toNat : Int))) (some g) :=
      ⟨rfl, rfl, rfl, by simp, fun j hj hne => Below.heap_setCell _ _ _ _ (fun e => hne (by rw [e]))⟩
    have hB2 : Below base w0 ((W.alloc (.cells #[.int .u8 (b.toNat : Int)] 5)).setCell ⟨g, 0 + l.length * 1, none⟩ (.int .u8 (b.toNat : Int))) := (HB.alloc hbase _).setCell (by show base ≤ g; exact h1) _
    have hlen : (l ++ [b]).length = l.length + 1 := by simp
    have hrow : RowX ((W.alloc (.cells #[.int .u8 (b.toNat : Int)] 5)).setCell ⟨g, 0 + l.length * 1, none⟩ (.int .u8 (b.toNat : Int))) base (.slice (some ⟨g, 0, none⟩) (l.length + 1) cap) (l ++ [b]) := by
      refine ⟨g, cap, _, fr, by rw [hlen], h1, hset, by rw [Array.size_setIfInBounds]; exact h3, by rw [hlen]; exact hr, ?_, h6⟩
      rw [Nat.zero_add, Nat.mul_one, Array.toList_setIfInBounds, hlen, List.take_add_one, List.take_set_of_le (Nat.le_refl _), h5, byteCells_append, List.getElem?_set_self (by omega)]
      rfl
    exact hk _ _ hrow hB2 (hga.trans hgs)
  · have hgw : W.grownBy w' (some g) := hga.trans ⟨hg'.os, hg'.tape, hg'.output, hg'.size, fun i hi hne => hg'.block i hi (by simp)⟩
    have hb1 : base ≤ (W.alloc (.cells #[.int .u8 (b.toNat : Int)] 5)).heap.size := by simp; omega
    rcases hown.2 with ⟨_, h0⟩ | ⟨g', cap', cur, rfl, hb', hh, hn, hc, hss, ht⟩
    · omega
    · refine hk _ _ ⟨g', cap', cur, (0, 0), by simp, Nat.le_trans hb1 hb', hh, by simpa using hss, by simp; omega, ?_, .inl rfl⟩ ((HB.alloc hbase _).grown hg' hb1 (fun j e => by cases e)) hgw
      have e1 : byteCells (l ++ [b]) = byteCells l ++ [.int .u8 (b.toNat : Int)] := by rw [byteCells_append]; rfl
      rw [e1]
      simpa using ht
end Go.Proofs.YtegmmefijihdeaaDoor.Rowb
