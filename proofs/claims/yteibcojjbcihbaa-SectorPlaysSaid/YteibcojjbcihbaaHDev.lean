/- Rows of bytes: copies of strings into them, and cleared; a device in memory: its sectors, its cache. -/
import Derived.Test.YteibcojjbcihbaaHMapI
import Derived.Test.YteibcojjbcihbaaW
import Derived.Test.YteibcojjbcihbaaHTxn2
import Derived.Lib.BufferWrite
namespace Go.Proofs.Yteibcojjbcihbaa.Sec
open Go.RowKit Go.Proofs.YteibcojjbcihbaaW.PrintWords Go.Proofs.YteibcojjbcihbaaW.PrintLast Go.Proofs.YteibcojjbcihbaaW.PrintMore Go.Maps Go.Proofs.Yteibcojjbcihbaa.Mk
open Go.Lib (byteCells byteCells_length byteCells_append byteCells_one)
set_option linter.unusedVariables false
set_option linter.unusedSimpArgs false
/-- 'copy(dst, s)', as much of s as dst takes. -/
theorem run_copy_part {P : Program} (w : World) (dT sT ty elem : TypeId) (g o dLen dCap : Nat) (s : ByteArray) (cur : Array Value) (t : TypeId)
    (hu : P.underlying dT = some (.slice elem)) (hs : (P.info? elem).map (·.size) = some 1) (hg : w.heap[g]? = some (.cells cur t (0, 0))) (hfit : o + dLen ≤ cur.size) :
    (Builtin.copy_ #[dT, sT] ty #[.slice (some ⟨g, o, none⟩) dLen dCap, .string s]).run P w =
      .ok (.int .i64 ((Nat.min s.size dLen : Nat) : Int)) (w.setRow g (cur.toList.take o ++ byteCells (s.data.toList.take dLen) ++ cur.toList.drop (o + (s.data.toList.take dLen).length)).toArray) := by
  have hsz : s.size = s.data.toList.length := by rw [Array.length_toList]; rfl
  have hmr : Nat.min s.size dLen ≤ dLen := Nat.min_le_right _ _
  have hlen : (byteCells (s.data.toList.take dLen)).length = Nat.min s.size dLen := by rw [byteCells_length, List.length_take, hsz]; exact Nat.min_comm _ _
  have hst := run_storeCells_at P g o t (byteCells (s.data.toList.take dLen)) 0 cur w hg (by rw [hlen]; omega) (byteCells_one _)
  have htk : List.take (Nat.min s.size dLen) (List.map (fun b : UInt8 => Value.int IntKind.u8 (b.toNat : Int)) s.data.toList) = byteCells (s.data.toList.take dLen) := by
    unfold byteCells
    rw [List.map_take]
    have hll : (List.map (fun b : UInt8 => Value.int IntKind.u8 (b.toNat : Int)) s.data.toList).length = s.size := by rw [List.length_map, hsz]
    rcases Nat.le_total s.size dLen with h | h
    · have e : Nat.min s.size dLen = s.size := Nat.min_eq_left h
      rw [e, List.take_of_length_le (by omega), List.take_of_length_le (by omega)]
    · have e : Nat.min s.size dLen = dLen := Nat.min_eq_right h
      rw [e]
  have hl2 : (s.data.toList.take dLen).length = (byteCells (s.data.toList.take dLen)).length := by rw [byteCells_length]
  rw [hl2]
  simp only [Nat.add_zero] at hst
  cases hq : P.info? elem with
  | none => simp [hq] at hs
  | some i =>
    simp [hq] at hs
    simp [Builtin.copy_, run_underlying hu, Builtin.lenOf, Builtin.firstCells, sizeOf, typeInfo, hq, hs]
    rw [htk, hst]
    simp [Result.andThen]
    rfl
theorem info5 : (Try.prog.info? 5).map (·.size) = some 1 := by kernel_rfl
theorem info5' : (Try.prog.info? 5).map (fun i => (i.zero, i.size, i.bytes)) = some (some (.int .u8 0), 1, 1) := by kernel_rfl
/-- A row of bytes. -/
def RowB (w : World) (g : Nat) (l : List UInt8) : Prop := w.heap[g]? = some (.cells (byteCells l).toArray 5 (0, 0))
theorem toList_toArray (l : List Value) : l.toArray.toList = l := by simp
theorem byteCells_take (l : List UInt8) (n : Nat) : (byteCells l).take n = byteCells (l.take n) := by unfold byteCells; rw [List.map_take]
theorem byteCells_drop (l : List UInt8) (n : Nat) : (byteCells l).drop n = byteCells (l.drop n) := by unfold byteCells; rw [List.map_drop]
/-- 'copy(row[o:o+n], s)' -/
theorem RowB.copy {w : World} {g : Nat} {l : List UInt8} {ops : Array Oper} {rest : List Oper} {o : Oper} {a : Act} {Q : Exit → Act → World → Prop} (h : RowB w g l) (hgd : o.guard = none) (d s : Operand)
    (hop : o.op = Op.call { callee := Callee.builtin Builtin.copy, args := #[d, s], argTypes := #[97, 9] }) (off n cap : Nat) (hd : a.eval d = .slice (some ⟨g, off, none⟩) n cap) (t : ByteArray) (hs : a.eval s = .string t) (hfit : off + n ≤ l.length)
    (hK : ∀ w', RowB w' g (l.take off ++ t.data.toList.take n ++ l.drop (off + (t.data.toList.take n).length)) → w.grownBy w' (some g) → wpList Try.prog ops Q rest (a.put o.dst (.int .i64 ((Nat.min t.size n : Nat) : Int))) w') : wpList Try.prog ops Q (o :: rest) a w := by
  have hr := run_copy_part (P := Try.prog) w 97 9 o.type 5 g off n cap t _ 5 Try.underlying97 info5 h (by rw [List.size_toArray, byteCells_length]; exact hfit)
  rw [toList_toArray, byteCells_take, byteCells_drop, ← byteCells_append, ← byteCells_append] at hr
  generalize l.take off ++ t.data.toList.take n ++ l.drop (off + (t.data.toList.take n).length) = L at *
  refine wpList_plain hgd fun K' hK' => ?_
  unfold Oper.wp
  simp [execOp, hop, resolve, invoke, builtin, hd, hs, hr, Result.andThen]
  refine hK' _ _ (hK _ (setRow_heap w g _ _ 5 (0, 0) h) ⟨rfl, rfl, rfl, by simp, fun i hi hne => setRow_other w g i _ (fun e => hne (by rw [e]))⟩)
/-- The zeros. -/
def zeros (n : Nat) : List UInt8 := List.replicate n 0
/-- 'clear(row)' -/
theorem RowB.clear {w : World} {g : Nat} {l : List UInt8} {ops : Array Oper} {rest : List Oper} {o : Oper} {a : Act} {Q : Exit → Act → World → Prop} (h : RowB w g l) (hgd : o.guard = none) (d : Operand)
    (hop : o.op = Op.call { callee := Callee.builtin Builtin.clear, args := #[d], argTypes := #[97] }) (cap : Nat) (hd : a.eval d = .slice (some ⟨g, 0, none⟩) l.length cap) (hpos : 0 < l.length)
    (hK : ∀ w', RowB w' g (zeros l.length) → w.grownBy w' (some g) → wpList Try.prog ops Q rest (a.put o.dst (.tuple #[])) w') : wpList Try.prog ops Q (o :: rest) a w := by
  have hz : (zeroValue 5).run Try.prog w = .ok (.int .u8 0) w := by kernel_rfl
  have hzc : ∀ n, (Builtin.zeroCells (Value.int .u8 0).cells n).toList = byteCells (zeros n) := fun n => by
    apply List.ext_getElem?
    intro i
    simp [Builtin.zeroCells, Value.cells, byteCells, zeros, Nat.mod_one]
    rw [List.getElem?_replicate]
    by_cases hi : i < n <;> simp [hi]
  have hst := run_storeCells_at Try.prog g 0 5 (byteCells (zeros l.length)) 0 _ w h (by rw [byteCells_length, List.size_toArray, byteCells_length]; simp [zeros]) (byteCells_one _)
  have hrow : ((byteCells l).toArray.toList.take (0 + 0) ++ byteCells (zeros l.length) ++ (byteCells l).toArray.toList.drop (0 + 0 + (byteCells (zeros l.length)).length)) = byteCells (zeros l.length) := by
    rw [toList_toArray, List.take_zero, List.nil_append, List.drop_of_length_le (by rw [byteCells_length, byteCells_length]; simp [zeros]), List.append_nil]
  rw [hrow] at hst
  obtain ⟨n, hn⟩ : ∃ n, l.length = n + 1 := ⟨l.length - 1, by omega⟩
  have hr : (Builtin.clear_ #[97] o.type #[.slice (some ⟨g, 0, none⟩) l.length cap]).run Try.prog w = .ok (.tuple #[]) (w.setRow g (byteCells (zeros l.length)).toArray) := by
    rw [hn] at hst ⊢
    simp [Builtin.clear_, run_underlying Try.underlying97, hz, hzc, hst, Result.andThen]
  refine wpList_plain hgd fun K' hK' => ?_
  unfold Oper.wp
  simp [execOp, hop, resolve, invoke, builtin, hd, hr, Result.andThen]
  refine hK' _ _ (hK _ (setRow_heap w g _ _ 5 (0, 0) h) ⟨rfl, rfl, rfl, by simp, fun i hi hne => setRow_other w g i _ (fun e => hne (by rw [e]))⟩)
/-- 'string(row[o:o+n])' -/
theorem RowB.text {w : World} {g : Nat} {l : List UInt8} (h : RowB w g l) (off n cap : Nat) (hfit : off + n ≤ l.length) : (convert 97 9 (.slice (some ⟨g, off, none⟩) n cap)).run Try.prog w = .ok (.string ⟨((l.drop off).take n).toArray⟩) w := by
  have hl : ((l.drop off).take n).length = n := by rw [List.length_take, List.length_drop]; omega
  have := run_convert_bytes_back (P := Try.prog) w 97 9 5 ⟨g, off, none⟩ cap ((l.drop off).take n) Try.underlying97 Try.underlying5 Try.underlying9 (fun j hj => by
    have hj' : j < n := by rw [hl] at hj; exact hj
    have hc := blk_cell h (off + j)
    rw [show (⟨g, off, none⟩ : Addr).add j = ⟨g, off + j, none⟩ from by cases j <;> simp [Addr.add], hc]
    simp only [List.getElem_take, List.getElem_drop]
    have : off + j < l.length := by omega
    simp [byteCells, List.getElem?_eq_getElem this])
  rw [hl] at this
  exact this
end Go.Proofs.Yteibcojjbcihbaa.Sec
