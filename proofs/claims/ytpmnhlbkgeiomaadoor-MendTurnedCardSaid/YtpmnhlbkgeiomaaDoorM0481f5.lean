/- Texts of this proof, one behind the other (merged by a program of this session). -/
import Derived.Test.YtpmnhlbkgeiomaaDoorProg
import Derived.Test.YtpmnhlbkgeiomaaDoorW
import Derived.Test.YtpmnhlbkgeiomaaDoorHGf
import Derived.RegionTactic
import Derived.ChangeAlike
import Derived.Laws.BitsLemmas
import Derived.Deep.QuietTactic
import Derived.BigQuiet
import Derived.Laws.CopyRow
import Derived.Laws.Tables
import Derived.Lib.BufferWrite
import Derived.Shelf.Strings.Builder1
import Derived.Shelf.Strings.Builder2
import Derived.Shelf.Strings.OnBuilder
import Derived.Shelf.Strings.Trim
import Derived.Shelf.Small.Utf8
import Derived.Shelf.Small.Strs
import Derived.Shelf.Strings.BuilderF
import Derived.Shelf.Strings.BuilderK
import Derived.Shelf.Strings.Builder2Cap
import Derived.Shelf.Strings.Search1
import Derived.Shelf.Strings.Prefix
import Derived.Shelf.Unicode.Decode
import Derived.Shelf.Strings.Runes
import Derived.Shelf.Strings.AsciiSet
import Derived.Shelf.Bits.Mul64
import Derived.Shelf.Strings.Repeat
import Derived.Shelf.Unicode.DecodeSlow
import Derived.Shelf.Unicode.DecodeAny
import Derived.Shelf.Unicode.DecodeLast
import Derived.Shelf.Slices.Turned
import Derived.Ground.SlbNamesProg
import Derived.Shelf.Bytes.SlJoin
import Derived.Deep.RegionLaw
import Derived.Laws.Strings
import Derived.WalkKit
import Derived.Below
import Derived.Deep.Draws
import Derived.Deep.AppendLies
import Derived.Maps.AppendAt
import Derived.OwnWalk
import Derived.Laws.BytesArg
import Derived.Laws.MakeOwn
import Derived.Laws.OwnMore
import Derived.Deep.OwnRows
import Derived.Tactics
import Derived.Lib.ConvBytes
import Derived.Laws.Slices
import Derived.KernelRfl
import Derived.RowKit3
import Derived.Deep.LoopGhost
import Derived.WideLaws
import Derived.Deep.DeepCutAuto
import Derived.Deep.CutBlock
import Derived.Deep.RegionHeld3
import Derived.Laws.Rows
import Derived.Lib.AppendStr
import Derived.ArgAppend
import Derived.Laws.IdiomCopy
import Derived.OrdersHeld
import Derived.RowKit
import Derived.Deep.Slices
import Derived.ChangeSame
import Derived.SizedLaws
import Derived.Maps.OwnSet
import Derived.Maps.RangeWalk
import Derived.Maps.Ext
import Derived.WalkArith
namespace Go.Proofs.YtpmnhlbkgeiomaaDoor.Fld
open Go.RowKit Go.Proofs.YtpmnhlbkgeiomaaDoorW.PrintWords Go.Proofs.YtpmnhlbkgeiomaaDoorW.PrintLast Go.Proofs.YtpmnhlbkgeiomaaDoorW.PrintMore Go.Proofs.YtpmnhlbkgeiomaaDoor.Gf
set_option linter.unusedVariables false
set_option linter.unusedSimpArgs false
theorem xor_nat (k : IntKind) (j : Nat) (hj : j ≤ k.bits) (hk : ∀ n : Int, 0 ≤ n → n < 2 ^ j → k.wrap n = n) (a b : Nat) (ha : a < 2 ^ j) (hb : b < 2 ^ j) : bits .xor k (a : Int) (b : Int) = ((a ^^^ b : Nat) : Int) := by
  have hp : 2 ^ j ≤ 2 ^ k.bits := Nat.pow_le_pow_right (by decide) hj
  have ha' : a % 2 ^ k.bits = a := Nat.mod_eq_of_lt (Nat.lt_of_lt_of_le ha hp)
  have hb' : b % 2 ^ k.bits = b := Nat.mod_eq_of_lt (Nat.lt_of_lt_of_le hb hp)
  simp only [bits, BitVec.ofInt_natCast, BitVec.toNat_xor, BitVec.toNat_ofNat, ha', hb']
  refine hk _ (Int.natCast_nonneg _) ?_
  have := Nat.xor_lt_two_pow ha hb
  exact_mod_cast this
theorem xor_i64 (a b j : Nat) (hj : j ≤ 62) (ha : a < 2 ^ j) (hb : b < 2 ^ j) : bits .xor .i64 (a : Int) (b : Int) = ((a ^^^ b : Nat) : Int) :=
  xor_nat .i64 j (by show j ≤ 64; omega) (fun n h0 h1 => by
    have h2 : (2 : Int) ^ j ≤ 2 ^ 62 := by
      have := Nat.pow_le_pow_right (n := 2) (by decide) hj
      exact_mod_cast this
    rw [IntKind.wrap_i64]
    have h3 : (2 : Int) ^ 62 = 4611686018427387904 := by decide
    omega) a b ha hb
theorem xor_u8 (a b : Nat) (ha : a < 256) (hb : b < 256) : bits .xor .u8 (a : Int) (b : Int) = ((a ^^^ b : Nat) : Int) :=
  xor_nat .u8 8 (by decide) wraps_u8 a b ha hb
/-- The tables behind k rounds. -/
def expAt (k j : Nat) : Nat := if j % 255 < k then pw (j % 255) else 0
def logAt (k a : Nat) : Nat := if a ≠ 0 ∧ lg a < k then lg a else 0
def fieldF (k i : Nat) : Value := if i < 510 then .int .u8 (expAt k i : Int) else .int .i64 (logAt k (i - 510) : Int)
def fcells (k : Nat) : Array Value := ((List.range 766).map (fieldF k)).toArray
theorem fcells_at (k i : Nat) (h : i < 766) : (fcells k)[i]? = some (fieldF k i) := by
  unfold fcells
  rw [List.getElem?_toArray]
  simp [h]
theorem fcells_exp (k j : Nat) (h : j < 510) : (fcells k)[j]? = some (.int .u8 (expAt k j : Int)) := by
  rw [fcells_at k j (by omega)]
  unfold fieldF
  rw [if_pos h]
theorem fcells_log (k a : Nat) (h : a < 256) : (fcells k)[510 + a]? = some (.int .i64 (logAt k a : Int)) := by
  rw [fcells_at k (510 + a) (by omega)]
  unfold fieldF
  rw [if_neg (by omega), Nat.add_sub_cancel_left]
theorem fcells_size (k : Nat) : (fcells k).size = 766 := by simp [fcells]
theorem fcells_zero : Tryd.zeroCells127 = fcells 0 := by
  have h : Tryd.zeroCells127 = ((List.range 766).map (fun i => if i < 510 then Value.int .u8 0 else Value.int .i64 0)).toArray := by kernel_rfl
  rw [h]
  unfold fcells
  exact congrArg List.toArray (List.map_congr_left (fun i _ => by
    unfold fieldF expAt logAt
    simp))
theorem fcells_step (k : Nat) (hk : k < 255) : (((fcells k).setIfInBounds k (.int .u8 (pw k : Int))).setIfInBounds (k + 255) (.int .u8 (pw k : Int))).setIfInBounds (510 + pw k) (.int .i64 (k : Int)) = fcells (k + 1) := by
  have hp := pw_lt k
  apply Array.ext_getElem?
  intro i
  by_cases hi : i < 766
  · rw [Array.getElem?_setIfInBounds, Array.getElem?_setIfInBounds, Array.getElem?_setIfInBounds, fcells_at k i hi, fcells_at (k + 1) i hi]
    simp only [Array.size_setIfInBounds, fcells_size]
    unfold fieldF
    by_cases h5 : i < 510
    · rw [if_neg (by omega), if_pos h5, if_pos h5]
      unfold expAt
      by_cases e1 : k + 255 = i
      · rw [if_pos e1, if_pos (by omega), show i % 255 = k by omega, if_pos (by omega)]
      · rw [if_neg e1]
        by_cases e2 : k = i
        · rw [if_pos e2, if_pos (by omega), show i % 255 = k by omega, if_pos (by omega)]
        · rw [if_neg e2]
          by_cases h7 : i % 255 < k
          · rw [if_pos h7, if_pos (by omega)]
          · rw [if_neg h7, if_neg (by omega)]
    · rw [if_neg h5, if_neg h5]
      unfold logAt
      by_cases e1 : 510 + pw k = i
      · rw [if_pos e1, if_pos (by omega), show i - 510 = pw k by omega, lg_pw k hk, if_pos ⟨pw_ne k, by omega⟩]
      · rw [if_neg e1, if_neg (by omega), if_neg (by omega)]
        have hne : i - 510 ≠ 0 → lg (i - 510) ≠ k := fun h0 e => e1 (by
          have := pw_lg (i - 510) (by omega) h0
          rw [e] at this; omega)
        by_cases h7 : i - 510 ≠ 0 ∧ lg (i - 510) < k
        · rw [if_pos h7, if_pos ⟨h7.1, by omega⟩]
        · rw [if_neg h7, if_neg (fun h => h7 ⟨h.1, by have := hne h.1; omega⟩)]
  · rw [Array.getElem?_eq_none (by simp [fcells_size]; omega), Array.getElem?_eq_none (by simp [fcells_size]; omega)]
/-- The tables, in memory. -/
def FieldAt (w : World) (p : Nat) : Prop := w.heap[p]? = some (.cells (fcells 255) 127 (0, 0))
theorem FieldAt.below {w w' : World} {p : Nat} (h : FieldAt w p) (hb : Below w.heap.size w w') : FieldAt w' p := blk_below h hb
def Made (w : World) (e : Ending) (w' : World) : Prop := e = .returned (.pointer (some ⟨w.heap.size, 0, none⟩)) ∧ FieldAt w' w.heap.size ∧ Below w.heap.size w w'
set_option maxRecDepth 100000 in
theorem new_walk (w : World) : Calls Tryd.prog 45 #[] w (Made w) := by
  go_enter Tryd.func45, Tryd.ntmps45
  go_wp2
  go_loopw [2, 6] (fun x i W => ∃ k : Nat, k ≤ 255 ∧ x = .int .i64 (pw k : Int) ∧ i = .int .i64 (k : Int) ∧ W.heap[w.heap.size]? = some (.cells (fcells k) 127 (0, 0)) ∧ Below w.heap.size w W) (fun _ i _ => 255 - (intOf i).toNat)
  case atStart => exact ⟨0, by omega, rfl, rfl, by rw [← fcells_zero]; exact blk_new _ _, (Below.refl _ _).alloc (Nat.le_refl _) _⟩
  case round =>
    obtain ⟨k, hk, rfl, rfl, hb, hB⟩ := hrel
    by_cases hlt : k < 255
    · have hp := pw_lt k
      have fz := fun i => blk_frozen hb i
      have c0 := (blk_cell hb k).trans (fcells_exp k k (by omega))
      have c1 := (blk_cell hb (k + 255)).trans (fcells_exp k (k + 255) (by omega))
      have c2 := (blk_cell hb (510 + pw k)).trans (fcells_log k (pw k) hp)
      have HS : Aside0 ((pw k : Int) * 2 ≤ 255 → (pw k : Int) * 2 = (pw (k + 1) : Int)) := ⟨fun h => by
        show (pw k : Int) * 2 = (xt (pw k) : Int)
        unfold xt
        rw [if_pos (by omega)]; omega⟩
      have HX : Aside0 (¬ (pw k : Int) * 2 ≤ 255 → bits .xor .i64 ((pw k : Int) * 2) 285 = (pw (k + 1) : Int)) := ⟨fun h => by
        have := xor_i64 (pw k * 2) 285 10 (by omega) (by omega) (by decide)
        show _ = (xt (pw k) : Int)
        unfold xt
        rw [if_neg (by omega), Nat.mul_comm 2, ← this]
        push_cast
        rfl⟩
      have HB := Aside0.mk (And.intro hb hB)
      have HK := Aside0.mk (fcells_step k hlt)
      have hend : ∀ (W : World), W = ((wr.setCell ⟨w.heap.size, k, none⟩ (.int .u8 (pw k : Int))).setCell ⟨w.heap.size, k + 255, none⟩ (.int .u8 (pw k : Int))).setCell ⟨w.heap.size, 510 + pw k, none⟩ (.int .i64 (k : Int)) →
          W.drew.heap[w.heap.size]? = some (.cells (fcells (k + 1)) 127 (0, 0)) ∧ Below w.heap.size w W.drew := fun W hW => by
        subst hW
        exact ⟨blk_put (blk_set (blk_set hb _ _) _ _) _ _ HK.out, below_drew1 (((hB.setCell (Nat.le_refl _) _).setCell (Nat.le_refl _) _).setCell (Nat.le_refl _) _)⟩
      have HE := Aside0.mk hend
      clear hend hb hB
      go_wp2
      go_region
      go_wp2
      · go_roundw
        case rel => exact ⟨k + 1, by omega, by rw [HX.out (by omega)], by go_num, (HE.out _ rfl).1, (HE.out _ rfl).2⟩
        case measure => simp [intOf]; omega
      · go_roundw
        case rel => exact ⟨k + 1, by omega, by rw [HS.out ‹_›], by go_num, (HE.out _ rfl).1, (HE.out _ rfl).2⟩
        case measure => simp [intOf]; omega
    · go_wp2
      go_ret
      obtain rfl : k = 255 := by omega
      exact ⟨rfl, hb, hB⟩
section
variable {w : World} {p : Nat}
theorem FieldAt.exp (h : FieldAt w p) (j : Nat) (hj : j < 510) : w.cell? ⟨p, j, none⟩ = some (.int .u8 (pw j : Int)) := by
  rw [blk_cell h j, fcells_exp 255 j hj]
  unfold expAt
  rw [if_pos (by omega), pw_mod]
theorem FieldAt.log (h : FieldAt w p) (a : Nat) (ha : a < 256) (h0 : a ≠ 0) : w.cell? ⟨p, 510 + a, none⟩ = some (.int .i64 (lg a : Int)) := by
  rw [blk_cell h (510 + a), fcells_log 255 a ha]
  unfold logAt
  rw [if_pos ⟨h0, lg_lt a ha⟩]
theorem gmul_pw (a b : UInt8) (ha : a.toNat ≠ 0) (hb : b.toNat ≠ 0) : (gmul a b).toNat = pw (lg a.toNat + lg b.toNat) := by
  rw [gmul_nat, ← fmul_eq _ _ (b_lt a) (b_lt b)]
  unfold fmul
  rw [if_neg (fun h => h.elim ha hb)]
theorem gmul_0 (a b : UInt8) (h : a.toNat = 0 ∨ b.toNat = 0) : (gmul a b).toNat = 0 := by
  rw [gmul_nat, ← fmul_eq _ _ (b_lt a) (b_lt b)]
  unfold fmul
  rw [if_pos h]
set_option maxRecDepth 100000 in
theorem mul_walk (h : FieldAt w p) (a b : UInt8) : Calls Tryd.prog 46 #[.pointer (some ⟨p, 0, none⟩), .int .u8 (a.toNat : Int), .int .u8 (b.toNat : Int)] w fun e w' => e = .returned (.int .u8 ((gmul a b).toNat : Int)) ∧ Drawn0 w w' := by
  have hla := lg_lt _ (b_lt a)
  have hlb := lg_lt _ (b_lt b)
  have hxa := b_lt a
  have hxb := b_lt b
  have HP := Aside0.mk (gmul_pw a b)
  have HZ := Aside0.mk (gmul_0 a b)
  have cl := fun x => h.log x
  have ce := h.exp (lg a.toNat + lg b.toNat) (by omega)
  generalize (gmul a b).toNat = r at *
  generalize a.toNat = x at *
  generalize b.toNat = y at *
  by_cases h0 : x = 0
  · have HR := Aside0.mk (HZ.out (.inl h0))
    subst h0
    clear ce cl HP HZ h
    go_enter Tryd.func46, Tryd.ntmps46
    go_wp2
    go_ret
    exact ⟨by rw [HR.out]; rfl, Drawn0.refl _⟩
  · by_cases h1 : y = 0
    · have HR := Aside0.mk (HZ.out (.inr h1))
      subst h1
      have e0 : ((x : Int) == 0) = false := by simp; omega
      clear ce cl HP HZ h
      go_enter Tryd.func46, Tryd.ntmps46
      go_wp2
      go_ret
      exact ⟨by rw [HR.out]; rfl, Drawn0.refl _⟩
    · have HR := Aside0.mk (HP.out h0 h1)
      have e0 : ((x : Int) == 0) = false := by simp; omega
      have e1 : ((y : Int) == 0) = false := by simp; omega
      have cx := cl x hxa h0
      have cy := cl y hxb h1
      clear cl HP HZ h
      generalize lg x = i at *
      generalize lg y = j at *
      generalize pw (i + j) = z at *
      go_enter Tryd.func46, Tryd.ntmps46
      go_wp2
      go_quiet (fail)
      go_wp2
      go_ret
      exact ⟨by rw [HR.out]; rfl, by repeat (first | exact Drawn0.refl _ | apply Drawn0.step)⟩
theorem ginv_pw (a : UInt8) : (ginv a).toNat = pw (255 - lg a.toNat) := by rw [ginv_nat]; rfl
set_option maxRecDepth 100000 in
/-- 'f.Div(1, a)' -/
theorem div_walk (h : FieldAt w p) (a : UInt8) (ha : a ≠ 0) : Calls Tryd.prog 88 #[.pointer (some ⟨p, 0, none⟩), .int .u8 1, .int .u8 (a.toNat : Int)] w fun e w' => e = .returned (.tuple #[.int .u8 ((ginv a).toNat : Int), .int .i64 0]) ∧ Drawn0 w w' := by
  have hla := lg_lt _ (b_lt a)
  have hxa := b_lt a
  have h0 := b_ne ha
  have HR := Aside0.mk (ginv_pw a)
  have c1 := h.log 1 (by decide) (by decide)
  have cx := h.log a.toNat hxa h0
  have ce := h.exp (255 - lg a.toNat) (by omega)
  rw [show lg 1 = 0 by decide +kernel] at c1
  generalize (ginv a).toNat = r at *
  generalize a.toNat = x at *
  have e0 : ((x : Int) == 0) = false := by simp; omega
  clear h
  generalize lg x = i at *
  generalize hz : pw (255 - i) = z at *
  have ce' : w.cell? ⟨p, ((255 : Int) - (i : Int)).toNat, none⟩ = some (.int .u8 (z : Int)) := by
    rw [show ((255 : Int) - (i : Int)).toNat = 255 - i by omega]; exact ce
  clear hz
  go_enter Tryd.func88, Tryd.ntmps88
  go_wp2
  go_quiet (fail)
  go_wp2
  go_ret2
  exact ⟨by rw [HR.out]; rfl, by repeat (first | exact Drawn0.refl _ | apply Drawn0.step)⟩
set_option maxRecDepth 100000 in
theorem inv_walk (h : FieldAt w p) (a : UInt8) (ha : a ≠ 0) : Calls Tryd.prog 65 #[.pointer (some ⟨p, 0, none⟩), .int .u8 (a.toNat : Int)] w fun e w' => e = .returned (.tuple #[.int .u8 ((ginv a).toNat : Int), .int .i64 0]) ∧ Drawn0 w w' := by
  have H := Aside0.mk (div_walk h a ha)
  clear h
  go_enter Tryd.func65, Tryd.ntmps65
  go_wp2_with fail
  refine H.out.mono ?_
  rintro e w1 ⟨rfl, hd⟩
  go_wp2
  go_ret2
  exact ⟨rfl, hd⟩
end
end Go.Proofs.YtpmnhlbkgeiomaaDoor.Fld
namespace Go.Proofs.YtpmnhlbkgeiomaaDoor.Rowb
open Go.RowKit Go.Proofs.YtpmnhlbkgeiomaaDoorW.PrintWords Go.Proofs.YtpmnhlbkgeiomaaDoorW.PrintLast Go.Proofs.YtpmnhlbkgeiomaaDoorW.PrintMore
open Go.Lib (byteCells byteCells_length byteCells_append byteCells_one)
set_option linter.unusedVariables false
set_option linter.unusedSimpArgs false
theorem info5' : (Tryd.prog.info? 5).map (fun i => (i.zero, i.size, i.bytes)) = some (some (.int .u8 0), 1, 1) := by kernel_rfl
/-- A row of bytes. -/
def RowB (w : World) (g : Nat) (l : List UInt8) : Prop := w.heap[g]? = some (.cells (byteCells l).toArray 5 (0, 0))
theorem toList_toArray (l : List Value) : l.toArray.toList = l := by simp
/-- The zeros. -/
def zeros (n : Nat) : List UInt8 := List.replicate n 0
/-- 'clear(row)' -/
theorem RowB.clear {w : World} {g : Nat} {l : List UInt8} {ops : Array Oper} {rest : List Oper} {o : Oper} {a : Act} {Q : Exit → Act → World → Prop} (h : RowB w g l) (hgd : o.guard = none) (d : Operand)
    (hop : o.op = Op.call { callee := Callee.builtin Builtin.clear, args := #[d], argTypes := #[35] }) (cap : Nat) (hd : a.eval d = .slice (some ⟨g, 0, none⟩) l.length cap) (hpos : 0 < l.length)
    (hK : ∀ w', RowB w' g (zeros l.length) → w.grownBy w' (some g) → wpList Tryd.prog ops Q rest (a.put o.dst (.tuple #[])) w') : wpList Tryd.prog ops Q (o :: rest) a w := by
  have hz : (zeroValue 5).run Tryd.prog w = .ok (.int .u8 0) w := by kernel_rfl
  have hzc : ∀ n, (Builtin.zeroCells (Value.int .u8 0).cells n).toList = byteCells (zeros n) := fun n => by
    apply List.ext_getElem?
    intro i
    simp [Builtin.zeroCells, Value.cells, byteCells, zeros, Nat.mod_one]
    rw [List.getElem?_replicate]
    by_cases hi : i < n <;> simp [hi]
  have hst := run_storeCells_at Tryd.prog g 0 5 (byteCells (zeros l.length)) 0 _ w h (by rw [byteCells_length, List.size_toArray, byteCells_length]; simp [zeros]) (byteCells_one _)
  have hrow : ((byteCells l).toArray.toList.take (0 + 0) ++ byteCells (zeros l.length) ++ (byteCells l).toArray.toList.drop (0 + 0 + (byteCells (zeros l.length)).length)) = byteCells (zeros l.length) := by
    rw [toList_toArray, List.take_zero, List.nil_append, List.drop_of_length_le (by rw [byteCells_length, byteCells_length]; simp [zeros]), List.append_nil]
  rw [hrow] at hst
  obtain ⟨n, hn⟩ : ∃ n, l.length = n + 1 := ⟨l.length - 1, by omega⟩
  have hr : (Builtin.clear_ #[35] o.type #[.slice (some ⟨g, 0, none⟩) l.length cap]).run Tryd.prog w = .ok (.tuple #[]) (w.setRow g (byteCells (zeros l.length)).toArray) := by
    rw [hn] at hst ⊢
    simp [Builtin.clear_, run_underlying Tryd.underlying35, hz, hzc, hst, Result.andThen]
  refine wpList_plain hgd fun K' hK' => ?_
  unfold Oper.wp
  simp [execOp, hop, resolve, invoke, builtin, hd, hr, Result.andThen]
  refine hK' _ _ (hK _ (setRow_heap w g _ _ 5 (0, 0) h) ⟨rfl, rfl, rfl, by simp, fun i hi hne => setRow_other w g i _ (fun e => hne (by rw [e]))⟩)
/-- 'string(row[o:o+n])' -/
theorem RowB.text {w : World} {g : Nat} {l : List UInt8} (h : RowB w g l) (off n cap : Nat) (hfit : off + n ≤ l.length) : (convert 35 9 (.slice (some ⟨g, off, none⟩) n cap)).run Tryd.prog w = .ok (.string ⟨((l.drop off).take n).toArray⟩) w := by
  have hl : ((l.drop off).take n).length = n := by rw [List.length_take, List.length_drop]; omega
  have := run_convert_bytes_back (P := Tryd.prog) w 35 9 5 ⟨g, off, none⟩ cap ((l.drop off).take n) Tryd.underlying35 Tryd.underlying5 Tryd.underlying9 (fun j hj => by
    have hj' : j < n := by rw [hl] at hj; exact hj
    have hc := blk_cell h (off + j)
    rw [show (⟨g, off, none⟩ : Addr).add j = ⟨g, off + j, none⟩ from by cases j <;> simp [Addr.add], hc]
    simp only [List.getElem_take, List.getElem_drop]
    have : off + j < l.length := by omega
    simp [byteCells, List.getElem?_eq_getElem this])
  rw [hl] at this
  exact this

theorem zeros_len (n : Nat) : (zeros n).length = n := by simp [zeros]
theorem made_zeros (n : Nat) : madeCells #[(Value.int .u8 0)] n = (byteCells (zeros n)).toArray := by
  apply Array.ext'
  rw [toList_toArray]
  apply List.ext_getElem?
  intro i
  simp [madeCells, byteCells, zeros, Nat.mod_one]
  rw [List.getElem?_replicate]
  by_cases hi : i < n <;> simp [hi]
/-- 'make([]byte, n)' -/
theorem run_make_bytes (n : Nat) (hn : n ≤ 281474976710656) (w : World) : (Instr.makeSlice 35 (.int .i64 (n : Int)) (.int .i64 (n : Int))).run Tryd.prog w = .ok (.slice (some ⟨w.heap.size, 0, none⟩) n n) (w.alloc (.cells (byteCells (zeros n)).toArray 5)) := by
  have := run_make_row' (P := Tryd.prog) 35 5 (.int .u8 0) 1 Tryd.underlying35 info5' rfl .i64 .i64 n (by omega) (by omega) w
  rw [made_zeros] at this
  exact this
section
variable {w w' : World} {g : Nat} {l : List UInt8}
theorem RowB.cell (h : RowB w g l) (i : Nat) (hi : i < l.length) : w.cell? ⟨g, i, none⟩ = some (.int .u8 (l[i].toNat : Int)) := by
  rw [blk_cell h i, List.getElem?_toArray]
  unfold byteCells
  rw [List.getElem?_map, List.getElem?_eq_getElem hi]
  rfl
theorem RowB.frozen (h : RowB w g l) (i : Nat) : w.frozen? ⟨g, i, none⟩ = false := blk_frozen h i
theorem byteCells_set (l : List UInt8) (i : Nat) (b : UInt8) : (byteCells l).set i (.int .u8 (b.toNat : Int)) = byteCells (l.set i b) := by unfold byteCells; rw [List.map_set]
theorem RowB.put (h : RowB w g l) (i : Nat) (b : UInt8) : RowB (w.setCell ⟨g, i, none⟩ (.int .u8 (b.toNat : Int))) g (l.set i b) := by
  have := blk_set h i (.int .u8 (b.toNat : Int))
  rw [List.setIfInBounds_toArray, byteCells_set] at this
  exact this
theorem RowB.far (h : RowB w g l) {p : Addr} (hp : g ≠ p.block) (u : Value) : RowB (w.setCell p u) g l := blk_far h hp u
theorem RowB.below (h : RowB w g l) (hb : Below w.heap.size w w') : RowB w' g l := blk_below h hb
theorem RowB.lt (h : RowB w g l) : g < w.heap.size := blk_lt h
theorem RowB.new (w : World) (l : List UInt8) : RowB (w.alloc (.cells (byteCells l).toArray 5)) w.heap.size l := blk_new _ _
/-- 'string(row)' -/
theorem RowB.whole (h : RowB w g l) (cap : Nat) : (convert 35 9 (.slice (some ⟨g, 0, none⟩) l.length cap)).run Tryd.prog w = .ok (.string ⟨l.toArray⟩) w := by
  have := h.text 0 l.length cap (by omega)
  rw [List.drop_zero, List.take_of_length_le (Nat.le_refl _)] at this
  exact this
end
/-! Rows with a mark behind their end, as '[]byte(s)' makes them. -/
theorem blkf_cell {w : World} {g : Nat} {t : TypeId} {cs : Array Value} {fr : Nat × Nat} (h : w.heap[g]? = some (.cells cs t fr)) (i : Nat) : w.cell? ⟨g, i, none⟩ = cs[i]? := cell_of_row w g i cs t fr h
theorem blkf_set {w : World} {g : Nat} {t : TypeId} {cs : Array Value} {fr : Nat × Nat} (h : w.heap[g]? = some (.cells cs t fr)) (i : Nat) (u : Value) : (w.setCell ⟨g, i, none⟩ u).heap[g]? = some (.cells (cs.setIfInBounds i u) t fr) := by
  simp [World.setCell, Array.getElem?_modify, h]
theorem blkf_frozen {w : World} {g : Nat} {t : TypeId} {cs : Array Value} {fr : Nat × Nat} (h : w.heap[g]? = some (.cells cs t fr)) (i : Nat) (hi : fr = (0, 0) ∨ i < fr.1) : w.frozen? ⟨g, i, none⟩ = false := by
  obtain ⟨lo, hi'⟩ := fr
  unfold World.frozen?
  simp only [h]
  rcases hi with hi | hi
  · injection hi with h1 h2
    subst h1 h2
    simp
  · simp only at hi
    have : decide (lo ≤ i) = false := by simp; omega
    rw [this]; rfl
/-- A row of bytes, maybe with room behind it. -/
def RowS (w : World) (g : Nat) (l : List UInt8) : Prop := ∃ (sp : List Value) (fr : Nat × Nat), w.heap[g]? = some (.cells (byteCells l ++ sp).toArray 5 fr) ∧ (fr = (0, 0) ∨ l.length + sp.length ≤ fr.1)
section
variable {w w' : World} {g : Nat} {l : List UInt8}
theorem RowS.of (h : RowB w g l) : RowS w g l := ⟨[], (0, 0), by rw [List.append_nil]; exact h, .inl rfl⟩
theorem RowS.lt (h : RowS w g l) : g < w.heap.size := by obtain ⟨sp, fr, h, _⟩ := h; exact blk_lt h
theorem RowS.grown (h : RowS w g l) {row : Option Nat} (hg : w.grownBy w' row) (hne : some g ≠ row) : RowS w' g l := by obtain ⟨sp, fr, h, hf⟩ := h; exact ⟨sp, fr, blk_grown h hg hne, hf⟩
theorem RowS.below (h : RowS w g l) (hb : Below w.heap.size w w') : RowS w' g l := by obtain ⟨sp, fr, h, hf⟩ := h; exact ⟨sp, fr, blk_below h hb, hf⟩
theorem RowS.heap (h : RowS w g l) (e : w'.heap = w.heap) : RowS w' g l := by unfold RowS; rw [e]; exact h
theorem RowS.cell (h : RowS w g l) (i : Nat) (hi : i < l.length) : w.cell? ⟨g, i, none⟩ = some (.int .u8 (l[i].toNat : Int)) := by
  obtain ⟨sp, fr, h, hf⟩ := h
  rw [blkf_cell h i, List.getElem?_toArray, List.getElem?_append_left (by rw [byteCells_length]; exact hi)]
  unfold byteCells
  rw [List.getElem?_map, List.getElem?_eq_getElem hi]
  rfl
theorem RowS.frozen (h : RowS w g l) (i : Nat) (hi : i < l.length) : w.frozen? ⟨g, i, none⟩ = false := by
  obtain ⟨sp, fr, h, hf⟩ := h
  exact blkf_frozen h i (hf.imp_right (fun hf => by omega))
theorem RowS.put (h : RowS w g l) (i : Nat) (hi : i < l.length) (b : UInt8) : RowS (w.setCell ⟨g, i, none⟩ (.int .u8 (b.toNat : Int))) g (l.set i b) := by
  obtain ⟨sp, fr, h, hf⟩ := h
  refine ⟨sp, fr, ?_, by rw [List.length_set]; exact hf⟩
  have := blkf_set h i (.int .u8 (b.toNat : Int))
  rw [List.setIfInBounds_toArray, List.set_append_left _ _ (by rw [byteCells_length]; exact hi), byteCells_set] at this
  exact this
theorem RowS.far (h : RowS w g l) {p : Addr} (hp : g ≠ p.block) (u : Value) : RowS (w.setCell p u) g l := by
  obtain ⟨sp, fr, h, hf⟩ := h
  exact ⟨sp, fr, (Below.heap_setCell w p u g hp).trans h, hf⟩
/-- 'string(row)' -/
theorem RowS.whole (h : RowS w g l) (cap : Nat) : (convert 35 9 (.slice (some ⟨g, 0, none⟩) l.length cap)).run Tryd.prog w = .ok (.string ⟨l.toArray⟩) w :=
  run_convert_bytes_back (P := Tryd.prog) w 35 9 5 ⟨g, 0, none⟩ cap l Tryd.underlying35 Tryd.underlying5 Tryd.underlying9 (fun j hj => by
    rw [show (⟨g, 0, none⟩ : Addr).add j = ⟨g, j, none⟩ from by unfold Addr.add; split <;> simp_all]
    exact h.cell j hj)
/-- '[]byte(s)' -/
theorem run_bytes_new (W : World) (s : ByteArray) : ∃ cap W', (convert 9 35 (.string s)).run Tryd.prog W = .ok (.slice (some ⟨W.heap.size, 0, none⟩) s.size cap) W' ∧ s.size ≤ cap ∧ RowS W' W.heap.size s.data.toList ∧ Below W.heap.size W W' ∧ (∃ cs fr, W'.heap[W.heap.size]? = some (.cells cs 5 fr) ∧ cs.size = cap ∧ (fr = (0, 0) ∨ cap ≤ fr.1) ∧ cs.toList.take s.size = byteCells s.data.toList) := by
  have h := run_bytes_of_string (P := Tryd.prog) W 9 35 5 s Tryd.underlying9 Tryd.underlying35 Tryd.underlying5
  have hcap := grownCap_ge W s.size 0 5
  generalize grownCap W s.size 0 5 = cap at *
  have hsz : s.data.size = s.size := rfl
  have hcs : bytesRow s cap = (byteCells s.data.toList ++ List.replicate (cap - s.size) (Value.int .u8 0)).toArray := by
    apply Array.ext'
    unfold bytesRow byteCells
    simp
  have hlen : (bytesRow s cap).size = cap := by
    rw [hcs, List.size_toArray, List.length_append, byteCells_length, List.length_replicate, Array.length_toList, hsz]
    omega
  rw [hlen] at h
  have hn : (W.drew.alloc (.cells (bytesRow s cap) 5 (cap, cap + 1))).heap[W.heap.size]? = some (.cells (bytesRow s cap) 5 (cap, cap + 1)) := heap_alloc_new W.drew _
  refine ⟨cap, _, h, hcap, ⟨_, _, hn.trans (by rw [hcs]), .inr ?_⟩, (below_drew1 (Below.refl _ _)).alloc (Nat.le_refl _) _, _, _, hn, hlen, .inr (Nat.le_refl _), ?_⟩
  · rw [List.length_replicate, Array.length_toList, hsz]
    simp only
    omega
  · rw [hcs, List.toList_toArray, List.take_append_of_le_length (by rw [byteCells_length, Array.length_toList, hsz]; exact Nat.le_refl _), List.take_of_length_le (by rw [byteCells_length, Array.length_toList, hsz]; exact Nat.le_refl _)]
end
/-- A row of bytes of the call's own, that may grow. -/
def RowX (w : World) (base : Nat) (v : Value) (l : List UInt8) : Prop :=
  ∃ (g cap : Nat) (cs : Array Value) (fr : Nat × Nat), v = .slice (some ⟨g, 0, none⟩) l.length cap ∧ base ≤ g ∧ w.heap[g]? = some (.cells cs 5 fr) ∧ cs.size = cap ∧ l.length ≤ cap ∧ cs.toList.take l.length = byteCells l ∧ (fr = (0, 0) ∨ cap ≤ fr.1)
section
variable {w w' : World} {base : Nat} {v : Value} {l : List UInt8}
theorem RowX.below (h : RowX w base v l) (hb : Below w.heap.size w w') : RowX w' base v l := by
  obtain ⟨g, cap, cs, fr, e, h1, h2, h3⟩ := h
  exact ⟨g, cap, cs, fr, e, h1, blk_below h2 hb, h3⟩
theorem RowX.block (h : RowX w base v l) {t : TypeId} {g : Nat} {cs : Array Value} {fr : Nat × Nat} (hg : w.heap[g]? = some (.cells cs t fr)) (hne : 5 ≠ t) : some g ≠ v.ownBlock := by
  obtain ⟨g', cap, cs', fr', rfl, h1, h2, _⟩ := h
  intro e
  have e' : g = g' := by injection e
  subst e'
  rw [hg] at h2
  injection h2 with h2
  injection h2 with _ h2
  exact hne h2.symm
end
theorem RowX.append {w0 W : World} {base : Nat} {v : Value} {l : List UInt8} {b : UInt8} {ops : Array Oper} {rest : List Oper} {o : Oper} {a : Act} {Q : Exit → Act → World → Prop} (h : RowX W base v l) (hgd : o.guard = none) (s x : Operand)
    (ho : o.op = .call { callee := .builtin .append, args := #[s, x], argTypes := #[35, 35] }) (hs : a.eval s = v) (hx : a.eval x = .slice (some ⟨W.heap.size, 0, none⟩) 1 1) (HB : Below base w0 W) (hbase : base ≤ W.heap.size) (hl : l.length + 1 ≤ 140737488355328)
    (hk : ∀ v1 w1, RowX w1 base v1 (l ++ [b]) → Below base w0 w1 → W.grownBy w1 v.ownBlock → wpList Tryd.prog ops Q rest (a.put o.dst v1) w1) :
    wpList Tryd.prog ops Q (o :: rest) a (W.alloc (.cells #[.int .u8 (b.toNat : Int)] 5)) := by
  obtain ⟨i0, hi, hzz⟩ := Option.map_eq_some_iff.1 (show (Tryd.prog.info? 5).map (fun i => (i.zero, i.size, i.bytes)) = some (some (.int .u8 0), 1, 1) from info5')
  simp only [Prod.mk.injEq] at hzz
  obtain ⟨hz0, hz1, hz2⟩ := hzz
  obtain ⟨g, cap, cs, fr, rfl, h1, h2, h3, h4, h5, h6⟩ := h
  have hgl := blk_lt h2
  have h2' : (W.alloc (.cells #[.int .u8 (b.toNat : Int)] 5)).heap[g]? = some (.cells cs 5 fr) := blk_alloc h2 _
  have hga := World.grownBy_alloc W (.cells #[.int .u8 (b.toNat : Int)] 5) (some g)
  have hcl := @Array.length_toList _ cs
  refine wpList_append_arg (W.alloc (.cells #[.int .u8 (b.toNat : Int)] 5)) hgd s x 35 ho 5 i0 (.int .u8 0) 1 1 Tryd.underlying35 hi hz0 hz1 hz2 rfl (by decide) g 0 l.length cap (byteCells l) hs (by rw [byteCells_length, Nat.mul_one]) (fun j u hj => ?_) ⟨W.heap.size, 0, none⟩ 1 1 [.int .u8 (b.toNat : Int)] hx rfl (fun j u hj => ?_) (by simp [Value.oneCell']) (fun hr j hj => ?_) (by unfold maxLen; omega) (by omega) (fun hr => ?_) (fun hr v' w' hown hg' => ?_)
  · rw [Nat.zero_add, blkf_cell h2' j, ← Array.getElem?_toList]
    rw [← h5, List.getElem?_take] at hj
    split at hj
    · exact hj
    · cases hj
  · have hj0 : j = 0 := by
      have := (List.getElem?_eq_some_iff.1 hj).1
      simpa using this
    subst hj0
    simp only [List.getElem?_cons_zero, Option.some.injEq] at hj
    subst hj
    rw [show (⟨W.heap.size, 0, none⟩ : Addr).add 0 = ⟨W.heap.size, 0, none⟩ from rfl, blk_cell (blk_new W _) 0]
    rfl
  · have hj0 : j = 0 := by simpa using hj
    subst hj0
    rw [Nat.zero_add, Nat.mul_one, Nat.add_zero]
    refine ⟨?_, blkf_frozen h2' _ (h6.imp_right (fun h => by omega))⟩
    rw [blkf_cell h2' l.length, Array.getElem?_eq_getElem (by rw [h3]; omega)]
    rfl
  · have hset := blkf_set h2' (0 + l.length * 1) (.int .u8 (b.toNat : Int))
    have hsc : (W.alloc (.cells #[.int .u8 (b.toNat : Int)] 5)).setCells g (0 + l.length * 1) [.int .u8 (b.toNat : Int)] = (W.alloc (.cells #[.int .u8 (b.toNat : Int)] 5)).setCell ⟨g, 0 + l.length * 1, none⟩ (.int .u8 (b.toNat : Int)) := rfl
    rw [hsc]
    have hgs : (W.alloc (.cells #[.int .u8 (b.toNat : Int)] 5)).grownBy ((W.alloc (.cells #[.int .u8 (b.toNat : Int)] 5)).setCell ⟨g, 0 + l.length * 1, none⟩ (.int .u8 (b.toNat : Int))) (some g) :=
      ⟨rfl, rfl, rfl, by simp, fun j hj hne => Below.heap_setCell _ _ _ _ (fun e => hne (by rw [e]))⟩
    have hB2 : Below base w0 ((W.alloc (.cells #[.int .u8 (b.toNat : Int)] 5)).setCell ⟨g, 0 + l.length * 1, none⟩ (.int .u8 (b.toNat : Int))) := (HB.alloc hbase _).setCell (by show base ≤ g; exact h1) _
    have hlen : (l ++ [b]).length = l.length + 1 := by simp
    have hrow : RowX ((W.alloc (.cells #[.int .u8 (b.toNat : Int)] 5)).setCell ⟨g, 0 + l.length * 1, none⟩ (.int .u8 (b.toNat : Int))) base (.slice (some ⟨g, 0, none⟩) (l.length + 1) cap) (l ++ [b]) := by
      refine ⟨g, cap, _, fr, by rw [hlen], h1, hset, by rw [Array.size_setIfInBounds]; exact h3, by rw [hlen]; exact hr, ?_, h6⟩
      rw [Nat.zero_add, Nat.mul_one, Array.toList_setIfInBounds, hlen, List.take_add_one, List.take_set_of_le (Nat.le_refl _), h5, byteCells_append, List.getElem?_set_self (by omega)]
      rfl
    exact hk _ _ hrow hB2 (hga.trans hgs)
  · have hgw : W.grownBy w' (some g) := hga.trans ⟨hg'.os, hg'.tape, hg'.output, hg'.size, fun i hi hne => hg'.block i hi (by simp)⟩
    have hb1 : base ≤ (W.alloc (.cells #[.int .u8 (b.toNat : Int)] 5)).heap.size := by simp; omega
    rcases hown.2 with ⟨_, h0⟩ | ⟨g', cap', cur, rfl, hb', hh, hn, hc, hss, ht⟩
    · omega
    · refine hk _ _ ⟨g', cap', cur, (0, 0), by simp, Nat.le_trans hb1 hb', hh, by simpa using hss, by simp; omega, ?_, .inl rfl⟩ ((HB.alloc hbase _).grown hg' hb1 (fun j e => by cases e)) hgw
      have e1 : byteCells (l ++ [b]) = byteCells l ++ [.int .u8 (b.toNat : Int)] := by rw [byteCells_append]; rfl
      rw [e1]
      simpa using ht
end Go.Proofs.YtpmnhlbkgeiomaaDoor.Rowb
namespace Go.Proofs
open Go.Shelf
def Tryd.lays156_ren : Go.Shelf.Ren := ⟨fun | 156 => 56 | 165 => 60 | 166 => 61 | 169 => 63 | 240 => 86 | 241 => 87 | 276 => 94 | 277 => 95 | n => n, fun | 31 => 26 | 9 => 9 | 3 => 3 | 4 => 4 | 0 => 0 | 20 => 20 | 72 => 110 | 76 => 114 | 70 => 108 | 37 => 35 | 75 => 113 | 127 => 152 | 164 => 159 | 5 => 5 | 80 => 117 | n => n, fun | n => n⟩
theorem Tryd.lays156 : Go.Proofs.Lays.n156 Tryd.prog Tryd.lays156_ren := {
  mixed := by kernel_rfl
  f156 := Tryd.func56.trans (congrArg some (by kernel_rfl))
  f165 := Tryd.func60.trans (congrArg some (by kernel_rfl))
  f166 := Tryd.func61.trans (congrArg some (by kernel_rfl))
  f169 := Tryd.func63.trans (congrArg some (by kernel_rfl))
  f240 := Tryd.func86.trans (congrArg some (by kernel_rfl))
  f241 := Tryd.func87.trans (congrArg some (by kernel_rfl))
  f276 := Tryd.func94.trans (congrArg some (by kernel_rfl))
  f277 := Tryd.func95.trans (congrArg some (by kernel_rfl))
  t0 := Tryd.underlying0
  a0 := Tryd.isAgg0
  z0 := Tryd.sizeOf0
  v0 := Tryd.zeroValue0
  t3 := Tryd.underlying3
  a3 := Tryd.isAgg3
  z3 := Tryd.sizeOf3
  v3 := Tryd.zeroValue3
  t4 := Tryd.underlying4
  a4 := Tryd.isAgg4
  z4 := Tryd.sizeOf4
  v4 := Tryd.zeroValue4
  t9 := Tryd.underlying9
  a9 := Tryd.isAgg9
  z9 := Tryd.sizeOf9
  v9 := Tryd.zeroValue9
  t20 := Tryd.underlying20
  a20 := Tryd.isAgg20
  z20 := Tryd.sizeOf20
  v20 := Tryd.zeroValue20
  t31 := Tryd.underlying26
  a31 := Tryd.isAgg26
  z31 := Tryd.sizeOf26
  v31 := Tryd.zeroValue26
  t37 := Tryd.underlying35
  a37 := Tryd.isAgg35
  z37 := Tryd.sizeOf35
  v37 := Tryd.zeroValue35
  t70 := Tryd.underlying108
  a70 := Tryd.isAgg108
  z70 := Tryd.sizeOf108
  v70 := Tryd.zeroValue108
  t72 := Tryd.underlying110
  a72 := Tryd.isAgg110
  z72 := Tryd.sizeOf110
  v72 := Tryd.zeroValue110
  t75 := Tryd.underlying113
  a75 := Tryd.isAgg113
  z75 := Tryd.sizeOf113
  v75 := Tryd.zeroValue113
  t76 := Tryd.underlying114
  a76 := Tryd.isAgg114
  z76 := Tryd.sizeOf114
  v76 := Tryd.zeroValue114
  t127 := Tryd.underlying152
  a127 := Tryd.isAgg152
  z127 := Tryd.sizeOf152
  v127 := Tryd.zeroValue152
  t164 := Tryd.underlying159
  a164 := Tryd.isAgg159
  z164 := Tryd.sizeOf159
  v164 := Tryd.zeroValue159 }
theorem Tryd.Builder_Extra_156 : Builder.Extra Tryd.prog Tryd.lays156_ren := {
  sizeBuilder := by kernel_rfl
  liesBuilder := by kernel_rfl
  t5 := Tryd.underlying5
  a5 := Tryd.isAgg5
  z5 := Tryd.sizeOf5
  v5 := Tryd.zeroValue5
  infoByte := by kernel_rfl
  cellsByte := by kernel_rfl
  sizeByte := by kernel_rfl
  neB5 := by decide }
open Go.RowKit in
/-- No element: the empty string; the world is as it was. (Whatever the slice's address and capacity: a nil slice too.) (LAID: no walk: one application.) -/
theorem Tryd.strings_Join_none (a : Option Addr) (c : Nat) (sep : ByteArray) (w : World) :
    Calls Tryd.prog 56 #[.slice a 0 c, .string sep] w fun e w' => e = .returned (.string ⟨#[]⟩) ∧ w' = w := Any.strings_Join_none Tryd.lays156 Tryd.Builder_Extra_156 a c sep w
open Go.RowKit in
/-- strings.Join: "Join concatenates the elements of its first argument to create a single string. The separator string sep is placed between elements in the resulting string.": HOWEVER MANY ELEMENTS. Below the heap's end the world is as it was. (LAID: no walk: one application.) -/
theorem Tryd.strings_Join (bk o c : Nat) (xs : List ByteArray) (sep : ByteArray) (w : World) (hcells : ∀ (j : Nat) x, xs[j]? = some x → w.cell? ⟨bk, o + j, none⟩ = some (.string x)) (hbk : bk < w.heap.size) (hN : xs.length ≤ 140737488355328) (hcap : xs.length ≤ c) (hlen : (Lib.join (xs.map (·.data.toList)) sep.data.toList).length ≤ 140737488355328) :
    Calls Tryd.prog 56 #[.slice (some ⟨bk, o, none⟩) xs.length c, .string sep] w fun e w' => e = .returned (.string ⟨(Lib.join (xs.map (·.data.toList)) sep.data.toList).toArray⟩) ∧ Below w.heap.size w w' := Any.strings_Join Tryd.lays156 Tryd.Builder_Extra_156 bk o c xs sep w hcells hbk hN hcap hlen
def Tryd.lays160_ren : Go.Shelf.Ren := ⟨fun | 160 => 57 | 232 => 77 | 231 => 76 | 227 => 78 | 234 => 80 | 233 => 79 | 236 => 82 | 235 => 81 | 228 => 90 | 271 => 93 | 151 => 92 | 197 => 91 | 120 => 98 | 152 => 97 | 260 => 96 | 137 => 99 | 119 => 100 | 224 => 101 | 225 => 102 | 217 => 103 | 266 => 104 | n => n, fun | 9 => 9 | 4 => 4 | 3 => 3 | 5 => 5 | 117 => 142 | 116 => 141 | 0 => 0 | 124 => 145 | 21 => 21 | 105 => 156 | 46 => 86 | 119 => 163 | 139 => 166 | 138 => 165 | n => n, fun | 3 => 1 | 4 => 2 | n => n⟩
theorem Tryd.lays160 : Go.Proofs.Lays.n160 Tryd.prog Tryd.lays160_ren := {
  mixed := by kernel_rfl
  f119 := Tryd.func100.trans (congrArg some (by kernel_rfl))
  f120 := Tryd.func98.trans (congrArg some (by kernel_rfl))
  f137 := Tryd.func99.trans (congrArg some (by kernel_rfl))
  f151 := Tryd.func92.trans (congrArg some (by kernel_rfl))
  f152 := Tryd.func97.trans (congrArg some (by kernel_rfl))
  f160 := Tryd.func57.trans (congrArg some (by kernel_rfl))
  f197 := Tryd.func91.trans (congrArg some (by kernel_rfl))
  f217 := Tryd.func103.trans (congrArg some (by kernel_rfl))
  f224 := Tryd.func101.trans (congrArg some (by kernel_rfl))
  f225 := Tryd.func102.trans (congrArg some (by kernel_rfl))
  f227 := Tryd.func78.trans (congrArg some (by kernel_rfl))
  f228 := Tryd.func90.trans (congrArg some (by kernel_rfl))
  f231 := Tryd.func76.trans (congrArg some (by kernel_rfl))
  f232 := Tryd.func77.trans (congrArg some (by kernel_rfl))
  f233 := Tryd.func79.trans (congrArg some (by kernel_rfl))
  f234 := Tryd.func80.trans (congrArg some (by kernel_rfl))
  f235 := Tryd.func81.trans (congrArg some (by kernel_rfl))
  f236 := Tryd.func82.trans (congrArg some (by kernel_rfl))
  f260 := Tryd.func96.trans (congrArg some (by kernel_rfl))
  f266 := Tryd.func104.trans (congrArg some (by kernel_rfl))
  f271 := Tryd.func93.trans (congrArg some (by kernel_rfl))
  t0 := Tryd.underlying0
  a0 := Tryd.isAgg0
  z0 := Tryd.sizeOf0
  v0 := Tryd.zeroValue0
  t3 := Tryd.underlying3
  a3 := Tryd.isAgg3
  z3 := Tryd.sizeOf3
  v3 := Tryd.zeroValue3
  t4 := Tryd.underlying4
  a4 := Tryd.isAgg4
  z4 := Tryd.sizeOf4
  v4 := Tryd.zeroValue4
  t5 := Tryd.underlying5
  a5 := Tryd.isAgg5
  z5 := Tryd.sizeOf5
  v5 := Tryd.zeroValue5
  t9 := Tryd.underlying9
  a9 := Tryd.isAgg9
  z9 := Tryd.sizeOf9
  v9 := Tryd.zeroValue9
  t21 := Tryd.underlying21
  a21 := Tryd.isAgg21
  z21 := Tryd.sizeOf21
  v21 := Tryd.zeroValue21
  t46 := Tryd.underlying86
  a46 := Tryd.isAgg86
  z46 := Tryd.sizeOf86
  v46 := Tryd.zeroValue86
  t105 := Tryd.underlying156
  a105 := Tryd.isAgg156
  z105 := Tryd.sizeOf156
  v105 := Tryd.zeroValue156
  t116 := Tryd.underlying141
  a116 := Tryd.isAgg141
  z116 := Tryd.sizeOf141
  t117 := Tryd.underlying142
  a117 := Tryd.isAgg142
  z117 := Tryd.sizeOf142
  v117 := Tryd.zeroValue142
  t119 := Tryd.underlying163
  a119 := Tryd.isAgg163
  z119 := Tryd.sizeOf163
  t124 := Tryd.underlying145
  a124 := Tryd.isAgg145
  z124 := Tryd.sizeOf145
  v124 := Tryd.zeroValue145
  t138 := Tryd.underlying165
  a138 := Tryd.isAgg165
  z138 := Tryd.sizeOf165
  v138 := Tryd.zeroValue165
  t139 := Tryd.underlying166
  a139 := Tryd.isAgg166
  z139 := Tryd.sizeOf166
  v139 := Tryd.zeroValue166
  g3 := by kernel_rfl
  g4 := by kernel_rfl }
open Go.RowKit in
/-- strings.Trim: "Trim returns a slice of the string s with all leading and trailing Unicode code points contained in cutset removed.": AT A cutset OF ONE ASCII BYTE. THE WORLD BEHIND IT: as it was, or (where s is not empty) with ONE DRAW MORE off the tape: the statement 'return trimLeftByte(trimRightByte(s, c), c)' draws its order of evaluation. (LAID: no walk: one application.) -/
theorem Tryd.strings_Trim_one (s : ByteArray) (c : UInt8) (hc : c.toNat < 128) (w : World) (hs : s.size ≤ 9223372036854775807) :
    Calls Tryd.prog 57 #[.string s, .string ⟨#[c]⟩] w fun e w' => e = .returned (.string ⟨(Lib.trimB s.data.toList c).toArray⟩) ∧ (w' = w ∨ w' = w.drew) := Any.strings_Trim_one Tryd.lays160 s c hc w hs
def Tryd.lays105_ren : Go.Shelf.Ren := ⟨fun | 105 => 42 | 212 => 58 | 99 => 59 | 165 => 60 | 166 => 61 | 170 => 62 | 169 => 63 | 263 => 83 | 264 => 84 | 206 => 85 | 240 => 86 | 241 => 87 | 276 => 94 | 277 => 95 | n => n, fun | 9 => 9 | 3 => 3 | 4 => 4 | 20 => 20 | 0 => 0 | 46 => 86 | 109 => 105 | 5 => 5 | 72 => 110 | 76 => 114 | 51 => 146 | 146 => 147 | 53 => 149 | 148 => 150 | 70 => 108 | 37 => 35 | 75 => 113 | 127 => 152 | 164 => 159 | 80 => 117 | n => n, fun | n => n⟩
theorem Tryd.lays105 : Go.Proofs.Lays.n105 Tryd.prog Tryd.lays105_ren := {
  mixed := by kernel_rfl
  f99 := Tryd.func59.trans (congrArg some (by kernel_rfl))
  f105 := Tryd.func42.trans (congrArg some (by kernel_rfl))
  f165 := Tryd.func60.trans (congrArg some (by kernel_rfl))
  f166 := Tryd.func61.trans (congrArg some (by kernel_rfl))
  f169 := Tryd.func63.trans (congrArg some (by kernel_rfl))
  f170 := Tryd.func62.trans (congrArg some (by kernel_rfl))
  f206 := Tryd.func85.trans (congrArg some (by kernel_rfl))
  f212 := Tryd.func58.trans (congrArg some (by kernel_rfl))
  f240 := Tryd.func86.trans (congrArg some (by kernel_rfl))
  f241 := Tryd.func87.trans (congrArg some (by kernel_rfl))
  f263 := Tryd.func83.trans (congrArg some (by kernel_rfl))
  f264 := Tryd.func84.trans (congrArg some (by kernel_rfl))
  f276 := Tryd.func94.trans (congrArg some (by kernel_rfl))
  f277 := Tryd.func95.trans (congrArg some (by kernel_rfl))
  t0 := Tryd.underlying0
  a0 := Tryd.isAgg0
  z0 := Tryd.sizeOf0
  v0 := Tryd.zeroValue0
  t3 := Tryd.underlying3
  a3 := Tryd.isAgg3
  z3 := Tryd.sizeOf3
  v3 := Tryd.zeroValue3
  t4 := Tryd.underlying4
  a4 := Tryd.isAgg4
  z4 := Tryd.sizeOf4
  v4 := Tryd.zeroValue4
  t5 := Tryd.underlying5
  a5 := Tryd.isAgg5
  z5 := Tryd.sizeOf5
  v5 := Tryd.zeroValue5
  t9 := Tryd.underlying9
  a9 := Tryd.isAgg9
  z9 := Tryd.sizeOf9
  v9 := Tryd.zeroValue9
  t20 := Tryd.underlying20
  a20 := Tryd.isAgg20
  z20 := Tryd.sizeOf20
  v20 := Tryd.zeroValue20
  t37 := Tryd.underlying35
  a37 := Tryd.isAgg35
  z37 := Tryd.sizeOf35
  v37 := Tryd.zeroValue35
  t46 := Tryd.underlying86
  a46 := Tryd.isAgg86
  z46 := Tryd.sizeOf86
  v46 := Tryd.zeroValue86
  t51 := Tryd.underlying146
  a51 := Tryd.isAgg146
  z51 := Tryd.sizeOf146
  v51 := Tryd.zeroValue146
  t53 := Tryd.underlying149
  a53 := Tryd.isAgg149
  z53 := Tryd.sizeOf149
  v53 := Tryd.zeroValue149
  t70 := Tryd.underlying108
  a70 := Tryd.isAgg108
  z70 := Tryd.sizeOf108
  v70 := Tryd.zeroValue108
  t72 := Tryd.underlying110
  a72 := Tryd.isAgg110
  z72 := Tryd.sizeOf110
  v72 := Tryd.zeroValue110
  t75 := Tryd.underlying113
  a75 := Tryd.isAgg113
  z75 := Tryd.sizeOf113
  v75 := Tryd.zeroValue113
  t76 := Tryd.underlying114
  a76 := Tryd.isAgg114
  z76 := Tryd.sizeOf114
  v76 := Tryd.zeroValue114
  t109 := Tryd.underlying105
  a109 := Tryd.isAgg105
  z109 := Tryd.sizeOf105
  v109 := Tryd.zeroValue105
  t127 := Tryd.underlying152
  a127 := Tryd.isAgg152
  z127 := Tryd.sizeOf152
  v127 := Tryd.zeroValue152
  t146 := Tryd.underlying147
  a146 := Tryd.isAgg147
  z146 := Tryd.sizeOf147
  v146 := Tryd.zeroValue147
  t148 := Tryd.underlying150
  a148 := Tryd.isAgg150
  z148 := Tryd.sizeOf150
  v148 := Tryd.zeroValue150
  t164 := Tryd.underlying159
  a164 := Tryd.isAgg159
  z164 := Tryd.sizeOf159
  v164 := Tryd.zeroValue159 }
theorem Tryd.Builder_Extra_105 : Builder.Extra Tryd.prog Tryd.lays105_ren := {
  sizeBuilder := by kernel_rfl
  liesBuilder := by kernel_rfl
  t5 := Tryd.underlying5
  a5 := Tryd.isAgg5
  z5 := Tryd.sizeOf5
  v5 := Tryd.zeroValue5
  infoByte := by kernel_rfl
  cellsByte := by kernel_rfl
  sizeByte := by kernel_rfl
  neB5 := by decide }
open Go.RowKit Go.Lib in
/-- **strings.Repeat: count ≥ 0, the result within one allocation: count copies of s.** (LAID: no walk: one application.) -/
theorem Tryd.strings_Repeat (s : ByteArray) (c : Nat) (w : World) (hc : c ≤ 9223372036854775807) (hlen : s.size * c ≤ 140737488355328) :
    Calls Tryd.prog 42 #[.string s, .int .i64 c] w fun e w' => e = .returned (.string ⟨(Lib.repeatL s.data.toList c).toArray⟩) ∧ Below w.heap.size w w' := Any.strings_Repeat Tryd.lays105 Tryd.Builder_Extra_105 s c w hc hlen
def Tryd.laysSlJ14_ren : Go.Shelf.Ren := ⟨fun | 14 => 89 | 15 => 95 | n => n, fun | 26 => 118 | 22 => 35 | 3 => 3 | 4 => 4 | 0 => 0 | 9 => 9 | 20 => 20 | 5 => 5 | n => n, fun | n => n⟩
theorem Tryd.laysSlJ14 : Go.Proofs.SlLaysJ.n14 Tryd.prog Tryd.laysSlJ14_ren := {
  mixed := by kernel_rfl
  f14 := Tryd.func89.trans (congrArg some (by kernel_rfl))
  f15 := Tryd.func95.trans (congrArg some (by kernel_rfl))
  t0 := Tryd.underlying0
  a0 := Tryd.isAgg0
  z0 := Tryd.sizeOf0
  v0 := Tryd.zeroValue0
  t3 := Tryd.underlying3
  a3 := Tryd.isAgg3
  z3 := Tryd.sizeOf3
  v3 := Tryd.zeroValue3
  t4 := Tryd.underlying4
  a4 := Tryd.isAgg4
  z4 := Tryd.sizeOf4
  v4 := Tryd.zeroValue4
  t9 := Tryd.underlying9
  a9 := Tryd.isAgg9
  z9 := Tryd.sizeOf9
  v9 := Tryd.zeroValue9
  t20 := Tryd.underlying20
  a20 := Tryd.isAgg20
  z20 := Tryd.sizeOf20
  v20 := Tryd.zeroValue20
  t22 := Tryd.underlying35
  a22 := Tryd.isAgg35
  z22 := Tryd.sizeOf35
  v22 := Tryd.zeroValue35
  t26 := Tryd.underlying118
  a26 := Tryd.isAgg118
  z26 := Tryd.sizeOf118
  v26 := Tryd.zeroValue118
  t5 := Tryd.underlying5
  z5 := Tryd.sizeOf5
  i5 := by kernel_rfl }
open Go.RowKit Go.Lib in
theorem Tryd.bytes_Join_many (b o n c : Nat) (vs : List Value) (ls : List (List UInt8)) (sv : Value) (sep : List UInt8) (w : World) (hn : ls.length = n) (h2 : 2 ≤ n) (hP : Lib.PartsAt w ⟨b, o, none⟩ vs ls) (hcap : n ≤ c) (hS : Lib.HoldsBytes w sv sep) (hn47 : n ≤ 140737488355328) (hlen : Lib.lens ls + sep.length * (n - 1) ≤ 140737488355328) :
    Calls Tryd.prog 89 #[.slice (some ⟨b, o, none⟩) n c, sv] w fun e w' => ∃ v', e = .returned v' ∧ Lib.FreshBytes w.heap.size w' v' (Lib.join ls sep) ∧ Below w.heap.size w w' := Any.bytes_Join_many Tryd.laysSlJ14 b o n c vs ls sv sep w hn h2 hP hcap hS hn47 hlen
open Go.RowKit Go.Lib in
/-- bytes.Join of ONE part, of one byte or more: 'append([]byte(nil), s[0]...)': a new []byte of its bytes; sep is not looked at. (LAID: no walk: one application.) -/
theorem Tryd.bytes_Join_one (b o c : Nat) (ad0 : Addr) (c0 : Nat) (l0 : List UInt8) (sv : Value) (w : World) (hcell : w.cell? ⟨b, o, none⟩ = some (.slice (some ad0) l0.length c0)) (hc : ∀ (i : Nat) x, l0[i]? = some x → w.cell? (ad0.add i) = some (.int .u8 (x.toNat : Int))) (h0 : 0 < l0.length) (hs : l0.length ≤ 140737488355328) :
    Calls Tryd.prog 89 #[.slice (some ⟨b, o, none⟩) 1 c, sv] w fun e w' => ∃ v', e = .returned v' ∧ Lib.FreshBytes w.heap.size w' v' l0 ∧ Below w.heap.size w w' := Any.bytes_Join_one Tryd.laysSlJ14 b o c ad0 c0 l0 sv w hcell hc h0 hs
open Go.RowKit Go.Lib in
/-- bytes.Join of ONE part of no byte (nil or not): 'append([]byte(nil), s[0]...)' IS nil; the world is as it was. (LAID: no walk: one application.) -/
theorem Tryd.bytes_Join_one_empty (b o c : Nat) (p0 : Option Addr) (c0 : Nat) (sv : Value) (w : World) (hcell : w.cell? ⟨b, o, none⟩ = some (.slice p0 0 c0)) :
    Calls Tryd.prog 89 #[.slice (some ⟨b, o, none⟩) 1 c, sv] w fun e w' => e = .returned (.slice none 0 0) ∧ w' = w := Any.bytes_Join_one_empty Tryd.laysSlJ14 b o c p0 c0 sv w hcell
end Go.Proofs
namespace Go.Proofs.YtpmnhlbkgeiomaaDoor.Grd
open Go.RowKit Go.Proofs.YtpmnhlbkgeiomaaDoorW.PrintWords Go.Proofs.YtpmnhlbkgeiomaaDoorW.PrintLast Go.Proofs.YtpmnhlbkgeiomaaDoorW.PrintMore Go.Proofs.YtpmnhlbkgeiomaaDoor.Gf Go.Proofs.YtpmnhlbkgeiomaaDoor.Rowb Go.Proofs.YtpmnhlbkgeiomaaDoor.Fld
open Go.Lib (byteCells byteCells_length)
set_option linter.unusedVariables false
set_option linter.unusedSimpArgs false
def rowV (p : Nat × Nat) (l : List UInt8) : Value := .slice (some ⟨p.1, 0, none⟩) l.length p.2
/-- A grid: the rows' blocks (and room) ps, its rows L. -/
structure GridAt (w : World) (base : Nat) (v : Value) (ps : List (Nat × Nat)) (L : Grid) : Prop where
  outer : w.ownsRow base 35 1 v L.length (List.zipWith rowV ps L)
  len : ps.length = L.length
  row : ∀ (i : Nat) (p : Nat × Nat) (l : List UInt8), ps[i]? = some p → L[i]? = some l → base ≤ p.1 ∧ l.length ≤ p.2 ∧ RowS w p.1 l
  nodup : (ps.map (·.1)).Nodup
theorem row_ne_own {w : World} {base n g : Nat} {l : List UInt8} {v : Value} {xs : List Value} (h : RowS w g l) (ho : w.ownsRow base 35 1 v n xs) : some g ≠ v.ownBlock := by
  obtain ⟨sp, fr, h, _⟩ := h
  rcases ho.2 with ⟨rfl, _⟩ | ⟨g', cap, cur, rfl, _, hh, _⟩
  · simp [Value.ownBlock]
  · intro e
    have e' : g = g' := by injection e
    subst e'
    rw [h] at hh
    injection hh with hh
    injection hh with _ hh _
    exact absurd hh (by decide)
theorem GridAt.below {w w' : World} {base : Nat} {v : Value} {ps : List (Nat × Nat)} {L : Grid} (h : GridAt w base v ps L) (hb : Below w.heap.size w w') : GridAt w' base v ps L :=
  ⟨pw_own_below h.outer hb, h.len, fun i p l h1 h2 => ⟨(h.row i p l h1 h2).1, (h.row i p l h1 h2).2.1, (h.row i p l h1 h2).2.2.below hb⟩, h.nodup⟩
theorem GridAt.lower {w : World} {base base' : Nat} {v : Value} {ps : List (Nat × Nat)} {L : Grid} (h : GridAt w base v ps L) (hb : base' ≤ base) : GridAt w base' v ps L :=
  ⟨⟨h.outer.1, h.outer.2.imp_right (fun ⟨g, cap, cur, h1, h2, h3⟩ => ⟨g, cap, cur, h1, Nat.le_trans hb h2, h3⟩)⟩, h.len, fun i p l h1 h2 => ⟨Nat.le_trans hb (h.row i p l h1 h2).1, (h.row i p l h1 h2).2⟩, h.nodup⟩
theorem zip_row {ps : List (Nat × Nat)} {L : Grid} (hl : ps.length = L.length) (i : Nat) (hi : i < L.length) : (List.zipWith rowV ps L)[i]? = some (rowV (ps[i]'(by omega)) L[i]) := by
  rw [List.getElem?_zipWith, List.getElem?_eq_getElem (by omega), List.getElem?_eq_getElem hi]
/-! one -/
def unitRow (n i : Nat) : List UInt8 := (List.range n).map fun j => if i = j then 1 else 0
theorem unit_set (n i : Nat) (hi : i < n) : (zeros n).set i 1 = unitRow n i := by
  apply List.ext_getElem
  · simp [zeros, unitRow]
  · intro j h1 h2
    rw [List.getElem_set]
    simp [zeros, unitRow]
def nilV : Value := .slice none 0 0
/-- The outer row behind i rounds. -/
def oneOuter (b n i : Nat) : Array Value := ((List.range n).map fun j => if j < i then .slice (some ⟨b + 1 + j, 0, none⟩) n n else nilV).toArray
theorem oneOuter_at (b n i j : Nat) (hj : j < n) : (oneOuter b n i)[j]? = some (if j < i then .slice (some ⟨b + 1 + j, 0, none⟩) n n else nilV) := by
  unfold oneOuter
  rw [List.getElem?_toArray]
  simp [hj]
theorem oneOuter_step (b n i : Nat) (hi : i < n) : (oneOuter b n i).setIfInBounds i (.slice (some ⟨b + 1 + i, 0, none⟩) n n) = oneOuter b n (i + 1) := by
  apply Array.ext_getElem?
  intro j
  by_cases hj : j < n
  · rw [Array.getElem?_setIfInBounds, oneOuter_at b n i j hj, oneOuter_at b n (i + 1) j hj]
    by_cases e : i = j
    · subst e
      rw [if_pos rfl, if_pos (by unfold oneOuter; simpa using hi), if_pos (by omega)]
    · rw [if_neg e]
      by_cases h : j < i
      · rw [if_pos h, if_pos (by omega)]
      · rw [if_neg h, if_neg (by omega)]
  · rw [Array.getElem?_eq_none (by simp [oneOuter]; omega), Array.getElem?_eq_none (by simp [oneOuter]; omega)]
theorem info_row : (Tryd.prog.info? 35).map (fun i => (i.zero, i.size, i.bytes)) = some (some (.slice none 0 0), 1, 24) := by kernel_rfl
theorem run_make_rows (n : Nat) (hn : n ≤ 255) (b : Nat) (w : World) : (Instr.makeSlice 119 (.int .i64 (n : Int)) (.int .i64 (n : Int))).run Tryd.prog w = .ok (.slice (some ⟨w.heap.size, 0, none⟩) n n) (w.alloc (.cells (oneOuter b n 0) 35)) := by
  have := run_make_row' (P := Tryd.prog) 119 35 (.slice none 0 0) 24 Tryd.underlying119 info_row rfl .i64 .i64 n (by omega) (by omega) w
  have e : madeCells #[(Value.slice none 0 0)] n = oneOuter b n 0 := by
    apply Array.ext_getElem?
    intro j
    by_cases hj : j < n
    · rw [oneOuter_at b n 0 j hj, if_neg (by omega)]
      simp [madeCells, hj, Nat.mod_one, nilV]
    · rw [Array.getElem?_eq_none (by simp [madeCells]; omega), Array.getElem?_eq_none (by simp [oneOuter]; omega)]
  rw [e] at this
  exact this
theorem one_grid {W : World} {b n : Nat} (hn : n ≤ 255) (hb : W.heap[b]? = some (.cells (oneOuter b n n) 35 (0, 0))) (hr : ∀ j, j < n → RowB W (b + 1 + j) (unitRow n j)) :
    GridAt W b (.slice (some ⟨b, 0, none⟩) n n) ((List.range n).map fun j => (b + 1 + j, n)) (oneG n) := by
  have hlen : (oneG n).length = n := by simp [oneG]
  refine ⟨⟨by simp [hlen], .inr ⟨b, n, _, by rw [hlen], Nat.le_refl _, hb, by omega, by unfold maxLen; omega, by simp [oneOuter], ?_⟩⟩, by simp [oneG], fun i p l h1 h2 => ?_, ?_⟩
  · apply List.ext_getElem?
    intro j
    unfold oneOuter oneG
    rw [List.getElem?_zipWith]
    by_cases hj : j < n
    · simp [hj, rowV]
    · simp [hj]
  · have hi : i < n := by
      have := (List.getElem?_eq_some_iff.1 h2).1
      omega
    simp [hi] at h1
    simp [oneG, hi] at h2
    subst h1 h2
    exact ⟨by simp; omega, by simp, RowS.of (hr i hi)⟩
  · rw [List.map_map]
    refine nodup_map_of (fun a _ c _ e => ?_) (nodup_range n)
    simp at e
    exact e
def IsOne (n : Nat) (w : World) (e : Ending) (w' : World) : Prop := ∃ v ps, e = .returned v ∧ GridAt w' w.heap.size v ps (oneG n) ∧ (∀ p : Nat × Nat, p ∈ ps → p.2 = n) ∧ Below w.heap.size w w'
set_option maxRecDepth 100000 in
set_option maxHeartbeats 1000000 in
theorem one_walk (w : World) (n : Nat) (hn : n ≤ 255) : Calls Tryd.prog 64 #[.int .i64 (n : Int)] w (IsOne n w) := by
  have hmk := run_make_rows n hn w.heap.size
  have hmb := run_make_bytes n (by omega)
  go_enter Tryd.func64, Tryd.ntmps64
  go_wp2
  go_loopw [4, 9] (fun x i W => ∃ k : Nat, k ≤ n ∧ i = .int .i64 (k : Int) ∧ W.heap.size = w.heap.size + 1 + k ∧ W.heap[w.heap.size]? = some (.cells (oneOuter w.heap.size n k) 35 (0, 0)) ∧ (∀ j, j < k → RowB W (w.heap.size + 1 + j) (unitRow n j)) ∧ Below w.heap.size w W) (fun _ i _ => n - (intOf i).toNat)
  case atStart => exact ⟨0, by omega, rfl, by simp, blk_new _ _, fun j hj => by omega, (Below.refl _ _).alloc (Nat.le_refl _) _⟩
  case round =>
    obtain ⟨k, hk, rfl, hs, hb, hr, hB⟩ := hrel
    by_cases hlt : k < n
    · obtain ⟨W1, hW1⟩ : ∃ W1, W1 = wr.alloc (.cells (byteCells (zeros n)).toArray 5) := ⟨_, rfl⟩
      have hz : W1.heap.size = w.heap.size + 1 + (k + 1) := by rw [hW1]; simp; omega
      have hb1 : W1.heap[w.heap.size]? = some (.cells (oneOuter w.heap.size n k) 35 (0, 0)) := by rw [hW1]; exact blk_alloc hb _
      have hn1 : RowB W1 (w.heap.size + 1 + k) (zeros n) := by rw [hW1, ← hs]; exact blk_new _ _
      have hr1 : ∀ j, j < k → RowB W1 (w.heap.size + 1 + j) (unitRow n j) := fun j hj => by rw [hW1]; exact blk_alloc (hr j hj) _
      have hB1 : Below w.heap.size w W1 := by rw [hW1]; exact hB.alloc (by omega) _
      have hmk1 : (Instr.makeSlice 35 (.int .i64 (n : Int)) (.int .i64 (n : Int))).run Tryd.prog wr = .ok (.slice (some ⟨w.heap.size + 1 + k, 0, none⟩) n n) W1 := by rw [hmb, hW1, hs]
      have c0 : W1.cell? ⟨w.heap.size, k, none⟩ = some nilV := (blk_cell hb1 k).trans (by rw [oneOuter_at _ _ _ _ hlt, if_neg (by omega)])
      have f0 := blk_frozen hb1 k
      have c1 := hn1.cell k (by rw [zeros_len]; exact hlt)
      have f1 := hn1.frozen k
      have HN := Aside0.mk (And.intro hn1 (And.intro hr1 (And.intro hb1 (And.intro hB1 hz))))
      clear hW1 hmk hmb hb hr hB hn1 hr1 hb1 hB1 hs hz
      go_wp2
      obtain ⟨hn1, hr1, hb1, hB1, hz⟩ := HN.out
      have hb2 : ((W1.setCell ⟨w.heap.size, k, none⟩ (.slice (some ⟨w.heap.size + 1 + k, 0, none⟩) n n)).setCell ⟨w.heap.size + 1 + k, k, none⟩ (.int .u8 1)).heap[w.heap.size]? = some (.cells (oneOuter w.heap.size n (k + 1)) 35 (0, 0)) :=
        blk_far (blk_put hb1 k _ (oneOuter_step _ _ _ hlt)) (by show w.heap.size ≠ w.heap.size + 1 + k; omega) _
      have hrow : ∀ j, j < k + 1 → RowB ((W1.setCell ⟨w.heap.size, k, none⟩ (.slice (some ⟨w.heap.size + 1 + k, 0, none⟩) n n)).setCell ⟨w.heap.size + 1 + k, k, none⟩ (.int .u8 1)) (w.heap.size + 1 + j) (unitRow n j) := by
        intro j hj
        by_cases e : j = k
        · subst e
          rw [← unit_set n j hlt]
          exact (hn1.far (p := ⟨w.heap.size, j, none⟩) (by show w.heap.size + 1 + j ≠ w.heap.size; omega) _).put j 1
        · exact ((hr1 j (by omega)).far (p := ⟨w.heap.size, k, none⟩) (by show w.heap.size + 1 + j ≠ w.heap.size; omega) _).far (by show w.heap.size + 1 + j ≠ w.heap.size + 1 + k; omega) _
      have hB2 : Below w.heap.size w ((W1.setCell ⟨w.heap.size, k, none⟩ (.slice (some ⟨w.heap.size + 1 + k, 0, none⟩) n n)).setCell ⟨w.heap.size + 1 + k, k, none⟩ (.int .u8 1)) :=
        (hB1.setCell (Nat.le_refl _) _).setCell (by show w.heap.size ≤ w.heap.size + 1 + k; omega) _
      go_roundw
      case rel => exact ⟨k + 1, by omega, by go_num, by simp; omega, hb2, hrow, hB2⟩
      case measure => simp [intOf]; omega
    · obtain rfl : k = n := by omega
      have HG := Aside0.mk (one_grid hn hb hr)
      have HB := Aside0.mk hB
      clear hb hr hB hmk hmb
      go_wp2
      go_ret
      exact ⟨_, _, rfl, HG.out, fun p hp => by obtain ⟨j, _, rfl⟩ := List.mem_map.1 hp; rfl, HB.out⟩
/-! The matrix of a grid. -/
theorem GridAt.form {w : World} {base : Nat} {v : Value} {ps : List (Nat × Nat)} {L : Grid} (h : GridAt w base v ps L) (hp : 0 < L.length) :
    ∃ g cap cur, v = .slice (some ⟨g, 0, none⟩) L.length cap ∧ base ≤ g ∧ w.heap[g]? = some (.cells cur 35 (0, 0)) ∧ L.length ≤ cap ∧ ∀ i (hi : i < L.length), w.cell? ⟨g, i, none⟩ = some (rowV (ps[i]'(by have := h.len; omega)) L[i]) := by
  rcases h.outer.2 with ⟨_, h0⟩ | ⟨g, cap, cur, hv, hb, hh, hn, hc, hs, ht⟩
  · omega
  · refine ⟨g, cap, cur, hv, hb, hh, hn, fun i hi => ?_⟩
    have h1 := zip_row h.len i hi
    rw [← ht, List.getElem?_take] at h1
    rw [if_pos (by omega)] at h1
    rw [blk_cell hh i, ← Array.getElem?_toList]
    exact h1
theorem lens_same {c : Nat} : ∀ L : Grid, (∀ r, r ∈ L → r.length = c) → Lib.lens L = L.length * c
  | [], _ => by simp [Lib.lens]
  | r :: L, h => by
    have ih := lens_same L (fun x hx => h x (List.mem_cons_of_mem _ hx))
    have h1 := h r List.mem_cons_self
    unfold Lib.lens at ih ⊢
    rw [List.map_cons, List.sum_cons, ih, h1, List.length_cons, Nat.succ_mul, Nat.add_comm]
theorem join_flat (L : Grid) : Lib.join L [] = L.flatten := by
  cases L with
  | nil => rfl
  | cons x r =>
    rw [Lib.join_cons]
    unfold Lib.joinTail
    simp
theorem add_off (b i : Nat) : (⟨b, 0, none⟩ : Addr).add i = ⟨b, i, none⟩ := by unfold Addr.add; split <;> simp_all
def Joined (W : World) (L : Grid) (e : Ending) (w' : World) : Prop := ∃ v', e = .returned v' ∧ (convert 35 9 v').run Tryd.prog w' = .ok (.string ⟨L.flatten.toArray⟩) w' ∧ Below W.heap.size W w'
theorem fresh_text {B : Nat} {w' : World} {v' : Value} {l : List UInt8} (h : Lib.FreshBytes B w' v' l) : (convert 35 9 v').run Tryd.prog w' = .ok (.string ⟨l.toArray⟩) w' := by
  obtain ⟨g, cap, zs, rfl, _, hc, _, hz, hb, hl, hcell, _⟩ := h
  refine run_convert_bytes_back (P := Tryd.prog) w' 35 9 5 ⟨g, 0, none⟩ cap l Tryd.underlying35 Tryd.underlying5 Tryd.underlying9 (fun j hj => ?_)
  rw [add_off, hcell j (by omega)]
  have hj' : j < zs.length := by omega
  have : l[j] = UInt8.ofNat (zs[j]).toNat := by
    have e : l[j]? = some (UInt8.ofNat (zs[j]).toNat) := by
      rw [← hl]
      unfold Lib.bytesOf
      rw [List.getElem?_map, List.getElem?_take, if_pos hj, List.getElem?_eq_getElem hj']
      rfl
    rw [List.getElem?_eq_getElem hj] at e
    injection e
  have hr := hb zs[j] (List.getElem_mem hj')
  rw [this, UInt8.toNat_ofNat', Nat.mod_eq_of_lt (by omega)]
  rw [List.getD_eq_getElem?_getD, List.getElem?_eq_getElem hj']
  simp only [Option.getD_some]
  congr 2
  omega
theorem join_grid {W : World} {base g cap c : Nat} {ps : List (Nat × Nat)} {L : Grid} (h : GridAt W base (.slice (some ⟨g, 0, none⟩) L.length cap) ps L) (hr : ∀ r, r ∈ L → r.length = c) (hc0 : 0 < c) (hc : c ≤ 255) (h1 : 1 ≤ L.length) (h2 : L.length ≤ 255) :
    Calls Tryd.prog 89 #[.slice (some ⟨g, 0, none⟩) L.length cap, .slice none 0 0] W (Joined W L) := by
  obtain ⟨g', cap', cur, hv, _, _, hle, hcell⟩ := h.form h1
  injection hv with hv1 _ hv2
  injection hv1 with hv1
  injection hv1 with hv1
  subst hv1 hv2
  have hrow := fun i (hi : i < L.length) => h.row i _ _ (List.getElem?_eq_getElem (by have := h.len; omega)) (List.getElem?_eq_getElem hi)
  by_cases e : L.length = 1
  · obtain ⟨l, rfl⟩ := List.length_eq_one_iff.1 e
    have hl := hr l List.mem_cons_self
    have hb := hrow 0 (by simp)
    have := Tryd.bytes_Join_one g 0 cap ⟨(ps[0]'(by have := h.len; simp at this; omega)).1, 0, none⟩ (ps[0]'(by have := h.len; simp at this; omega)).2 l (.slice none 0 0) W (hcell 0 (by simp)) (fun i x hx => by
      obtain ⟨hi, rfl⟩ := List.getElem?_eq_some_iff.1 hx
      rw [add_off]
      exact hb.2.2.cell i hi) (by omega) (by omega)
    exact this.mono fun e w' ⟨v', he, hf, hB⟩ => ⟨v', he, by simpa using fresh_text hf, hB⟩
  · have := Tryd.bytes_Join_many g 0 L.length cap (List.zipWith rowV ps L) L (.slice none 0 0) [] W rfl (by omega) ⟨by rw [List.length_zipWith, h.len, Nat.min_self], fun i v hi => by
        have hlt : i < L.length := by
          have := (List.getElem?_eq_some_iff.1 hi).1
          rw [List.length_zipWith, h.len, Nat.min_self] at this
          exact this
        rw [zip_row h.len i hlt] at hi
        injection hi with hi
        subst hi
        rw [add_off]
        exact hcell i hlt, fun i v l hi hl => by
        have hlt := (List.getElem?_eq_some_iff.1 hl).1
        rw [zip_row h.len i hlt] at hi
        injection hi with hi
        subst hi
        obtain ⟨_, rfl⟩ := List.getElem?_eq_some_iff.1 hl
        exact ⟨_, _, rfl, (fun h => by cases h), fun a ha j x hx => by
          injection ha with ha
          subst ha
          obtain ⟨hj, rfl⟩ := List.getElem?_eq_some_iff.1 hx
          rw [add_off]
          exact (hrow i hlt).2.2.cell j hj⟩⟩ hle ⟨none, 0, rfl, fun _ => rfl, fun a ha => by cases ha⟩ (by omega) (by
        rw [lens_same L hr]
        have := Nat.mul_le_mul h2 hc
        simp
        omega)
    rw [join_flat] at this
    exact this.mono fun e w' ⟨v', he, hf, hB⟩ => ⟨v', he, fresh_text hf, hB⟩
def matV (r c : Nat) (s : List UInt8) : Value := .agg #[.int .i64 (r : Int), .int .i64 (c : Int), .string ⟨s.toArray⟩]
set_option maxRecDepth 100000 in
set_option maxHeartbeats 1000000 in
theorem matrix_walk {w : World} {base c : Nat} {v : Value} {ps : List (Nat × Nat)} {L : Grid} (h : GridAt w base v ps L) (hr : ∀ r, r ∈ L → r.length = c) (hc0 : 0 < c) (hc : c ≤ 255) (h1 : 1 ≤ L.length) (h2 : L.length ≤ 255) :
    Calls Tryd.prog 66 #[v] w fun e w' => e = .returned (matV L.length c L.flatten) ∧ Below w.heap.size w w' := by
  obtain ⟨g, cap, cur, rfl, hbg, hh, hle, hcell⟩ := h.form h1
  have c0 := hcell 0 h1
  have hl0 : L[0].length = c := hr _ (List.getElem_mem h1)
  unfold rowV at c0
  rw [hl0] at c0
  have HJ : Aside0 (∀ W, Below w.heap.size w W → Calls Tryd.prog 89 #[.slice (some ⟨g, 0, none⟩) L.length cap, .slice none 0 0] W (Joined W L)) := ⟨fun W hB => join_grid (h.below hB) hr hc0 hc h1 h2⟩
  have hlt : g < w.heap.size := blk_lt hh
  generalize (ps[0]'(by have := h.len; omega)) = p0 at *
  clear hcell hr hh hbg h hl0
  generalize L.length = n at *
  obtain ⟨b1, b2⟩ := p0
  go_enter Tryd.func66, Tryd.ntmps66
  go_wp2
  have hb0 : (w.alloc (.cells #[.int .i64 0, .int .i64 0, .string ⟨#[]⟩] 90)).drew.heap[w.heap.size]? = some (.cells #[.int .i64 0, .int .i64 0, .string ⟨#[]⟩] 90 (0, 0)) := blk_new _ _
  have s0 : (w.alloc (.cells #[.int .i64 0, .int .i64 0, .string ⟨#[]⟩] 90)).drew.cell? ⟨g, 0, none⟩ = some (.slice (some ⟨b1, 0, none⟩) c b2) := ((below_drew1 ((Below.refl _ _).alloc (Nat.le_refl _) _) : Below w.heap.size w _).cell (p := ⟨g, 0, none⟩) hlt).trans c0
  have HB0 : Aside0 (Below w.heap.size w (w.alloc (.cells #[.int .i64 0, .int .i64 0, .string ⟨#[]⟩] 90)).drew) := ⟨below_drew1 ((Below.refl _ _).alloc (Nat.le_refl _) _)⟩
  have HC0 := Aside0.mk hb0
  clear hb0
  have i1 : (0 : Int) < (n : Int) := by omega
  have i2 : 0 < n := h1
  have hne := World.new_ne w ⟨g, 0, none⟩ c0
  go_region_law (first
    | (go_simp; go_at_call 89; refine (HJ.out _ HB0.out).mono ?_; rintro e w1 ⟨v', rfl, hconv, hb1⟩; have HB1 : Aside0 (Below w.heap.size w w1) := ⟨HB0.out.trans (hb1.mono HB0.out.size)⟩; have HC1 := Aside0.mk (blk_below HC0.out hb1); have s1 := (hb1.cell (p := ⟨g, 0, none⟩) (World.block_lt_of_cell? _ _ s0)).trans s0; have d0 := blk_cell HC1.out 0; have d1 := blk_cell HC1.out 1; have d2 := blk_cell HC1.out 2; have f0 := blk_frozen HC1.out 0; have f1 := blk_frozen HC1.out 1; have f2 := blk_frozen HC1.out 2; clear hb1))
  go_wp2
  all_goals
    refine bodyPost_ret (results_cell_row rfl _ _ w.heap.size 90 _ (0, 0) _ rfl (blk_put (blk_put (blk_put HC1.out 0 _ rfl) 1 _ rfl) 2 _ rfl) Tryd.underlying90 rfl (by kernel_rfl)) rfl ?_
    exact ⟨rfl, ((HB1.out.setCell (Nat.le_refl _) _).setCell (Nat.le_refl _) _).setCell (Nat.le_refl _) _⟩
end Go.Proofs.YtpmnhlbkgeiomaaDoor.Grd
namespace Go.Proofs.YtpmnhlbkgeiomaaDoor.Grd
open Go.RowKit Go.Proofs.YtpmnhlbkgeiomaaDoorW.PrintWords Go.Proofs.YtpmnhlbkgeiomaaDoorW.PrintLast Go.Proofs.YtpmnhlbkgeiomaaDoorW.PrintMore Go.Proofs.YtpmnhlbkgeiomaaDoor.Gf Go.Proofs.YtpmnhlbkgeiomaaDoor.Rowb Go.Proofs.YtpmnhlbkgeiomaaDoor.Fld
open Go.Lib (byteCells byteCells_length)
set_option linter.unusedVariables false
set_option linter.unusedSimpArgs false
theorem GridAt.snoc {W w1 : World} {base b cap : Nat} {v v1 : Value} {ps : List (Nat × Nat)} {L : Grid} {l : List UInt8} (h : GridAt W base v ps L) (hb : base ≤ b) (hc : l.length ≤ cap) (hrow : RowS W b l) (hnew : ∀ p : Nat × Nat, p ∈ ps → p.1 ≠ b)
    (ho : w1.ownsRow base 35 1 v1 (L.length + 1) (List.zipWith rowV ps L ++ [rowV (b, cap) l])) (hg : W.grownBy w1 v.ownBlock) : GridAt w1 base v1 (ps ++ [(b, cap)]) (L ++ [l]) := by
  refine ⟨?_, by rw [List.length_append, List.length_append, h.len]; rfl, fun i p r h1 h2 => ?_, ?_⟩
  · rw [List.length_append, List.zipWith_append h.len]
    exact ho
  · by_cases hi : i < L.length
    · rw [List.getElem?_append_left (by rw [h.len]; exact hi)] at h1
      rw [List.getElem?_append_left hi] at h2
      obtain ⟨q1, q2, q3⟩ := h.row i p r h1 h2
      exact ⟨q1, q2, q3.grown hg (row_ne_own q3 h.outer)⟩
    · rw [List.getElem?_append_right (by rw [h.len]; omega), h.len] at h1
      rw [List.getElem?_append_right (by omega)] at h2
      have e : i - L.length = 0 := by
        have := (List.getElem?_eq_some_iff.1 h2).1
        simp at this
        omega
      rw [e] at h1 h2
      simp only [List.getElem?_cons_zero, Option.some.injEq] at h1 h2
      subst h1 h2
      exact ⟨hb, hc, hrow.grown hg (row_ne_own hrow h.outer)⟩
  · rw [List.map_append, List.nodup_append]
    refine ⟨h.nodup, by simp, fun a ha c hcm => ?_⟩
    obtain ⟨p, hp, rfl⟩ := List.mem_map.1 ha
    simp only [List.map_cons, List.map_nil, List.mem_singleton] at hcm
    subst hcm
    exact hnew p hp
theorem GridAt.lt {W : World} {base : Nat} {v : Value} {ps : List (Nat × Nat)} {L : Grid} (h : GridAt W base v ps L) (p : Nat × Nat) (hp : p ∈ ps) : p.1 < W.heap.size := by
  obtain ⟨i, hi, rfl⟩ := List.getElem_of_mem hp
  exact (h.row i _ _ (List.getElem?_eq_getElem hi) (List.getElem?_eq_getElem (by have := h.len; omega))).2.2.lt
def genRow (k r : Nat) : List UInt8 := (List.range k).map (genAt k r)
def genG (k m : Nat) : Grid := (List.range (k + m)).map (genRow k)
theorem genRow_len (k r : Nat) : (genRow k r).length = k := by simp [genRow]
theorem genG_len (k m : Nat) : (genG k m).length = k + m := by simp [genG]
theorem genG_zero (k : Nat) : oneG k = genG k 0 := by
  unfold oneG genG genRow genAt
  refine List.map_congr_left (fun i hi => List.map_congr_left (fun j _ => ?_))
  rw [if_pos (List.mem_range.1 hi)]
theorem genG_succ (k m : Nat) : genG k (m + 1) = genG k m ++ [genRow k (k + m)] := by
  unfold genG
  rw [← Nat.add_assoc, List.range_succ, List.map_append]
  rfl
/-- A row behind j rounds. -/
def genPart (k r j : Nat) : List UInt8 := (List.range j).map (genAt k r) ++ zeros (k - j)
theorem genPart_len (k r j : Nat) (h : j ≤ k) : (genPart k r j).length = k := by simp [genPart, zeros]; omega
theorem genPart_zero (k r : Nat) : genPart k r 0 = zeros k := by simp [genPart]
theorem genPart_full (k r : Nat) : genPart k r k = genRow k r := by simp [genPart, genRow, zeros]
theorem genPart_set (k r j : Nat) (h : j < k) : (genPart k r j).set j (genAt k r j) = genPart k r (j + 1) := by
  unfold genPart
  rw [List.set_append_right _ _ (by simp), List.range_succ, List.map_append]
  have e : zeros (k - j) = 0 :: zeros (k - (j + 1)) := by
    unfold zeros
    rw [show k - j = (k - (j + 1)) + 1 by omega, List.replicate_succ]
  rw [e]
  simp
theorem inv_at {W : World} {p q : Nat} (h : FieldAt W p) (hq : q < 256) (h0 : q ≠ 0) : Calls Tryd.prog 65 #[.pointer (some ⟨p, 0, none⟩), .int .u8 (q : Int)] W fun e w' => e = .returned (.tuple #[.int .u8 ((ginv (UInt8.ofNat q)).toNat : Int), .int .i64 0]) ∧ Drawn0 W w' := by
  have e : (UInt8.ofNat q).toNat = q := by rw [UInt8.toNat_ofNat']; exact Nat.mod_eq_of_lt hq
  have := inv_walk h (UInt8.ofNat q) (fun e2 => h0 (by rw [e2] at e; exact e.symm))
  rwa [e] at this
theorem genAt_inv (k i j : Nat) : genAt k (k + i) j = ginv (UInt8.ofNat ((k + i) ^^^ j)) := by unfold genAt; rw [if_neg (by omega)]
theorem xor_pos {k i j : Nat} (h : j < k) : (k + i) ^^^ j ≠ 0 := fun e => by
  have : (k + i) ^^^ j ^^^ j = 0 ^^^ j := by rw [e]
  rw [Nat.xor_assoc, Nat.xor_self, Nat.xor_zero, Nat.zero_xor] at this
  omega
def GenIs (k m : Nat) (w : World) (e : Ending) (w' : World) : Prop := e = .returned (.tuple #[matV (k + m) k (genG k m).flatten, .int .i64 0]) ∧ Below w.heap.size w w'
set_option maxRecDepth 100000 in
set_option maxHeartbeats 2000000 in
theorem gen_walk (w : World) (k m : Nat) (h1 : 1 ≤ k) (h2 : k + m ≤ 255) : Calls Tryd.prog 44 #[.int .i64 (k : Int), .int .i64 (m : Int)] w (GenIs k m w) := by
  have hmb := run_make_bytes k (by omega)
  have d1 : decide ((k : Int) < 1) = false := by simp; omega
  have d2 : decide ((255 : Int) < (k : Int)) = false := by simp; omega
  have d3 : decide ((m : Int) < 0) = false := by simp
  have d4 : decide ((255 : Int) - (k : Int) < (m : Int)) = false := by simp; omega
  go_enter Tryd.func44, Tryd.ntmps44
  go_wp2_with fail
  refine (new_walk _).mono ?_
  rintro e w1 ⟨rfl, hf1, hb1⟩
  have HB1 : Aside0 (Below w.heap.size w w1) := ⟨((Below.refl w.heap.size w).alloc (Nat.le_refl _) _).trans (hb1.mono (by simp))⟩
  have hres : Aside0 (w1.heap[w.heap.size]? = some (.cells #[.int .i64 0, .int .i64 0, .string ⟨#[]⟩] 90 (0, 0))) := ⟨blk_below (blk_new _ _) hb1⟩
  generalize (w.alloc (Obj.cells #[Value.int IntKind.i64 0, Value.int IntKind.i64 0, Value.string ⟨#[]⟩] 90)).heap.size = p at *
  have HF1 := Aside0.mk hf1
  clear hb1 hf1
  go_wp2_with fail
  refine (one_walk w1 k (by omega)).mono ?_
  rintro e w2 ⟨v2, ps2, rfl, hg2, hp2, hb2⟩
  have hg2' : GridAt w2 w.heap.size v2 ps2 (genG k 0) := by rw [← genG_zero]; exact hg2.lower HB1.out.size
  have HG2 := Aside0.mk (And.intro hg2' hp2)
  have HF2 := Aside0.mk (HF1.out.below hb2)
  have HB2 : Aside0 (Below w.heap.size w w2) := ⟨HB1.out.trans (hb2.mono HB1.out.size)⟩
  have HR2 : Aside0 (w2.heap[w.heap.size]? = some (.cells #[.int .i64 0, .int .i64 0, .string ⟨#[]⟩] 90 (0, 0))) := ⟨blk_below hres.out hb2⟩
  clear hg2 hg2' hp2 hb2 HF1 HB1 hres
  go_wp2
  go_loopw [7, 32] (fun v i W => ∃ (n : Nat) (ps : List (Nat × Nat)), n ≤ m ∧ i = .int .i64 (n : Int) ∧ Aside0 (GridAt W w.heap.size v ps (genG k n) ∧ ∀ p : Nat × Nat, p ∈ ps → p.2 = k) ∧ Aside0 (FieldAt W p) ∧ Aside0 (Below w.heap.size w W) ∧ Aside0 (W.heap[w.heap.size]? = some (.cells #[.int .i64 0, .int .i64 0, .string ⟨#[]⟩] 90 (0, 0)))) (fun _ i _ => m - (intOf i).toNat)
  case atStart => exact ⟨0, ps2, by omega, rfl, HG2, HF2, HB2, HR2⟩
  case round =>
    obtain ⟨n, ps, hn, rfl, HG, HF, HB, HR⟩ := hrel
    clear HG2 HF2 HB2 HR2
    generalize wr = wo at *
    generalize u7 = v at *
    by_cases hlt : n < m
    · obtain ⟨W1, hW1⟩ : ∃ W1, W1 = wo.alloc (.cells (byteCells (zeros k)).toArray 5) := ⟨_, rfl⟩
      obtain ⟨b, hbd⟩ : ∃ b, wo.heap.size = b := ⟨_, rfl⟩
      have hmk1 : (Instr.makeSlice 35 (.int .i64 (k : Int)) (.int .i64 (k : Int))).run Tryd.prog wo = .ok (.slice (some ⟨b, 0, none⟩) k k) W1 := by rw [hmb, hW1, hbd]
      have HN1 : Aside0 (RowB W1 b (genPart k (k + n) 0)) := ⟨by rw [genPart_zero, hW1, ← hbd]; exact blk_new _ _⟩
      have HW1 : Aside0 (Below wo.heap.size wo W1) := ⟨by rw [hW1]; exact below_alloc (Below.refl _ _) _⟩
      have HBD := Aside0.mk hbd
      clear hW1 hmb hbd
      go_wp2
      go_loopw [10, 39] (fun _ j W => ∃ q : Nat, q ≤ k ∧ j = .int .i64 (q : Int) ∧ Aside0 (RowB W b (genPart k (k + n) q)) ∧ Aside0 (Below wo.heap.size wo W)) (fun _ j _ => k - (intOf j).toNat)
      case atStart => exact ⟨0, by omega, rfl, HN1, HW1⟩
      case round =>
        obtain ⟨q, hq, rfl, HP, HW⟩ := hrel
        by_cases hlq : q < k
        · have hfw : FieldAt wr p := HF.out.below HW.out
          have hx := xor_i64 (k + n) q 8 (by omega) (by omega) (by omega)
          have hxl := xor_lt (a := k + n) (b := q) (by omega) (by omega)
          have HI := Aside0.mk (inv_at (q := (k + n) ^^^ q) hfw hxl (xor_pos hlq))
          rw [← genAt_inv] at HI
          have HST : Aside0 (∀ nd, RowB ((wr.drewN nd).setCell ⟨b, q, none⟩ (.int .u8 ((genAt k (k + n) q).toNat : Int))) b (genPart k (k + n) (q + 1))) := ⟨fun nd => by
            have := RowB.put (w := wr.drewN nd) HP.out q (genAt k (k + n) q)
            rwa [genPart_set _ _ _ hlq] at this⟩
          have c0 := HP.out.cell q (by rw [genPart_len _ _ _ hq]; exact hlq)
          have f0 := HP.out.frozen q
          have hbs : wo.heap.size ≤ b := by rw [HBD.out]; exact Nat.le_refl _
          generalize genAt k (k + n) q = y at *
          generalize (k + n) ^^^ q = z at *
          have hx' : bits .xor .i64 ((k : Int) + (n : Int)) (q : Int) = (z : Int) := by rw [← hx]; push_cast; rfl
          clear hx hfw
          go_wp2_with fail
          refine HI.out.mono ?_
          rintro e w5 ⟨rfl, ⟨nd, rfl⟩⟩
          go_wp2
          go_roundw
          case rel => exact ⟨q + 1, by omega, by go_num, ⟨HST.out nd⟩, ⟨(pw_below_drewN HW.out nd).setCell hbs _⟩⟩
          case measure => simp [intOf]; omega
        · obtain rfl : q = k := by omega
          rw [genPart_full] at HP
          have HBW : Aside0 (Below w.heap.size w wr) := ⟨HB.out.trans (HW.out.mono HB.out.size)⟩
          have HGW := Aside0.mk (HG.out.1.below HW.out)
          have HFW := Aside0.mk (HF.out.below HW.out)
          have HRW := Aside0.mk (blk_below HR.out HW.out)
          have HNB : Aside0 (∀ x : Nat × Nat, x ∈ ps → x.1 ≠ b) := ⟨fun x hx e => by
            have := HG.out.1.lt x hx
            have := HBD.out
            omega⟩
          have HGE : Aside0 (w.heap.size ≤ b ∧ b < wr.heap.size) := ⟨by have := HB.out.size; have := HBD.out; omega, HP.out.lt⟩
          have HP2 := Aside0.mk HG.out.2
          have HLR := Aside0.mk (genRow_len q (q + n))
          have HLG := Aside0.mk (genG_len q n)
          have HSU := Aside0.mk (genG_succ q n)
          have HRV : Aside0 (rowV (b, q) (genRow q (q + n)) = .slice (some ⟨b, 0, none⟩) q q) := ⟨by unfold rowV; rw [HLR.out]⟩
          clear HW HB HF HR HN1 HW1 HG hmk1 HBD
          generalize genRow q (q + n) = row at *
          go_wp2_with (first | ((with_reducible refine gate_builtin (b := .append) (xs := #[.tmp 57, .tmp 59]) rfl ?_); at_builtin; refine print_append_cells w.heap.size rfl (.tmp 57) (.tmp 59) 119 35 (.slice none 0 0) 1 24 rfl Tryd.underlying119 info_row rfl (by decide) (by decide) v (genG q n).length (List.zipWith rowV ps (genG q n)) [.slice (some ⟨b, 0, none⟩) q q] rfl rfl rfl (by simp [Value.oneCell']) HGW.out.outer HBW.out HBW.out.size (by rw [HLG.out]; omega) ?_; intro v1 w5 ho5 hb5 hg5 hat5; have HG5 := Aside0.mk (HGW.out.snoc HGE.out.1 (by rw [HLR.out]; exact Nat.le_refl _) (RowS.of HP.out) HNB.out (by rw [HRV.out]; exact ho5) hg5); have HB5 := Aside0.mk hb5; have HF5 : Aside0 (FieldAt w5 p) := ⟨blk_grown HFW.out hg5 (own_ne HGW.out.outer HFW.out (by decide))⟩; have HR5 := Aside0.mk (blk_grown HRW.out hg5 (own_ne HGW.out.outer HRW.out (by decide))); clear ho5 hb5 hg5 hat5))
          go_roundw
          case rel => exact ⟨n + 1, ps ++ [(b, q)], by omega, by go_num, ⟨by rw [HSU.out]; exact HG5.out, fun x hx => by
            rcases List.mem_append.1 hx with hx | hx
            · exact HP2.out x hx
            · rw [List.mem_singleton.1 hx]⟩, HF5, HB5, HR5⟩
          case measure => simp [intOf]; omega
    · obtain rfl : n = m := by omega
      have hM := matrix_walk (c := k) HG.out.1 (fun r hr => by obtain ⟨x, _, rfl⟩ := List.mem_map.1 hr; exact genRow_len k x) (by omega) (by omega) (by rw [genG_len]; omega) (by rw [genG_len]; omega)
      rw [genG_len] at hM
      have HM := Aside0.mk hM
      clear hM HG HF hmb
      go_wp2_with fail
      refine HM.out.mono ?_
      rintro e w6 ⟨rfl, hb6⟩
      have HB6 : Aside0 (Below w.heap.size w w6) := ⟨HB.out.trans (hb6.mono HB.out.size)⟩
      have HC1 := Aside0.mk (blk_below HR.out hb6)
      have s0 := blk_cell HC1.out 0
      have s1 := blk_cell HC1.out 1
      have s2 := blk_cell HC1.out 2
      have f0 := blk_frozen HC1.out 0
      have f1 := blk_frozen HC1.out 1
      have f2 := blk_frozen HC1.out 2
      clear hb6 HB HR
      unfold matV
      go_wp2
      refine bodyPost_ret (results_list (rs := [.cell 4 90, .tmp 5]) rfl (by simp) (Vals.cell w.heap.size 90 _ (0, 0) _ rfl (blk_put (blk_put (blk_put HC1.out 0 _ rfl) 1 _ rfl) 2 _ rfl) Tryd.underlying90 rfl (by kernel_rfl) (Vals.tmp Vals.nil))) rfl ?_
      exact ⟨rfl, ((HB6.out.setCell (Nat.le_refl _) _).setCell (Nat.le_refl _) _).setCell (Nat.le_refl _) _⟩
end Go.Proofs.YtpmnhlbkgeiomaaDoor.Grd
namespace Go.Proofs.YtpmnhlbkgeiomaaDoor.Mk
open Go.RowKit
theorem bytesLess_or_eq : ∀ (a b : List UInt8), (Op.bytesLess a b || a == b) = !Op.bytesLess b a
  | [], [] => by simp [Op.bytesLess]
  | [], b :: y => by simp [Op.bytesLess]
  | a :: x, [] => by simp [Op.bytesLess]
  | a :: x, b :: y => by
    have ih := bytesLess_or_eq x y
    simp only [Op.bytesLess]
    by_cases h : a = b
    · subst h
      have h1 : decide (a < a) = false := by simp
      simp only [h1, Bool.false_or, beq_self_eq_true, Bool.true_and]
      rw [← ih]
      simp
    · have h2 : (a == b) = false := by simpa using h
      have h3 : (b == a) = false := by simpa using fun e => h e.symm
      have h4 : (a :: x == b :: y) = false := by simp [h]
      rw [h2, h3, h4]
      simp only [Bool.false_and, Bool.or_false]
      by_cases h5 : a < b
      · have h6 : ¬ b < a := by intro h7; exact absurd (UInt8.lt_trans h5 h7) (UInt8.lt_irrefl _)
        simp [h5, h6]
      · have h6 : b < a := by
          rcases UInt8.lt_or_lt_of_ne h with h7 | h7
          · exact absurd h7 h5
          · exact h7
        simp [h5, h6]
theorem str_leq (t : TypeId) (a b : ByteArray) : binOp .leq t (.string a) (.string b) = pure (.bool (!(Op.bytesLess b.toList a.toList))) := by
  simp [binOp, Op.stringOp, bytesLess_or_eq]
theorem str_gtr (t : TypeId) (a b : ByteArray) : binOp .gtr t (.string a) (.string b) = pure (.bool (Op.bytesLess b.toList a.toList)) := by
  have h := bytesLess_or_eq a.toList b.toList
  simp only [binOp, Op.stringOp, h, Bool.not_not]
theorem str_geq (t : TypeId) (a b : ByteArray) : binOp .geq t (.string a) (.string b) = pure (.bool (!(Op.bytesLess a.toList b.toList))) := by
  simp [binOp, Op.stringOp]
end Go.Proofs.YtpmnhlbkgeiomaaDoor.Mk
namespace Go.Proofs.YtpmnhlbkgeiomaaDoor.PS
open Go.RowKit Go.Proofs.YtpmnhlbkgeiomaaDoorW.PrintWords Go.Proofs.YtpmnhlbkgeiomaaDoorW.PrintLast Go.Proofs.YtpmnhlbkgeiomaaDoorW.PrintMore
attribute [local go_sem] Mk.str_leq Mk.str_gtr Mk.str_geq max2_int min2_int max_two min_two max_three min_three max_four min_four   -- for this text's walks alone
set_option linter.unusedVariables false
set_option linter.unusedSimpArgs false



def errW : Option Int → Value
 | none => .nilIface
 | some c => .iface 0 (.int .i64 c)
theorem errW_none : errW none = .nilIface := rfl
theorem errW_some (c : Int) : errW (some c) = .iface 0 (.int .i64 c) := rfl

theorem info3 : (Tryd.prog.info? 3).map (fun i => (i.zero, i.size, i.bytes)) = some (some (.int .i64 0), 1, 8) := by kernel_rfl
theorem info9 : (Tryd.prog.info? 9).map (fun i => (i.zero, i.size, i.bytes)) = some (some (.string ⟨#[]⟩), 1, 16) := by kernel_rfl
theorem info37 : (Tryd.prog.info? 37).map (fun i => (i.zero, i.size, i.bytes)) = some (some (.agg #[(.int .i64 0), (.string ⟨#[]⟩)]), 2, 24) := by kernel_rfl
-- the values' own types
/-! #### struct type 37 -/
structure S37 where
 f0 : Int
 f1 : ByteArray
def z37 : S37 := ⟨(0 : Int), (⟨#[]⟩ : ByteArray)⟩
def k37 : Kd S37 := Kd.iso (Kd.pair (Kd.int .i64) Kd.string) (fun x : S37 => (x.f0, x.f1))
theorem k37_open {w : World} {x : S37} {cs : List Value} (h : k37.K w x cs) : cs = [.int .i64 x.f0, .string x.f1] := by
 obtain ⟨_, _, rfl, rfl, rfl⟩ := h
 exact rfl
theorem k37_openM {w : World} {base : Nat} {ok : Nat → Prop} {x : S37} {cs : List Value} (h : k37.M w base ok x cs) : cs = [.int .i64 x.f0, .string x.f1] := by
 obtain ⟨_, _, rfl, rfl, rfl⟩ := h
 exact rfl
theorem k37_mk (w : World) (x : S37)  : k37.K w x [.int .i64 x.f0, .string x.f1] := ⟨[.int .i64 x.f0], [.string x.f1], rfl, rfl, rfl⟩
theorem k37_mkM (w : World) (base : Nat) (ok : Nat → Prop) (x : S37)  : k37.M w base ok x [.int .i64 x.f0, .string x.f1] := ⟨[.int .i64 x.f0], [.string x.f1], rfl, rfl, rfl⟩
def rd_T37 (xs : List S37) (i : Int) : S37 := xs.getD i.toNat z37
theorem at_T37 {w : World} {A : Option Addr} {n : Nat} {xs : List S37} (h : Kd.C k37 w A n xs) (i : Int) (h0 : 0 ≤ i) (h1 : i < n) : ∃ ad , A = some ad ∧ w.cell? (ad.add (i.toNat * 2)) = some (.int .i64 (rd_T37 xs i).f0) ∧ w.cell? ⟨(ad.add (i.toNat * 2)).block, (ad.add (i.toNat * 2)).off + 1, none⟩ = some (.string (rd_T37 xs i).f1) := by
 obtain ⟨ad, c, e, _, hK, hc0⟩ := Kd.C_get h z37 i h0 h1
 have hc : ∀ j u, c[j]? = some u → w.cell? (ad.add (i.toNat * 2 + j)) = some u := hc0
 obtain rfl := k37_open hK
 exact ⟨ad, e, hc 0 _ rfl, by rw [← add_field _ _ 1 (by omega)]; exact hc 1 _ rfl⟩

end Go.Proofs.YtpmnhlbkgeiomaaDoor.PS
namespace Go.Proofs.YtpmnhlbkgeiomaaDoor.PS
open Go.RowKit Go.Proofs.YtpmnhlbkgeiomaaDoorW.PrintWords Go.Proofs.YtpmnhlbkgeiomaaDoorW.PrintLast Go.Proofs.YtpmnhlbkgeiomaaDoorW.PrintMore
attribute [local go_sem] Mk.str_leq Mk.str_gtr Mk.str_geq max2_int min2_int max_two min_two max_three min_three max_four min_four   -- for this text's walks alone
set_option linter.unusedVariables false
set_option linter.unusedSimpArgs false

/-! ### stripe_code: function 24 -/
def stripe_code.f (a0 : Int) (a1 : Int) : Option (Bool) := if a0 ≥ 1 then (if a0 ≤ 255 then (if a1 ≥ 0 then (some (decide (a1 ≤ (wrap64 (255 - a0))))) else (some false)) else (some false)) else (some false)
set_option maxHeartbeats 8000000 in
set_option maxRecDepth 100000 in
theorem stripe_code.calls (a0 : Int) (a1 : Int) (r : Bool) (w : World) (h : stripe_code.f a0 a1 = some r) :
  Calls Tryd.prog 24 #[.int .i64 a0, .int .i64 a1] w fun e w' => e = .returned (.bool r) ∧ Drawn0 w w' := by
 have H : (if a0 ≥ 1 then (if a0 ≤ 255 then (if a1 ≥ 0 then (some (decide (a1 ≤ (wrap64 (255 - a0))))) else (some false)) else (some false)) else (some false)) = some r := h
 clear h
 by_cases c3 : a0 ≥ 1
 ·rw [if_pos c3] at H
  have c3b0 : decide (1 ≤ a0) = true := decide_eq_true c3
  clear c3
  by_cases c4 : a0 ≤ 255
  ·rw [if_pos c4] at H
   have c4b0 : decide (a0 ≤ 255) = true := decide_eq_true c4
   clear c4
   by_cases c5 : a1 ≥ 0
   ·rw [if_pos c5] at H
    have c5b0 : decide (0 ≤ a1) = true := decide_eq_true c5
    clear c5
    obtain rfl := Option.some.inj H
    go_enter Tryd.func24, Tryd.ntmps24
    go_wp2
    go_ret
    exact ⟨by first | rfl | (simp; done) | (simp [*]; done), by repeat (first | exact Drawn0.refl _ | apply Drawn0.step)⟩
   ·rw [if_neg c5] at H
    have c5b0 : decide (0 ≤ a1) = false := decide_eq_false c5
    clear c5
    obtain rfl := Option.some.inj H
    go_enter Tryd.func24, Tryd.ntmps24
    go_wp2
    go_ret
    exact ⟨by first | rfl | (simp; done) | (simp [*]; done), by repeat (first | exact Drawn0.refl _ | apply Drawn0.step)⟩
  ·rw [if_neg c4] at H
   have c4b0 : decide (a0 ≤ 255) = false := decide_eq_false c4
   clear c4
   obtain rfl := Option.some.inj H
   go_enter Tryd.func24, Tryd.ntmps24
   go_wp2
   go_ret
   exact ⟨by first | rfl | (simp; done) | (simp [*]; done), by repeat (first | exact Drawn0.refl _ | apply Drawn0.step)⟩
 ·rw [if_neg c3] at H
  have c3b0 : decide (1 ≤ a0) = false := decide_eq_false c3
  clear c3
  obtain rfl := Option.some.inj H
  go_enter Tryd.func24, Tryd.ntmps24
  go_wp2
  go_ret
  exact ⟨by first | rfl | (simp; done) | (simp [*]; done), by repeat (first | exact Drawn0.refl _ | apply Drawn0.step)⟩

end Go.Proofs.YtpmnhlbkgeiomaaDoor.PS
namespace Go.Proofs.YtpmnhlbkgeiomaaDoor.PS
open Go.RowKit Go.Proofs.YtpmnhlbkgeiomaaDoorW.PrintWords Go.Proofs.YtpmnhlbkgeiomaaDoorW.PrintLast Go.Proofs.YtpmnhlbkgeiomaaDoorW.PrintMore
attribute [local go_sem] Mk.str_leq Mk.str_gtr Mk.str_geq max2_int min2_int max_two min_two max_three min_three max_four min_four   -- for this text's walks alone
set_option linter.unusedVariables false
set_option linter.unusedSimpArgs false

/-! ### stripe_Size: function 41 -/
def stripe_Size.f (a0 : Int) (a1 : Int) : Option (Int × Int) := (stripe_code.f a0 0).bind fun t101 => (if t101 = true then (if a1 < 0 then (some (0, 1)) else (if a1 > 2048 then (some (0, 1)) else (if a0 = 0 then (none) else (some (wrap64 (Int.tdiv (wrap64 ((wrap64 ((wrap64 (4 + a1)) + a0)) - 1)) a0), 0))))) else (some (0, 1)))
set_option maxHeartbeats 8000000 in
set_option maxRecDepth 100000 in
theorem stripe_Size.calls (a0 : Int) (a1 : Int) (r1 : Int) (r2 : Int) (w : World) (h : stripe_Size.f a0 a1 = some (r1, r2)) :
  Calls Tryd.prog 41 #[.int .i64 a0, .int .i64 a1] w fun e w' => e = .returned (.tuple #[.int .i64 r1, .int .i64 r2]) ∧ Drawn0 w w' := by
 have H : ((stripe_code.f a0 0).bind fun t101 => (if t101 = true then (if a1 < 0 then (some (0, 1)) else (if a1 > 2048 then (some (0, 1)) else (if a0 = 0 then (none) else (some (wrap64 (Int.tdiv (wrap64 ((wrap64 ((wrap64 (4 + a1)) + a0)) - 1)) a0), 0))))) else (some (0, 1)))) = some (r1, r2) := h
 clear h
 replace H := Option.bind_eq_some_iff.mp H
 obtain ⟨t101, A30, H⟩ := H
 replace H : (if t101 = true then (if a1 < 0 then (some (0, 1)) else (if a1 > 2048 then (some (0, 1)) else (if a0 = 0 then (none) else (some (wrap64 (Int.tdiv (wrap64 ((wrap64 ((wrap64 (4 + a1)) + a0)) - 1)) a0), 0))))) else (some (0, 1))) = some (r1, r2) := H
 have A3 := Aside0.mk A30
 clear A30
 by_cases c4 : t101 = true
 ·subst c4
  have H1 : (if a1 < 0 then (some (0, 1)) else (if a1 > 2048 then (some (0, 1)) else (if a0 = 0 then (none) else (some (wrap64 (Int.tdiv (wrap64 ((wrap64 ((wrap64 (4 + a1)) + a0)) - 1)) a0), 0))))) = some (r1, r2) := by rw [if_pos rfl] at H; exact H
  clear H
  have H := H1
  clear H1
  by_cases c5 : a1 < 0
  ·rw [if_pos c5] at H
   have c5b0 : decide (a1 < 0) = true := decide_eq_true c5
   clear c5
   simp only [Option.some.injEq, Prod.mk.injEq] at H
   obtain ⟨rfl, rfl⟩ := H
   go_enter Tryd.func41, Tryd.ntmps41
   go_wp2_with (first | ((with_reducible refine gate_callee (f := 24) rfl ?_); refine goesL_ (some 7) rfl rfl Tryd.func24 (by kernel_rfl) rfl #[.int .i64 a0, .int .i64 0] rfl (by (try simp only [List.map_toArray, List.map_cons, List.map_nil]); first | done | rfl | (simp only [List.length_drop, List.length_take]; rfl)) ?_; (with_reducible refine (stripe_code.calls a0 0 true _ A3.out).mono ?_); rintro e w' ⟨rfl, ⟨nd, rfl⟩⟩; refine ⟨_, rfl, ?_⟩))
   go_ret2
   exact ⟨by first | rfl | (simp; done) | (simp [*]; done), by repeat (first | exact Drawn0.refl _ | apply Drawn0.step)⟩
  ·rw [if_neg c5] at H
   have c5b0 : decide (a1 < 0) = false := decide_eq_false c5
   clear c5
   by_cases c6 : a1 > 2048
   ·rw [if_pos c6] at H
    have c6b0 : decide (2048 < a1) = true := decide_eq_true c6
    clear c6
    simp only [Option.some.injEq, Prod.mk.injEq] at H
    obtain ⟨rfl, rfl⟩ := H
    go_enter Tryd.func41, Tryd.ntmps41
    go_wp2_with (first | ((with_reducible refine gate_callee (f := 24) rfl ?_); refine goesL_ (some 7) rfl rfl Tryd.func24 (by kernel_rfl) rfl #[.int .i64 a0, .int .i64 0] rfl (by (try simp only [List.map_toArray, List.map_cons, List.map_nil]); first | done | rfl | (simp only [List.length_drop, List.length_take]; rfl)) ?_; (with_reducible refine (stripe_code.calls a0 0 true _ A3.out).mono ?_); rintro e w' ⟨rfl, ⟨nd, rfl⟩⟩; refine ⟨_, rfl, ?_⟩))
    go_ret2
    exact ⟨by first | rfl | (simp; done) | (simp [*]; done), by repeat (first | exact Drawn0.refl _ | apply Drawn0.step)⟩
   ·rw [if_neg c6] at H
    have c6b0 : decide (2048 < a1) = false := decide_eq_false c6
    clear c6
    by_cases c7 : a0 = 0
    ·rw [if_pos c7] at H
     exact absurd H (by simp)
    ·rw [if_neg c7] at H
     have c7b0 : (a0 == 0) = false := beq_eq_false_iff_ne.mpr c7
     have c7b1 : (a0 != 0) = true := bne_iff_ne.mpr c7
     simp only [Option.some.injEq, Prod.mk.injEq] at H
     obtain ⟨rfl, rfl⟩ := H
     go_enter Tryd.func41, Tryd.ntmps41
     go_wp2_with (first | ((with_reducible refine gate_callee (f := 24) rfl ?_); refine goesL_ (some 7) rfl rfl Tryd.func24 (by kernel_rfl) rfl #[.int .i64 a0, .int .i64 0] rfl (by (try simp only [List.map_toArray, List.map_cons, List.map_nil]); first | done | rfl | (simp only [List.length_drop, List.length_take]; rfl)) ?_; (with_reducible refine (stripe_code.calls a0 0 true _ A3.out).mono ?_); rintro e w' ⟨rfl, ⟨nd, rfl⟩⟩; refine ⟨_, rfl, ?_⟩))
     go_ret2
     exact ⟨by first | rfl | (simp; done) | (simp [*]; done), by repeat (first | exact Drawn0.refl _ | apply Drawn0.step)⟩
 ·replace c4 := Bool.eq_false_iff.mpr c4
  subst c4
  have H1 : (some (0, 1)) = some (r1, r2) := by rw [if_neg (show ¬ (false = true) by decide)] at H; exact H
  clear H
  have H := H1
  clear H1
  simp only [Option.some.injEq, Prod.mk.injEq] at H
  obtain ⟨rfl, rfl⟩ := H
  go_enter Tryd.func41, Tryd.ntmps41
  go_wp2_with (first | ((with_reducible refine gate_callee (f := 24) rfl ?_); refine goesL_ (some 7) rfl rfl Tryd.func24 (by kernel_rfl) rfl #[.int .i64 a0, .int .i64 0] rfl (by (try simp only [List.map_toArray, List.map_cons, List.map_nil]); first | done | rfl | (simp only [List.length_drop, List.length_take]; rfl)) ?_; (with_reducible refine (stripe_code.calls a0 0 false _ A3.out).mono ?_); rintro e w' ⟨rfl, ⟨nd, rfl⟩⟩; refine ⟨_, rfl, ?_⟩))
  go_ret2
  exact ⟨by first | rfl | (simp; done) | (simp [*]; done), by repeat (first | exact Drawn0.refl _ | apply Drawn0.step)⟩

end Go.Proofs.YtpmnhlbkgeiomaaDoor.PS
namespace Go.Proofs.YtpmnhlbkgeiomaaDoor.PS
open Go.RowKit Go.Proofs.YtpmnhlbkgeiomaaDoorW.PrintWords Go.Proofs.YtpmnhlbkgeiomaaDoorW.PrintLast Go.Proofs.YtpmnhlbkgeiomaaDoorW.PrintMore
attribute [local go_sem] Mk.str_leq Mk.str_gtr Mk.str_geq max2_int min2_int max_two min_two max_three min_three max_four min_four   -- for this text's walks alone
set_option linter.unusedVariables false
set_option linter.unusedSimpArgs false

/-! ### stripe_even: function 43 -/
def stripe_even.l0 : Nat → List ByteArray → List ByteArray → Int → Int → Option (Bool)
 | 0, _, _, _, _ => none
 | k + 1, x0, x5, x6, x7 => if x7 < x6 then (if 0 ≤ x7 then (if x7 < (x5.length : Int) then (if 0 < (x0.length : Int) then (if ((rdOf ByteArray.empty x5 x7).size : Int) = ((rdOf ByteArray.empty x0 0).size : Int) then (stripe_even.l0 k x0 x5 x6 (wrap64 (x7 + 1))) else (some false)) else (none)) else (none)) else (none)) else (some true)
def stripe_even.f (k : Nat) (l0 : List ByteArray) : Option (Bool) := stripe_even.l0 k l0 l0 (l0.length : Int) 0
theorem stripe_even.mono_l : ∀ k, (∀ y0 y1 y2 y3, LeO (stripe_even.l0 k y0 y1 y2 y3) (stripe_even.l0 (k + 1) y0 y1 y2 y3))
 | 0 => fun _ _ _ _ r h => by simp [stripe_even.l0] at h
 | k + 1 => by
  have ih0 := stripe_even.mono_l k
  ·intro y0 y1 y2 y3
   unfold stripe_even.l0
   repeat' first
   | (with_reducible exact ih0 _ _ _ _)
   | (with_reducible exact LeO.refl _)
   | (with_reducible exact LeO.none _)
   | (with_reducible refine LeO.ite ?_ ?_)
   | (with_reducible refine LeO.bind ?_ (fun _ => ?_))
   | exact ih0 _ _ _ _
   | exact LeO.none _
   | refine LeO.ite ?_ ?_
   | refine LeO.bind ?_ (fun _ => ?_)
theorem stripe_even.mono : ∀ a0 k, LeO (stripe_even.f k a0) (stripe_even.f (k + 1) a0) := by
 intro a0 k
 have ih0 := stripe_even.mono_l k
 unfold stripe_even.f
 repeat' first
   | (with_reducible exact ih0 _ _ _ _)
   | (with_reducible exact LeO.refl _)
   | (with_reducible exact LeO.none _)
   | (with_reducible refine LeO.ite ?_ ?_)
   | (with_reducible refine LeO.bind ?_ (fun _ => ?_))
   | exact ih0 _ _ _ _
   | exact LeO.none _
   | refine LeO.ite ?_ ?_
   | refine LeO.bind ?_ (fun _ => ?_)
set_option maxHeartbeats 8000000 in
set_option maxRecDepth 100000 in
theorem stripe_even.calls (k : Nat) (A0 : Option Addr) (c0 : Nat) (l0 : List ByteArray) (r : Bool) (w : World) (hr0 : Kd.C Kd.string w A0 l0.length l0) (hc0 : l0.length ≤ c0) (h : stripe_even.f k l0 = some r) :
  Calls Tryd.prog 43 #[.slice A0 l0.length c0] w fun e w' => e = .returned (.bool r) ∧ Drawn0 w w' := by
 have HR0 := Aside0.mk hr0
 have HC0 := Aside0.mk hc0
 clear hr0 hc0
 have H : (stripe_even.l0 k l0 l0 (l0.length : Int) 0) = some r := h
 clear h
 have H' := Aside0.mk H
 clear H
 go_enter Tryd.func43, Tryd.ntmps43
 go_wp2
 go_loopg [7] k (fun kq v7 w' => ∃ (x7_1 : Int), v7 = .int .i64 x7_1 ∧ Aside0 (stripe_even.l0 kq l0 l0 (l0.length : Int) x7_1 = some r) ∧ Aside0 (kq ≤ k) ∧ Drawn0 w w')
 case atStart => exact ⟨(0), (by first | rfl | (simp; done) | (simp [*]; done)), H', ⟨Nat.le_refl _⟩, by repeat (first | exact Drawn0.refl _ | apply Drawn0.step)⟩
 case round =>
  clear H'
  obtain ⟨x7_1, rfl, HA, HK1, ⟨m1, rfl⟩⟩ := hrel
  cases gk with
  | zero => exact absurd HA.out (by simp [stripe_even.l0])
  | succ k1 =>
   have H := HA.out
   clear HA
   simp only [stripe_even.l0] at H
   by_cases c2 : x7_1 < (l0.length : Int)
   ·rw [if_pos c2] at H
    have c2b0 : decide (x7_1 < (l0.length : Int)) = true := decide_eq_true c2
    clear c2
    by_cases c3 : 0 ≤ x7_1
    ·rw [if_pos c3] at H
     have c3b0 : decide (0 ≤ x7_1) = true := decide_eq_true c3
     clear c3
     by_cases c4 : x7_1 < (l0.length : Int)
     ·rw [if_pos c4] at H
      have c4b0 : decide (x7_1 < (l0.length : Int)) = true := decide_eq_true c4
      clear c4
      by_cases c5 : 0 < (l0.length : Int)
      ·rw [if_pos c5] at H
       have c5b0 : decide (0 < (l0.length : Int)) = true := decide_eq_true c5
       have c5b1 : decide (0 < l0.length) = true := decide_eq_true (by omega)
       clear c5
       by_cases c6 : ((rdOf ByteArray.empty l0 x7_1).size : Int) = ((rdOf ByteArray.empty l0 0).size : Int)
       ·rw [if_pos c6] at H
        have c6b0 : (((rdOf ByteArray.empty l0 x7_1).size : Int) == ((rdOf ByteArray.empty l0 0).size : Int)) = true := beq_iff_eq.mpr c6
        have c6b1 : (((rdOf ByteArray.empty l0 x7_1).size : Int) != ((rdOf ByteArray.empty l0 0).size : Int)) = false := bne_eq_false_iff_eq.mpr c6
        have c6b2 : ((rdOf ByteArray.empty l0 x7_1).size == (rdOf ByteArray.empty l0 0).size) = true := by first | simpa using c6 | (simp at c6 ⊢; omega)
        clear c6
        have H' := Aside0.mk H
        clear H
        have p102 : 0 ≤ (x7_1 : Int) := of_decide_eq_true (by first | (with_reducible assumption) | assumption)
        have q102 : x7_1 < (l0.length : Int) := of_decide_eq_true (by first | (with_reducible assumption) | assumption)
        obtain ⟨ad102, e102, hx102_0⟩ := Kd.at_string HR0.out x7_1 p102 q102
        cases e102
        replace p102 := eq_true p102
        replace q102 := eq_true q102
        have p103 : 0 ≤ (0 : Int) := (by omega)
        have q103 : 0 < (l0.length : Int) := of_decide_eq_true (by first | (with_reducible assumption) | assumption)
        obtain ⟨ad103, e103, hx103_0⟩ := Kd.at_string HR0.out 0 p103 q103
        obtain rfl : ad102 = ad103 := (by injection e103)
        have qi103 : (0 < l0.length) = True := eq_true (by omega)
        (try rw [show ((0 : Int)).toNat = 0 from rfl] at hx103_0)
        (try rw [Addr.add_zero'] at hx103_0)
        replace p103 := eq_true p103
        replace q103 := eq_true q103
        go_wp2
        go_roundg k1
        case measure => have := HK1.out; omega
        case rel => exact ⟨(wrap64 (x7_1 + 1)), (by first | rfl | (simp; done) | (simp [*]; done)), H', ⟨by have := HK1.out; omega⟩, by repeat (first | exact Drawn0.refl _ | apply Drawn0.step)⟩
       ·rw [if_neg c6] at H
        have c6b0 : (((rdOf ByteArray.empty l0 x7_1).size : Int) == ((rdOf ByteArray.empty l0 0).size : Int)) = false := beq_eq_false_iff_ne.mpr c6
        have c6b1 : (((rdOf ByteArray.empty l0 x7_1).size : Int) != ((rdOf ByteArray.empty l0 0).size : Int)) = true := bne_iff_ne.mpr c6
        have c6b2 : ((rdOf ByteArray.empty l0 x7_1).size == (rdOf ByteArray.empty l0 0).size) = false := by first | simpa using c6 | (simp at c6 ⊢; omega)
        obtain rfl := Option.some.inj H
        have p102 : 0 ≤ (x7_1 : Int) := of_decide_eq_true (by first | (with_reducible assumption) | assumption)
        have q102 : x7_1 < (l0.length : Int) := of_decide_eq_true (by first | (with_reducible assumption) | assumption)
        obtain ⟨ad102, e102, hx102_0⟩ := Kd.at_string HR0.out x7_1 p102 q102
        cases e102
        replace p102 := eq_true p102
        replace q102 := eq_true q102
        have p103 : 0 ≤ (0 : Int) := (by omega)
        have q103 : 0 < (l0.length : Int) := of_decide_eq_true (by first | (with_reducible assumption) | assumption)
        obtain ⟨ad103, e103, hx103_0⟩ := Kd.at_string HR0.out 0 p103 q103
        obtain rfl : ad102 = ad103 := (by injection e103)
        have qi103 : (0 < l0.length) = True := eq_true (by omega)
        (try rw [show ((0 : Int)).toNat = 0 from rfl] at hx103_0)
        (try rw [Addr.add_zero'] at hx103_0)
        replace p103 := eq_true p103
        replace q103 := eq_true q103
        go_wp2
        go_ret
        exact ⟨by first | rfl | (simp; done) | (simp [*]; done), by repeat (first | exact Drawn0.refl _ | apply Drawn0.step)⟩
      ·rw [if_neg c5] at H
       exact absurd H (by simp)
     ·rw [if_neg c4] at H
      exact absurd H (by simp)
    ·rw [if_neg c3] at H
     exact absurd H (by simp)
   ·rw [if_neg c2] at H
    have c2b0 : decide (x7_1 < (l0.length : Int)) = false := decide_eq_false c2
    clear c2
    obtain rfl := Option.some.inj H
    go_wp2
    go_ret
    exact ⟨by first | rfl | (simp; done) | (simp [*]; done), by repeat (first | exact Drawn0.refl _ | apply Drawn0.step)⟩

end Go.Proofs.YtpmnhlbkgeiomaaDoor.PS
namespace Go.Proofs.YtpmnhlbkgeiomaaDoor.PS
open Go.RowKit Go.Proofs.YtpmnhlbkgeiomaaDoorW.PrintWords Go.Proofs.YtpmnhlbkgeiomaaDoorW.PrintLast Go.Proofs.YtpmnhlbkgeiomaaDoorW.PrintMore Go.Proofs.YtpmnhlbkgeiomaaDoor.Gf Go.Proofs.YtpmnhlbkgeiomaaDoor.Grd Go.Proofs.YtpmnhlbkgeiomaaDoor.Rowb
set_option linter.unusedVariables false
set_option linter.unusedSimpArgs false
theorem pred_of {K k : Nat} (h : K + 1 ≤ k) : ∃ m, k = m + 1 ∧ K ≤ m := ⟨k - 1, by omega, by omega⟩
theorem w64_in (x : Int) (h0 : -9223372036854775808 ≤ x) (h1 : x ≤ 9223372036854775807) : wrap64 x = x := by unfold wrap64; omega
def codeB (k m : Int) : Bool := decide (1 ≤ k ∧ k ≤ 255 ∧ 0 ≤ m ∧ m ≤ 255 - k)
theorem code_f (k m : Int) : stripe_code.f k m = some (codeB k m) := by
  unfold stripe_code.f codeB
  by_cases h1 : k ≥ 1
  · rw [if_pos h1]
    by_cases h2 : k ≤ 255
    · rw [if_pos h2]
      by_cases h3 : m ≥ 0
      · rw [if_pos h3, w64_in _ (by omega) (by omega)]
        congr 1
        rw [decide_eq_decide]
        omega
      · rw [if_neg h3]
        congr 1
        symm
        rw [decide_eq_false_iff_not]
        omega
    · rw [if_neg h2]
      congr 1
      symm
      rw [decide_eq_false_iff_not]
      omega
  · rw [if_neg h1]
    congr 1
    symm
    rw [decide_eq_false_iff_not]
    omega
theorem codeB_nat {k m : Int} (h : codeB k m = true) : ∃ K M : Nat, k = (K : Int) ∧ m = (M : Int) ∧ 1 ≤ K ∧ K + M ≤ 255 := by
  unfold codeB at h
  have := of_decide_eq_true h
  exact ⟨k.toNat, m.toNat, by omega, by omega, by omega, by omega⟩
/-- A shard's length. -/
def sizeN (k long : Nat) : Nat := (4 + long + k - 1) / k
def sizeV (k long : Int) : Int × Int := if codeB k 0 = true ∧ 0 ≤ long ∧ long ≤ 2048 then ((sizeN k.toNat long.toNat : Int), 0) else (0, 1)
theorem size_f (k long : Int) : stripe_Size.f k long = some (sizeV k long) := by
  unfold stripe_Size.f sizeV
  rw [code_f, Option.bind_some]
  by_cases h : codeB k 0 = true
  · obtain ⟨K, M, rfl, hm, h1, h2⟩ := codeB_nat h
    rw [if_pos h]
    by_cases h3 : long < 0
    · rw [if_pos h3, if_neg (by omega)]
    · rw [if_neg h3]
      by_cases h4 : long > 2048
      · rw [if_pos h4, if_neg (by omega)]
      · rw [if_neg h4, if_neg (by omega), if_pos ⟨h, by omega, by omega⟩]
        obtain ⟨L, rfl⟩ : ∃ L : Nat, long = (L : Int) := ⟨long.toNat, by omega⟩
        have e1 : wrap64 ((wrap64 ((wrap64 (4 + (L : Int))) + (K : Int))) - 1) = ((4 + L + K - 1 : Nat) : Int) := by
          rw [w64_in (4 + (L : Int)) (by omega) (by omega), w64_in (4 + (L : Int) + (K : Int)) (by omega) (by omega), w64_in _ (by omega) (by omega)]
          omega
        have e2 : ((4 + L + K - 1 : Nat) : Int).tdiv (K : Int) = ((sizeN K L : Nat) : Int) := by
          rw [Int.tdiv_eq_ediv_of_nonneg (by omega)]
          unfold sizeN
          rw [Int.natCast_ediv]
        have e3 : sizeN K L ≤ 4 + L + K - 1 := Nat.div_le_self _ _
        rw [e1, e2, w64_in _ (by omega) (by omega)]
        simp
  · rw [if_neg h, if_neg (fun e => h e.1)]
/-- Are shards as long, all of them? -/
def evenB (l : List ByteArray) : Bool := l.all (fun s => s.size == (rdOf ByteArray.empty l 0).size)
theorem rdOf_nat (l : List ByteArray) (i : Nat) (h : i < l.length) : rdOf ByteArray.empty l (i : Int) = l[i] := by
  unfold rdOf
  simp [List.getElem?_eq_getElem h]
theorem even_from (l : List ByteArray) (hl : l.length ≤ 9223372036854775807) (d : Nat) : ∀ i, i + d = l.length → (∀ j, j < i → ∀ (h : j < l.length), (l[j].size == (rdOf ByteArray.empty l 0).size) = true) → Ev (fun k => stripe_even.l0 k l l (l.length : Int) (i : Int)) (evenB l) := by
  induction d with
  | zero =>
    intro i hi hb
    refine ⟨1, fun k hk => ?_⟩
    obtain ⟨m, rfl, _⟩ := pred_of (K := 0) hk
    show stripe_even.l0 (m + 1) l l (l.length : Int) (i : Int) = _
    simp only [stripe_even.l0]
    rw [if_neg (by omega)]
    congr 1
    symm
    unfold evenB
    rw [List.all_eq_true]
    intro s hs
    obtain ⟨j, hj, rfl⟩ := List.getElem_of_mem hs
    exact hb j (by omega) hj
  | succ d ih =>
    intro i hi hb
    have hil : i < l.length := by omega
    by_cases e : (l[i].size == (rdOf ByteArray.empty l 0).size) = true
    · obtain ⟨K, hK⟩ := ih (i + 1) (by omega) (fun j hj h => by
        by_cases e2 : j = i
        · subst e2; exact e
        · exact hb j (by omega) h)
      refine ⟨K + 1, fun k hk => ?_⟩
      obtain ⟨m, rfl, hm⟩ := pred_of hk
      show stripe_even.l0 (m + 1) l l (l.length : Int) (i : Int) = _
      simp only [stripe_even.l0]
      have e' : l[i].size = (rdOf ByteArray.empty l 0).size := by simpa using e
      rw [if_pos (by omega), if_pos (by omega), if_pos (by omega), if_pos (by omega), rdOf_nat l i hil, if_pos (by omega), w64_in _ (by omega) (by omega)]
      exact hK m hm
    · refine ⟨1, fun k hk => ?_⟩
      obtain ⟨m, rfl, _⟩ := pred_of (K := 0) hk
      show stripe_even.l0 (m + 1) l l (l.length : Int) (i : Int) = _
      simp only [stripe_even.l0]
      have e' : ¬ l[i].size = (rdOf ByteArray.empty l 0).size := by simpa using e
      rw [if_pos (by omega), if_pos (by omega), if_pos (by omega), if_pos (by omega), rdOf_nat l i hil, if_neg (by omega)]
      congr 1
      symm
      unfold evenB
      rw [List.all_eq_false]
      exact ⟨l[i], List.getElem_mem hil, e⟩
theorem even_f (l : List ByteArray) (hl : l.length ≤ 9223372036854775807) : Ev (fun k => stripe_even.f k l) (evenB l) := even_from l hl l.length 0 (by omega) (fun j hj => by omega)
theorem even_of {l : List ByteArray} (h : evenB l = true) : ∀ s, s ∈ l → s.size = (rdOf ByteArray.empty l 0).size := fun s hs => by
  have := List.all_eq_true.1 h s hs
  simpa using this
theorem even_walk (A0 : Option Addr) (c0 : Nat) (l : List ByteArray) (w : World) (hr0 : Kd.C Kd.string w A0 l.length l) (hc0 : l.length ≤ c0) :
    Calls Tryd.prog 43 #[.slice A0 l.length c0] w fun e w' => e = .returned (.bool (evenB l)) ∧ Drawn0 w w' := by
  obtain ⟨K, hK⟩ := even_f l (by have := Kd.C_max hr0; omega)
  exact stripe_even.calls K A0 c0 l _ w hr0 hc0 (hK K (Nat.le_refl _))
/-! The parity. -/
def dAt (data : List ByteArray) (j at_ : Nat) : UInt8 := (data.getD j ByteArray.empty).data.toList.getD at_ 0
/-- Row r of the code over q of the shards. -/
def accRow (k r n : Nat) (data : List ByteArray) (q : Nat) : List UInt8 := (List.range n).map fun at_ => xs (List.range q) fun j => gmul (genAt k r j) (dAt data j at_)
/-- .., of which t bytes have one shard more. -/
def mixRow (k r n : Nat) (data : List ByteArray) (q t : Nat) : List UInt8 := (List.range n).map fun at_ => xs (List.range (if at_ < t then q + 1 else q)) fun j => gmul (genAt k r j) (dAt data j at_)
theorem acc_len (k r n : Nat) (data : List ByteArray) (q : Nat) : (accRow k r n data q).length = n := by simp [accRow]
theorem mix_len (k r n : Nat) (data : List ByteArray) (q t : Nat) : (mixRow k r n data q t).length = n := by simp [mixRow]
theorem acc_zero (k r n : Nat) (data : List ByteArray) : accRow k r n data 0 = zeros n := by
  unfold accRow zeros
  apply List.ext_getElem
  · simp
  · intro i h1 h2
    simp [xs]
theorem mix_zero (k r n : Nat) (data : List ByteArray) (q : Nat) : mixRow k r n data q 0 = accRow k r n data q := by simp [mixRow, accRow]
theorem mix_full (k r n : Nat) (data : List ByteArray) (q : Nat) : mixRow k r n data q n = accRow k r n data (q + 1) := by
  unfold mixRow accRow
  refine List.map_congr_left (fun i hi => ?_)
  rw [if_pos (List.mem_range.1 hi)]
theorem xs_succ (q : Nat) (f : Nat → UInt8) : xs (List.range (q + 1)) f = xs (List.range q) f ^^^ f q := by
  rw [List.range_succ, xs_append, xs_cons]
  show _ ^^^ (f q ^^^ 0) = _
  rw [UInt8.xor_zero]
theorem mix_get (k r n : Nat) (data : List ByteArray) (q t i : Nat) (h : i < (mixRow k r n data q t).length) : (mixRow k r n data q t)[i] = xs (List.range (if i < t then q + 1 else q)) fun j => gmul (genAt k r j) (dAt data j i) := by simp [mixRow]
theorem mix_at (k r n : Nat) (data : List ByteArray) (q t : Nat) (h : t < n) : (mixRow k r n data q t)[t]'(by rw [mix_len]; exact h) = xs (List.range q) fun j => gmul (genAt k r j) (dAt data j t) := by
  rw [mix_get, if_neg (by omega)]
theorem mix_set (k r n : Nat) (data : List ByteArray) (q t : Nat) (h : t < n) : (mixRow k r n data q t).set t ((xs (List.range q) fun j => gmul (genAt k r j) (dAt data j t)) ^^^ gmul (genAt k r q) (dAt data q t)) = mixRow k r n data q (t + 1) := by
  apply List.ext_getElem
  · rw [List.length_set, mix_len, mix_len]
  · intro i h1 h2
    rw [List.getElem_set, mix_get, mix_get]
    by_cases e : t = i
    · subst e
      rw [if_pos rfl, if_pos (by omega), xs_succ]
    · rw [if_neg e]
      by_cases h3 : i < t
      · rw [if_pos h3, if_pos (by omega)]
      · rw [if_neg h3, if_neg (by omega)]
def txt (l : List UInt8) : ByteArray := ⟨l.toArray⟩
theorem txt_list (l : List UInt8) : (txt l).data.toList = l := by unfold txt; simp
theorem txt_size (l : List UInt8) : (txt l).size = l.length := by show (List.toArray l).size = _; simp
/-- The first r of the parity's shards. -/
def parL (k n : Nat) (data : List ByteArray) (r : Nat) : List ByteArray := (List.range r).map fun i => txt (accRow k (k + i) n data k)
theorem parL_succ (k n : Nat) (data : List ByteArray) (r : Nat) : parL k n data (r + 1) = parL k n data r ++ [txt (accRow k (k + r) n data k)] := by
  unfold parL
  rw [List.range_succ, List.map_append]
  rfl
theorem parL_len (k n : Nat) (data : List ByteArray) (r : Nat) : (parL k n data r).length = r := by simp [parL]
def parityV (k m : Int) (data : List ByteArray) : List ByteArray × Int :=
  if codeB k m = true then (if (data.length : Int) = k ∧ evenB data = true then (if (rdOf ByteArray.empty data 0).size ≤ 2052 then (parL k.toNat (rdOf ByteArray.empty data 0).size data m.toNat, 0) else ([], 2)) else ([], 4)) else ([], 1)
theorem gen_byte (k m r j : Nat) (hr : r < k + m) (hj : j < k) : (genG k m).flatten[r * k + j]? = some (genAt k r j) := by
  have key : ∀ (n : Nat), n ≤ k + m → ∀ r, r < n → ((List.range n).map (genRow k)).flatten[r * k + j]? = some (genAt k r j) ∧ ((List.range n).map (genRow k)).flatten.length = n * k := by
    intro n
    induction n with
    | zero => intro _ r hr; omega
    | succ n ih =>
      intro hn r hr
      have hlen : ((List.range n).map (genRow k)).flatten.length = n * k := by
        cases n with
        | zero => simp
        | succ p => exact (ih (by omega) 0 (by omega)).2
      rw [List.range_succ, List.map_append, List.flatten_append]
      have e2 : (List.map (genRow k) [n]).flatten = genRow k n := by simp
      rw [e2]
      refine ⟨?_, by rw [List.length_append, hlen, genRow_len, Nat.succ_mul]⟩
      by_cases e : r = n
      · subst e
        rw [List.getElem?_append_right (by rw [hlen]; omega), hlen, Nat.add_sub_cancel_left]
        unfold genRow
        simp [hj]
      · have hb : r * k + j < n * k := by
          have : (r + 1) * k ≤ n * k := Nat.mul_le_mul_right _ (by omega)
          rw [Nat.succ_mul] at this
          omega
        rw [List.getElem?_append_left (by rw [hlen]; exact hb)]
        exact (ih (by omega) r (by omega)).1
  exact (key (k + m) (Nat.le_refl _) r hr).1
end Go.Proofs.YtpmnhlbkgeiomaaDoor.PS
namespace Go.Proofs.YtpmnhlbkgeiomaaDoor.PS
open Go.RowKit Go.Proofs.YtpmnhlbkgeiomaaDoorW.PrintWords Go.Proofs.YtpmnhlbkgeiomaaDoorW.PrintLast Go.Proofs.YtpmnhlbkgeiomaaDoorW.PrintMore
attribute [local go_sem] Mk.str_leq Mk.str_gtr Mk.str_geq max2_int min2_int max_two min_two max_three min_three max_four min_four   -- for this text's walks alone
set_option linter.unusedVariables false
set_option linter.unusedSimpArgs false

/-! ### corncribbook_Among: function 10 -/
def corncribbook_Among.f (a0 : Int) (a1 : Int) : Option (Int) := if a1 = 0 then (none) else (some (Int.tmod (wrap64 ((Int.tmod a0 a1) + a1)) a1))
set_option maxHeartbeats 8000000 in
set_option maxRecDepth 100000 in
theorem corncribbook_Among.calls (a0 : Int) (a1 : Int) (r : Int) (w : World) (h : corncribbook_Among.f a0 a1 = some r) :
  Calls Tryd.prog 10 #[.int .i64 a0, .int .i64 a1] w fun e w' => e = .returned (.int .i64 r) ∧ Drawn0 w w' := by
 have H : (if a1 = 0 then (none) else (some (Int.tmod (wrap64 ((Int.tmod a0 a1) + a1)) a1))) = some r := h
 clear h
 by_cases c3 : a1 = 0
 ·rw [if_pos c3] at H
  exact absurd H (by simp)
 ·rw [if_neg c3] at H
  have c3b0 : (a1 == 0) = false := beq_eq_false_iff_ne.mpr c3
  have c3b1 : (a1 != 0) = true := bne_iff_ne.mpr c3
  obtain rfl := Option.some.inj H
  go_enter Tryd.func10, Tryd.ntmps10
  go_wp2
  go_ret
  exact ⟨by first | rfl | (simp; done) | (simp [*]; done), by repeat (first | exact Drawn0.refl _ | apply Drawn0.step)⟩

end Go.Proofs.YtpmnhlbkgeiomaaDoor.PS
namespace Go.Proofs.YtpmnhlbkgeiomaaDoor.PS
open Go.RowKit Go.Proofs.YtpmnhlbkgeiomaaDoorW.PrintWords Go.Proofs.YtpmnhlbkgeiomaaDoorW.PrintLast Go.Proofs.YtpmnhlbkgeiomaaDoorW.PrintMore Go.Proofs.YtpmnhlbkgeiomaaDoor.Gf Go.Proofs.YtpmnhlbkgeiomaaDoor.Fld Go.Proofs.YtpmnhlbkgeiomaaDoor.Grd Go.Proofs.YtpmnhlbkgeiomaaDoor.Rowb
set_option linter.unusedVariables false
set_option linter.unusedSimpArgs false
theorem among_f (x : Int) (n : Nat) (hx : -9223372036854775808 ≤ x) (hx2 : x ≤ 9223372036854775807) (h1 : 1 ≤ n) (h2 : n ≤ 100000) : ∃ y : Nat, y < n ∧ corncribbook_Among.f x (n : Int) = some (y : Int) := by
  unfold corncribbook_Among.f
  rw [if_neg (by omega)]
  have h3 : -(n : Int) < x.tmod (n : Int) ∧ x.tmod (n : Int) < (n : Int) := by
    have ha := Int.lt_tmod_of_pos x (show (0 : Int) < (n : Int) by omega)
    have hb := Int.tmod_lt_of_pos x (show (0 : Int) < (n : Int) by omega)
    exact ⟨ha, hb⟩
  obtain ⟨t, ht⟩ : ∃ t, x.tmod (n : Int) = t := ⟨_, rfl⟩
  rw [ht] at h3 ⊢
  rw [w64_in (t + (n : Int)) (by omega) (by omega)]
  obtain ⟨s, hs⟩ : ∃ s : Nat, t + (n : Int) = (s : Int) := ⟨(t + (n : Int)).toNat, by omega⟩
  rw [hs, Int.tmod_eq_emod_of_nonneg (by omega)]
  refine ⟨s % n, Nat.mod_lt _ (by omega), ?_⟩
  rw [Int.natCast_emod]
theorem wf_i64 {x : Int} (h : (Lit.int .i64 x).wf = true) : -9223372036854775808 ≤ x ∧ x ≤ 9223372036854775807 := by
  have : IntKind.i64.min ≤ x ∧ x ≤ IntKind.i64.max := by simpa [Lit.wf] using h
  exact this
end Go.Proofs.YtpmnhlbkgeiomaaDoor.PS
namespace Go.Proofs.YtpmnhlbkgeiomaaDoor.Read
open Go.RowKit Go.Proofs.YtpmnhlbkgeiomaaDoorW.PrintWords
set_option linter.unusedVariables false
/-- Type t reads as kind d; what is read is good. -/
structure Opens {α : Type} (P : Program) (d : Kd α) (t : TypeId) (good : α → Prop) : Prop where
  sz : P.cellsOf t = d.sz
  read : ∀ {H : Type} {enc : TypeId × Value → H} {W : World} {base : Nat} {sp : Nat → Bool} {held : Bool} {fuel : Nat} {cs : List Value} {x : DataW H × List MemPlace},
    DataW.trod enc P W base sp held fuel t cs = some x → (DataW.weights P t x.1).all (· ≤ reachBytes) = true → ∃ a, d.K W a cs ∧ good a
section
variable {P : Program}
theorem opens_int {t : TypeId} {k : IntKind} (ht : P.underlying t = some (.int k)) (hc : P.cellsOf t = 1) : Opens P (Kd.int k) t (fun a => (Lit.int k a).wf = true) := by
  refine ⟨hc, fun {H enc W base sp held fuel cs x} h hs => ?_⟩
  cases fuel with
  | zero => cases h
  | succ n =>
    unfold DataW.trod at h
    rw [ht] at h
    split at h <;> first | cases h | skip
    all_goals first | (simp_all; done) | skip
    rename_i k0 k' m e1
    cases e1
    split at h
    · rename_i hk
      obtain ⟨rfl, hw⟩ := hk
      exact ⟨m, rfl, hw⟩
    · cases h
theorem opens_string {t : TypeId} (ht : P.underlying t = some .string) (hc : P.cellsOf t = 1) : Opens P Kd.string t (fun a => a.size ≤ 140737488351232) := by
  refine ⟨hc, fun {H enc W base sp held fuel cs x} h hs => ?_⟩
  cases fuel with
  | zero => cases h
  | succ n =>
    unfold DataW.trod at h
    rw [ht] at h
    split at h <;> first | cases h | skip
    all_goals first | (simp_all; done) | skip
    split at h
    · cases h
      refine ⟨_, rfl, ?_⟩
      simp only [DataW.weights, List.all_cons, Bool.and_eq_true, decide_eq_true_eq] at hs
      have := hs.1
      rwa [Array.length_toList] at this
    · cases h
/-- Fields, one behind the other, from cell o on. -/
def Parts {α : Type} (P : Program) (d : Kd α) (fs : List Field) (o : Nat) (good : α → Prop) : Prop :=
  ∀ {H : Type} {enc : TypeId × Value → H} {W : World} {base : Nat} {sp : Nat → Bool} {held : Bool} {fuel : Nat} {cs : List Value} {xs : List (DataW H × List MemPlace)},
    fs.mapM (fun f => DataW.trod enc P W base sp held fuel f.type ((cs.drop f.offset).take (P.cellsOf f.type))) = some xs →
    (DataW.weightsEach P (fs.map (·.type)) (xs.map (·.1))).all (· ≤ reachBytes) = true → cs.length = o + d.sz → ∃ a, d.K W a (cs.drop o) ∧ good a
theorem parts_one {α : Type} {d : Kd α} {f : Field} {o : Nat} {good : α → Prop} (ho : f.offset = o) (hd : Opens P d f.type good) : Parts P d [f] o good := by
  intro H enc W base sp held fuel cs xs h hs hl
  rw [List.mapM_cons, Option.bind_eq_bind, Option.bind_eq_some_iff] at h
  obtain ⟨y, hy, h⟩ := h
  simp only [List.mapM_nil, Option.pure_def, Option.bind_eq_bind, Option.bind_some, Option.some.injEq] at h
  subst h
  rw [ho, hd.sz, List.take_of_length_le (by rw [List.length_drop]; omega)] at hy
  simp only [List.map_cons, List.map_nil, DataW.weightsEach, List.append_nil] at hs
  exact hd.read hy hs
theorem parts_cons {α β : Type} {a : Kd α} {b : Kd β} {f : Field} {fs : List Field} {o : Nat} {ga : α → Prop} {gb : β → Prop} (ho : f.offset = o) (ha : Opens P a f.type ga) (hb : Parts P b fs (o + a.sz) gb) :
    Parts P (Kd.pair a b) (f :: fs) o (fun x => ga x.1 ∧ gb x.2) := by
  intro H enc W base sp held fuel cs xs h hs hl
  rw [List.mapM_cons, Option.bind_eq_bind, Option.bind_eq_some_iff] at h
  obtain ⟨y, hy, h⟩ := h
  rw [Option.bind_eq_bind, Option.bind_eq_some_iff] at h
  obtain ⟨ys, hys, h⟩ := h
  simp only [Option.pure_def, Option.some.injEq] at h
  subst h
  simp only [List.map_cons, DataW.weightsEach, List.all_append, Bool.and_eq_true] at hs
  have hl' : cs.length = o + (a.sz + b.sz) := hl
  rw [ho, ha.sz] at hy
  obtain ⟨x, hx, gx⟩ := ha.read hy hs.1
  obtain ⟨z, hz, gz⟩ := hb hys hs.2 (by omega)
  refine ⟨(x, z), ⟨_, _, ?_, hx, hz⟩, gx, gz⟩
  rw [← List.drop_drop, List.take_append_drop]
theorem opens_struct {α : Type} {d : Kd α} {t : TypeId} {fs : Array Field} {good : α → Prop} (ht : P.underlying t = some (.struct fs)) (hc : P.cellsOf t = d.sz) (hp : Parts P d fs.toList 0 good) : Opens P d t good := by
  refine ⟨hc, fun {H enc W base sp held fuel cs x} h hs => ?_⟩
  cases fuel with
  | zero => cases h
  | succ n =>
    unfold DataW.trod at h
    rw [ht] at h
    split at h <;> first | cases h | skip
    all_goals first | (simp_all; done) | skip
    rename_i fs' cs' e1
    cases e1
    split at h
    · rename_i hl
      rw [Option.map_eq_some_iff] at h
      obtain ⟨xs, hxs, rfl⟩ := h
      simp only [DataW.weights, ht] at hs
      have := hp hxs hs (by rw [hl, hc]; omega)
      simpa using this
    · cases h
theorem opens_good {α : Type} {d : Kd α} {t : TypeId} {good good' : α → Prop} (h : Opens P d t good) (hg : ∀ a, good a → good' a) : Opens P d t good' :=
  ⟨h.sz, fun h1 h2 => by
    obtain ⟨a, hk, hgood⟩ := h.read h1 h2
    exact ⟨a, hk, hg a hgood⟩⟩
theorem weightsEach_at {H : Type} : ∀ {ts : List TypeId} {ds : List (DataW H)} (j : Nat) {t : TypeId} {d : DataW H}, (DataW.weightsEach P ts ds).all (· ≤ reachBytes) = true → ts[j]? = some t → ds[j]? = some d → (DataW.weights P t d).all (· ≤ reachBytes) = true
  | [], _, j, t, d, _, h, _ => by simp at h
  | _ :: _, [], j, t, d, _, _, h => by simp at h
  | t0 :: ts, d0 :: ds, 0, t, d, h, h1, h2 => by
    rw [DataW.weightsEach, List.all_append, Bool.and_eq_true] at h
    simp only [List.getElem?_cons_zero, Option.some.injEq] at h1 h2
    subst h1 h2
    exact h.1
  | t0 :: ts, d0 :: ds, j + 1, t, d, h, h1, h2 => by
    rw [DataW.weightsEach, List.all_append, Bool.and_eq_true] at h
    exact weightsEach_at j h.2 (by simpa using h1) (by simpa using h2)
/-- An argument, read. -/
theorem Opens.arg {α : Type} {d : Kd α} {t : TypeId} {good : α → Prop} (o : Opens P d t good) {H : Type} {enc : TypeId × Value → H} {W : World} {base : Nat} {sp : Nat → Bool} {held : Bool} {v : Value} {x : DataW H} {ps : List MemPlace} {ts : List TypeId} {ds : List (DataW H)}
    (h : DataW.Trod enc P W base sp held t v x ps) (hsz : (DataW.weightsEach P ts ds).all (· ≤ reachBytes) = true) (j : Nat) (ht : ts[j]? = some t) (hd : ds[j]? = some x) : ∃ a, d.K W a v.cells.toList ∧ good a := by
  obtain ⟨n, hn⟩ := h
  exact o.read hn (weightsEach_at j hsz ht hd)
end
theorem str_value {P : Program} {W : World} {s : ByteArray} {v : Value} {r : Reach} {base : Nat} (hu : P.underlying 9 = some .string) (h : Kd.string.K W s v.cells.toList) (hv : Value.okWide P W r base 9 v) : v = .string s := by
  obtain ⟨s', rfl⟩ := Go.WideShapes.okWide_string hu hv
  have e : [Value.string s'] = [Value.string s] := h
  injection e
end Go.Proofs.YtpmnhlbkgeiomaaDoor.Read
namespace Go.Proofs.YtpmnhlbkgeiomaaDoor.Read
open Go.RowKit Go.Proofs.YtpmnhlbkgeiomaaDoorW.PrintWords
set_option linter.unusedVariables false
theorem openStr : Opens Tryd.prog Kd.string 9 (fun s => s.size ≤ 140737488351232) := opens_string Tryd.underlying9 (by kernel_rfl)
end Go.Proofs.YtpmnhlbkgeiomaaDoor.Read
namespace Go.Proofs.YtpmnhlbkgeiomaaDoor.PS
open Go.RowKit Go.Proofs.YtpmnhlbkgeiomaaDoorW.PrintWords Go.Proofs.YtpmnhlbkgeiomaaDoor.Read
set_option linter.unusedVariables false
set_option maxRecDepth 100000
def kCodeM : Kd (Int × Int) := Kd.pair (Kd.int .i64) (Kd.int .i64)
theorem openIntM : Opens Tryd.prog (Kd.int .i64) 3 (fun a => (Lit.int .i64 a).wf = true) := opens_int Tryd.underlying3 (by kernel_rfl)
theorem openCodeM : Opens Tryd.prog kCodeM 23 (fun x => (Lit.int .i64 x.1).wf = true ∧ (Lit.int .i64 x.2).wf = true) :=
  opens_good (opens_struct Tryd.underlying23 (by kernel_rfl) (parts_cons rfl openIntM (parts_one rfl openIntM))) (fun _ h => h)
theorem codeM_value {W : World} {x : Int × Int} {v : Value} (h : kCodeM.K W x v.cells.toList) {p : Prop} (_ : p) : v = .agg #[.int .i64 x.1, .int .i64 x.2] := by
  obtain ⟨_, _, e, rfl, rfl⟩ := h
  cases v <;> simp [Value.cells] at e
  rename_i cs
  congr 1
  exact Array.toList_inj.1 (by simpa using e)
end Go.Proofs.YtpmnhlbkgeiomaaDoor.PS
namespace Go.Proofs.YtpmnhlbkgeiomaaDoor.PS
open Go.RowKit Go.Proofs.YtpmnhlbkgeiomaaDoorW.PrintWords Go.Proofs.YtpmnhlbkgeiomaaDoorW.PrintLast Go.Proofs.YtpmnhlbkgeiomaaDoorW.PrintMore Go.Proofs.YtpmnhlbkgeiomaaDoor.Gf Go.Proofs.YtpmnhlbkgeiomaaDoor.Grd Go.Proofs.YtpmnhlbkgeiomaaDoor.Rowb
open Go.Lib (byteCells byteCells_length)
set_option linter.unusedVariables false
set_option linter.unusedSimpArgs false
/-- The length, ahead of an object. -/
def be4 (L : Nat) : List UInt8 := [0, 0, UInt8.ofNat (L / 256), UInt8.ofNat (L % 256)]
def plainL (K : Nat) (o : ByteArray) : List UInt8 := be4 o.size ++ o.data.toList ++ zeros (sizeN K o.size * K - (4 + o.size))
def shardOf (s : List UInt8) (n i : Nat) : ByteArray := txt ((s.drop (i * n)).take n)
def splitL (K : Nat) (o : ByteArray) : List ByteArray := (List.range K).map (shardOf (plainL K o) (sizeN K o.size))
def splitV (k : Int) (o : ByteArray) : List ByteArray × Int := if codeB k 0 = true then (if o.size ≤ 2048 then (splitL k.toNat o, 0) else ([], 2)) else ([], 1)
theorem sizeN_ge (K L : Nat) (h : 1 ≤ K) : 4 + L ≤ sizeN K L * K := by
  unfold sizeN
  have h1 := Nat.div_add_mod (4 + L + K - 1) K
  have h2 := Nat.mod_lt (4 + L + K - 1) (show K > 0 by omega)
  rw [Nat.mul_comm] at h1
  omega
theorem sizeN_lt (K L : Nat) (h : 1 ≤ K) : sizeN K L * K < 4 + L + K := by
  unfold sizeN
  have h1 := Nat.div_mul_le_self (4 + L + K - 1) K
  omega
theorem plain_len (K : Nat) (o : ByteArray) (h : 1 ≤ K) : (plainL K o).length = sizeN K o.size * K := by
  have := sizeN_ge K o.size h
  unfold plainL be4
  rw [List.length_append, List.length_append, zeros_len, Array.length_toList]
  show 4 + o.size + _ = _
  omega
theorem be4_cells (L : Nat) (h : L ≤ 2048) : (byteCells (be4 L)).toArray = #[.int .u8 ((L : Int) / 16777216), .int .u8 ((L : Int) / 65536), .int .u8 ((L : Int) / 256), .int .u8 ((L : Int) % 256)] := by
  have e1 : (L : Int) / 16777216 = 0 := by omega
  have e2 : (L : Int) / 65536 = 0 := by omega
  have e3 : ((UInt8.ofNat (L / 256)).toNat : Int) = (L : Int) / 256 := by rw [UInt8.toNat_ofNat', Nat.mod_eq_of_lt (by omega)]; omega
  have e4 : ((UInt8.ofNat (L % 256)).toNat : Int) = (L : Int) % 256 := by rw [UInt8.toNat_ofNat', Nat.mod_eq_of_lt (by omega)]; omega
  rw [e1, e2, ← e3, ← e4]
  rfl
theorem be4_text (L : Nat) (h : L ≤ 2048) (W : World) : (convert 35 9 (.slice (some ⟨W.heap.size, 0, none⟩) 4 4)).run Tryd.prog (W.alloc (.cells #[.int .u8 ((L : Int) / 16777216), .int .u8 ((L : Int) / 65536), .int .u8 ((L : Int) / 256), .int .u8 ((L : Int) % 256)] 5)) = .ok (.string (txt (be4 L))) (W.alloc (.cells #[.int .u8 ((L : Int) / 16777216), .int .u8 ((L : Int) / 65536), .int .u8 ((L : Int) / 256), .int .u8 ((L : Int) % 256)] 5)) := by
  rw [← be4_cells L h]
  exact (RowB.new W (be4 L)).whole 4
/-- Texts, one behind the other. -/
def strRow (l : List ByteArray) : Array Value := (l.map Value.string).toArray
theorem strRow_at (l : List ByteArray) (j : Nat) (h : j < l.length) : (strRow l)[j]? = some (.string l[j]) := by
  unfold strRow
  rw [List.getElem?_toArray, List.getElem?_map, List.getElem?_eq_getElem h]
  rfl
theorem strRow_set (l : List ByteArray) (j : Nat) (s : ByteArray) : (strRow l).setIfInBounds j (.string s) = strRow (l.set j s) := by
  unfold strRow
  rw [List.setIfInBounds_toArray, List.map_set]
theorem run_make_strs (n : Nat) (hn : n ≤ 100000) (W : World) : (Instr.makeSlice 26 (.int .i64 (n : Int)) (.int .i64 (n : Int))).run Tryd.prog W = .ok (.slice (some ⟨W.heap.size, 0, none⟩) n n) (W.alloc (.cells (strRow (List.replicate n ⟨#[]⟩)) 9)) := by
  have := run_make_row' (P := Tryd.prog) 26 9 (.string ⟨#[]⟩) 16 Tryd.underlying26 info9 rfl .i64 .i64 n (by omega) (by omega) W
  have e : madeCells #[(Value.string ⟨#[]⟩)] n = strRow (List.replicate n ⟨#[]⟩) := by
    apply Array.ext_getElem?
    intro j
    unfold strRow
    by_cases hj : j < n
    · simp [madeCells, hj, Nat.mod_one]
    · simp [madeCells, hj]
  rw [e] at this
  exact this
/-- A row of texts of the call's own. -/
theorem own_strs {W : World} {base g : Nat} {l : List ByteArray} (hb : base ≤ g) (hm : l.length ≤ maxLen) (h : W.heap[g]? = some (.cells (strRow l) 9 (0, 0))) : Kd.R Kd.string 9 W base (fun _ => True) (.slice (some ⟨g, 0, none⟩) l.length l.length) l :=
  Kd.R_of_own ⟨by simp [encs], .inr ⟨g, l.length, _, rfl, hb, h, Nat.le_refl _, hm, by simp [strRow], by rw [Nat.mul_one, List.take_of_length_le (by simp [strRow])]; simp [strRow, encs]⟩⟩ (fun _ _ => trivial)
/-- The shards behind i rounds. -/
def partL (s : List UInt8) (n K i : Nat) : List ByteArray := (List.range K).map fun j => if j < i then shardOf s n j else ⟨#[]⟩
theorem partL_len (s : List UInt8) (n K i : Nat) : (partL s n K i).length = K := by simp [partL]
theorem partL_zero (s : List UInt8) (n K : Nat) : partL s n K 0 = List.replicate K ⟨#[]⟩ := by
  unfold partL
  apply List.ext_getElem
  · simp
  · intro j h1 h2
    simp
theorem partL_full (s : List UInt8) (n K : Nat) : partL s n K K = (List.range K).map (shardOf s n) := by
  unfold partL
  refine List.map_congr_left (fun j hj => ?_)
  rw [if_pos (List.mem_range.1 hj)]
theorem partL_set (s : List UInt8) (n K i : Nat) (h : i < K) : (partL s n K i).set i (shardOf s n i) = partL s n K (i + 1) := by
  unfold partL
  apply List.ext_getElem
  · simp
  · intro j h1 h2
    rw [List.getElem_set]
    simp only [List.getElem_map, List.getElem_range]
    by_cases e : i = j
    · subst e
      rw [if_pos rfl, if_pos (by omega)]
    · rw [if_neg e]
      by_cases h3 : j < i
      · rw [if_pos h3, if_pos (by omega)]
      · rw [if_neg h3, if_neg (by omega)]
theorem shard_extract (s : ByteArray) (pl : List UInt8) (n i z : Nat) (hs : s = txt pl) (hz : i * n = z) (h : z + n ≤ pl.length) : s.extract z (z + n) = shardOf pl n i := by
  subst hs hz
  unfold shardOf
  apply ByteArray.ext
  apply Array.ext'
  rw [ByteArray.data_extract, Array.toList_extract]
  show (List.extract (txt pl).data.toList _ _) = (txt _).data.toList
  rw [txt_list, txt_list]
  simp [List.extract_eq_take_drop]
theorem repeat_zeros : ∀ z, Lib.repeatL [0] z = zeros z
  | 0 => rfl
  | z + 1 => by
    show [0] ++ Lib.repeatL [0] z = _
    rw [repeat_zeros z]
    rfl
def SplitIs (k : Int) (o : ByteArray) (w : World) (e : Ending) (w' : World) : Prop := ∃ v0_ : Value, e = .returned (.tuple #[v0_, .int .i64 (splitV k o).2]) ∧ Kd.R Kd.string 9 w' w.heap.size (fun _ => True) v0_ (splitV k o).1 ∧ Below w.heap.size w w'
section
variable (K : Nat) (h1 : 1 ≤ K) (h2 : K ≤ 255) (o : ByteArray) (w : World)
include h1 h2
set_option maxRecDepth 100000 in
set_option maxHeartbeats 2000000 in
theorem split_main (ho : o.size ≤ 2048) : Calls Tryd.prog 25 #[.int .i64 (K : Int), .string o] w fun e w' => ∃ v0_ : Value, e = .returned (.tuple #[v0_, .int .i64 0]) ∧ Kd.R Kd.string 9 w' w.heap.size (fun _ => True) v0_ (splitL K o) ∧ Below w.heap.size w w' := by
  have HC : Aside0 (∀ W, Calls Tryd.prog 24 #[.int .i64 (K : Int), .int .i64 0] W fun e w' => e = .returned (.bool true) ∧ Drawn0 W w') := ⟨fun W => stripe_code.calls _ _ _ W (by rw [code_f]; congr 1; unfold codeB; exact decide_eq_true (by omega))⟩
  have HS : Aside0 (∀ W, Calls Tryd.prog 41 #[.int .i64 (K : Int), .int .i64 (o.size : Int)] W fun e w' => e = .returned (.tuple #[.int .i64 (sizeN K o.size : Int), .int .i64 0]) ∧ Drawn0 W w') := ⟨fun W => stripe_Size.calls _ _ _ _ W (by
    rw [size_f]
    unfold sizeV
    rw [if_pos ⟨by unfold codeB; exact decide_eq_true (by omega), by omega, by omega⟩]
    rfl)⟩
  have hn1 := sizeN_ge K o.size h1
  have hn2 := sizeN_lt K o.size h1
  have HP := Aside0.mk (plain_len K o h1)
  have d1 : decide ((2048 : Int) < (o.size : Int)) = false := by simp; omega
  have HSL : Aside0 (splitL K o = (List.range K).map (shardOf (plainL K o) (sizeN K o.size))) := ⟨rfl⟩
  have HPL : Aside0 (plainL K o = be4 o.size ++ o.data.toList ++ zeros (sizeN K o.size * K - (4 + o.size))) := ⟨rfl⟩
  generalize sizeN K o.size = n at *
  generalize splitL K o = sl at *
  generalize plainL K o = pl at *
  go_enter Tryd.func25, Tryd.ntmps25
  go_wp2_with fail
  refine (HC.out _).mono ?_
  rintro e w1 ⟨rfl, ⟨n1, rfl⟩⟩
  go_wp2_with fail
  refine (HS.out _).mono ?_
  rintro e w1 ⟨rfl, ⟨n2, rfl⟩⟩
  have HB1 : Aside0 (Below w.heap.size w (w.drewN (n1 + n2))) := ⟨pw_below_drewN (Below.refl _ _) _⟩
  rw [World.drewN_drewN]
  generalize w.drewN (n1 + n2) = w1 at *
  have hcv := be4_text o.size ho w1
  have htz : (txt (be4 o.size)).size = 4 := by rw [txt_size]; rfl
  have HTL := Aside0.mk (txt_list (be4 o.size))
  generalize txt (be4 o.size) = t4 at *
  generalize hnk : n * K = nk at *
  have hmul : (n : Int) * (K : Int) = (nk : Int) := by rw [← hnk]; push_cast; rfl
  have HNK := Aside0.mk hnk
  obtain ⟨z, hz⟩ : ∃ z, nk - (4 + o.size) = z := ⟨_, rfl⟩
  have hzi : (nk : Int) - (4 + (o.size : Int)) = (z : Int) := by omega
  rw [hz] at HPL
  have hzs : z ≤ 255 := by omega
  clear hnk hz
  go_wp2_with fail
  refine (Tryd.strings_Repeat ⟨#[0]⟩ z _ (by omega) (by show 1 * z ≤ _; omega)).mono ?_
  rintro e w2 ⟨rfl, hb2⟩
  have HB2 : Aside0 (Below w.heap.size w w2) := ⟨(HB1.out.alloc HB1.out.size _).trans (hb2.mono (by have := HB1.out.size; simp; omega))⟩
  have HRZ : Aside0 (t4 ++ o ++ ⟨(Lib.repeatL (⟨#[0]⟩ : ByteArray).data.toList z).toArray⟩ = txt pl) := ⟨by
    apply ByteArray.ext
    apply Array.ext'
    rw [ByteArray.data_append, ByteArray.data_append, Array.toList_append, Array.toList_append, HTL.out, txt_list, HPL.out, List.toList_toArray]
    congr 1
    show Lib.repeatL [0] z = zeros z
    exact repeat_zeros z⟩
  generalize (⟨(Lib.repeatL (⟨#[0]⟩ : ByteArray).data.toList z).toArray⟩ : ByteArray) = rz at *
  have hrz : rz.size = z := by
    have := congrArg ByteArray.size HRZ.out
    rw [ByteArray.size_append, ByteArray.size_append, txt_size, HP.out, htz] at this
    omega
  have hmk := run_make_strs K (by omega)
  clear hb2 HB1 hcv
  go_wp2
  obtain ⟨g, hg⟩ : ∃ g, w2.heap.size = g := ⟨_, rfl⟩
  have HR0 : Aside0 ((w2.alloc (.cells (strRow (List.replicate K ⟨#[]⟩)) 9)).heap[g]? = some (.cells (strRow (partL pl n K 0)) 9 (0, 0))) := ⟨by rw [partL_zero, ← hg]; exact blk_new _ _⟩
  have HB3 : Aside0 (Below w.heap.size w (w2.alloc (.cells (strRow (List.replicate K ⟨#[]⟩)) 9))) := ⟨HB2.out.alloc HB2.out.size _⟩
  have hgb : w.heap.size ≤ g := by rw [← hg]; exact HB2.out.size
  rw [hg]
  obtain ⟨s, hs⟩ : ∃ s, t4 ++ o ++ rz = s := ⟨_, rfl⟩
  rw [hs] at HRZ ⊢
  have hss : s.size = nk := by rw [HRZ.out, txt_size, HP.out]
  clear hs hg HB2 hmk hrz HTL HPL
  generalize w2.alloc (.cells (strRow (List.replicate K ⟨#[]⟩)) 9) = w3 at *
  go_loopw [11, 55] (fun _ i W => ∃ q : Nat, q ≤ K ∧ i = .int .i64 (q : Int) ∧ Aside0 (W.heap[g]? = some (.cells (strRow (partL pl n K q)) 9 (0, 0))) ∧ Aside0 (Below w.heap.size w W)) (fun _ i _ => K - (intOf i).toNat)
  case atStart => exact ⟨0, by omega, rfl, HR0, HB3⟩
  case round =>
    obtain ⟨q, hq, rfl, HX, HB⟩ := hrel
    by_cases hlt : q < K
    · obtain ⟨y, hy⟩ : ∃ y, q * n = y := ⟨_, rfl⟩
      have hy1 : (q : Int) * (n : Int) = (y : Int) := by rw [← hy]; push_cast; rfl
      have hy2 : ((q : Int) + 1) * (n : Int) = (y : Int) + (n : Int) := by rw [Int.add_mul, hy1, Int.one_mul]
      have hyn : y + n ≤ nk := by
        rw [← HNK.out, ← hy, Nat.mul_comm n K]
        have : (q + 1) * n ≤ K * n := Nat.mul_le_mul_right _ (by omega)
        rw [Nat.succ_mul] at this
        exact this
      have HE := Aside0.mk (shard_extract s pl n q y HRZ.out hy (by rw [HP.out]; exact hyn))
      have c0 := (blk_cell HX.out q).trans (strRow_at _ q (by rw [partL_len]; exact hlt))
      have f0 := blk_frozen HX.out q
      have HST : Aside0 (∀ W : World, W.heap = wr.heap → (W.setCell ⟨g, q, none⟩ (.string (shardOf pl n q))).heap[g]? = some (.cells (strRow (partL pl n K (q + 1))) 9 (0, 0))) := ⟨fun W hW => by
        have h0 : W.heap[g]? = some (.cells (strRow (partL pl n K q)) 9 (0, 0)) := by rw [hW]; exact HX.out
        exact blk_put h0 q _ (by rw [strRow_set, partL_set _ _ _ _ hlt])⟩
      have hsl : ∀ W, (Instr.slice 9 (.string s) (some (.int .i64 (y : Int))) (some (.int .i64 ((y : Int) + (n : Int)))) none).run Tryd.prog W = .ok (.string (shardOf pl n q)) W := fun W => by
        have := run_slice_string (P := Tryd.prog) (w := W) 9 s .i64 .i64 (y : Int) ((y : Int) + (n : Int)) Tryd.underlying9 (by omega) (by omega) (by omega)
        rw [this, show ((y : Int) + (n : Int)).toNat = y + n by omega, Int.toNat_natCast, HE.out]
      clear hy
      go_wp2
      go_roundw
      case rel => exact ⟨q + 1, by omega, by go_num, ⟨HST.out _ rfl⟩, ⟨HB.out.setCell hgb _⟩⟩
      case measure => simp [intOf]; omega
    · obtain rfl : q = K := by omega
      rw [partL_full] at HX
      have hfin := own_strs (base := w.heap.size) hgb (by simp [maxLen]; omega) HX.out
      rw [List.length_map, List.length_range] at hfin
      have HFI := Aside0.mk hfin
      clear hfin
      go_wp2
      go_ret2
      exact ⟨_, rfl, by rw [HSL.out]; exact HFI.out, HB.out⟩
end
set_option maxRecDepth 100000 in
set_option maxHeartbeats 1000000 in
theorem split_walk (k : Int) (o : ByteArray) (w : World) : Calls Tryd.prog 25 #[.int .i64 k, .string o] w (SplitIs k o w) := by
  have HC : Aside0 (∀ W, Calls Tryd.prog 24 #[.int .i64 k, .int .i64 0] W fun e w' => e = .returned (.bool (codeB k 0)) ∧ Drawn0 W w') := ⟨fun W => stripe_code.calls _ _ _ W (code_f k 0)⟩
  unfold SplitIs splitV
  cases hcb : codeB k 0 with
  | false =>
    rw [if_neg (by decide)]
    rw [hcb] at HC
    go_enter Tryd.func25, Tryd.ntmps25
    go_wp2_with fail
    refine (HC.out _).mono ?_
    rintro e w1 ⟨rfl, ⟨n1, rfl⟩⟩
    go_wp2
    go_ret2
    exact ⟨_, rfl, Kd.R_nil _ _ _ _ _, pw_below_drewN (Below.refl _ _) _⟩
  | true =>
    rw [if_pos rfl]
    by_cases ho : o.size ≤ 2048
    · rw [if_pos ho]
      obtain ⟨K, M, rfl, hM, h1, h2⟩ := codeB_nat hcb
      have := split_main K h1 (by omega) o w ho
      simpa using this
    · rw [if_neg ho]
      rw [hcb] at HC
      have d1 : decide ((2048 : Int) < (o.size : Int)) = true := by simp; omega
      go_enter Tryd.func25, Tryd.ntmps25
      go_wp2_with fail
      refine (HC.out _).mono ?_
      rintro e w1 ⟨rfl, ⟨n1, rfl⟩⟩
      go_wp2
      go_ret2
      exact ⟨_, rfl, Kd.R_nil _ _ _ _ _, pw_below_drewN (Below.refl _ _) _⟩
def stripe_Split.f (a0 : Int) (a1 : ByteArray) : Option (List ByteArray × Int) := some (splitV a0 a1)
theorem stripe_Split.calls (a0 : Int) (a1 : ByteArray) (r1 : List ByteArray) (r2 : Int) (w : World) (h : stripe_Split.f a0 a1 = some (r1, r2)) :
    Calls Tryd.prog 25 #[.int .i64 a0, .string a1] w fun e w' => ∃ v0_ : Value, e = .returned (.tuple #[v0_, .int .i64 r2]) ∧ Kd.R Kd.string 9 w' w.heap.size (fun _ => True) v0_ r1 ∧ Below w.heap.size w w' := by
  have := split_walk a0 a1 w
  unfold SplitIs at this
  unfold stripe_Split.f at h
  rw [Option.some.inj h] at this
  exact this
end Go.Proofs.YtpmnhlbkgeiomaaDoor.PS
namespace Go.Proofs.YtpmnhlbkgeiomaaDoor.PS
open Go.RowKit Go.Proofs.YtpmnhlbkgeiomaaDoorW.PrintWords Go.Proofs.YtpmnhlbkgeiomaaDoorW.PrintLast Go.Proofs.YtpmnhlbkgeiomaaDoorW.PrintMore Go.Proofs.YtpmnhlbkgeiomaaDoor.Gf Go.Proofs.YtpmnhlbkgeiomaaDoor.Grd Go.Proofs.YtpmnhlbkgeiomaaDoor.Rowb
set_option linter.unusedVariables false
set_option linter.unusedSimpArgs false
theorem or_join (x y i j : Nat) (hij : i ≤ j) (hj : j ≤ 62) (hx : 2 ^ i ∣ x) (hx2 : x < 2 ^ j) (hy : y < 2 ^ i) : bits .or .i64 (x : Int) (y : Int) = ((x + y : Nat) : Int) := by
  have hw : ∀ n : Int, 0 ≤ n → n < 2 ^ j → IntKind.i64.wrap n = n := fun n h0 h1 => by
    have h2 : (2 : Int) ^ j ≤ 2 ^ 62 := by
      have := Nat.pow_le_pow_right (n := 2) (by decide) hj
      exact_mod_cast this
    rw [IntKind.wrap_i64]
    have h3 : (2 : Int) ^ 62 = 4611686018427387904 := by decide
    omega
  have h := (bits_nat .i64 j (by show j ≤ 64; omega) hw x y hx2 (Nat.lt_of_lt_of_le hy (Nat.pow_le_pow_right (by decide) hij))).2
  rw [h]
  obtain ⟨c, rfl⟩ := hx
  rw [Nat.two_pow_add_eq_or_of_lt hy c]
/-- The length ahead of plain bytes. -/
def longOf (s : List UInt8) : Nat := (s.getD 0 0).toNat * 16777216 + (s.getD 1 0).toNat * 65536 + (s.getD 2 0).toNat * 256 + (s.getD 3 0).toNat
def joinS (K : Nat) (s : List UInt8) : ByteArray × Int :=
  if s.length < 4 then (⟨#[]⟩, 41) else if longOf s ≤ 2048 ∧ sizeN K (longOf s) * K = s.length then (if (s.drop (4 + longOf s)).all (· == 0) = true then (txt ((s.drop 4).take (longOf s)), 0) else (⟨#[]⟩, 41)) else (⟨#[]⟩, 41)
def flat (l : List ByteArray) : List UInt8 := (l.map (·.data.toList)).flatten
def joinV (l : List ByteArray) : ByteArray × Int := if 1 ≤ l.length ∧ l.length ≤ 255 then (if evenB l = true then joinS l.length (flat l) else (⟨#[]⟩, 4)) else (⟨#[]⟩, 1)
theorem flat_join (l : List ByteArray) : Lib.join (l.map (·.data.toList)) (⟨#[]⟩ : ByteArray).data.toList = flat l := join_flat _
theorem cell_plain {w : World} {a : Addr} {v : Value} (h : w.cell? a = some v) : a = ⟨a.block, a.off, none⟩ := by
  obtain ⟨b, o, s⟩ := a
  cases s with
  | none => rfl
  | some x =>
    exfalso
    unfold World.cell? at h
    simp only [Option.isSome_some, if_true] at h
    split at h <;> cases h
theorem dw_nil (p : UInt8 → Bool) : ∀ l : List UInt8, l.dropWhile p = [] ↔ ∀ x, x ∈ l → p x = true
  | [] => by simp
  | a :: l => by
    by_cases h : p a = true
    · rw [List.dropWhile_cons_of_pos h, dw_nil p l]
      constructor
      · intro hl x hx
        rcases List.mem_cons.1 hx with rfl | hx
        · exact h
        · exact hl x hx
      · intro hl x hx
        exact hl x (List.mem_cons_of_mem _ hx)
    · rw [List.dropWhile_cons_of_neg h]
      constructor
      · intro hl; cases hl
      · intro hl; exact absurd (hl a List.mem_cons_self) h
theorem dw_head (p : UInt8 → Bool) : ∀ (l : List UInt8) (a : UInt8) (t : List UInt8), l.dropWhile p = a :: t → ¬ p a = true
  | [], a, t, h => by cases h
  | b :: l, a, t, h => by
    by_cases hb : p b = true
    · rw [List.dropWhile_cons_of_pos hb] at h
      exact dw_head p l a t h
    · rw [List.dropWhile_cons_of_neg hb] at h
      injection h with h1 h2
      rw [← h1]; exact hb
theorem trim_all (l : List UInt8) : (Lib.trimB l 0 = []) ↔ l.all (· == 0) = true := by
  unfold Lib.trimB Lib.trimLeftB Lib.trimRightB
  rw [dw_nil, List.all_eq_true]
  constructor
  · intro h
    have h0 : l.reverse.dropWhile (· == 0) = [] := by
      cases hd : l.reverse.dropWhile (· == 0) with
      | nil => rfl
      | cons a t => exact absurd (h a (List.mem_reverse.2 (by rw [hd]; exact List.mem_cons_self))) (dw_head (fun x => x == 0) _ _ _ hd)
    rw [dw_nil] at h0
    intro x hx
    exact h0 x (List.mem_reverse.2 hx)
  · intro h x hx
    have h0 : l.reverse.dropWhile (· == 0) = [] := (dw_nil _ _).2 (fun y hy => h y (List.mem_reverse.1 hy))
    rw [h0] at hx
    simp at hx
section
variable (A0 : Option Addr) (c0 : Nat) (l : List ByteArray) (w : World) (hr : Kd.C Kd.string w A0 l.length l) (hc : l.length ≤ c0)
include hr hc
set_option maxRecDepth 100000 in
set_option maxHeartbeats 2000000 in
theorem join_main (h1 : 1 ≤ l.length) (h2 : l.length ≤ 255) (he : evenB l = true) (hb : (flat l).length ≤ 140737488355328) :
    Calls Tryd.prog 40 #[.slice A0 l.length c0] w fun e w' => e = .returned (.tuple #[.string (joinS l.length (flat l)).1, .int .i64 (joinS l.length (flat l)).2]) ∧ Below w.heap.size w w' := by
  have HE : Aside0 (∀ W, Below w.heap.size w W → Calls Tryd.prog 43 #[.slice A0 l.length c0] W fun e w' => e = .returned (.bool true) ∧ Drawn0 W w') := ⟨fun W hb => by have := even_walk A0 c0 l W (Kd.C_below hr hb) hc; rwa [he] at this⟩
  have HJ : Aside0 (∀ W, Below w.heap.size w W → Calls Tryd.prog 56 #[.slice A0 l.length c0, .string ⟨#[]⟩] W fun e w' => e = .returned (.string (txt (flat l))) ∧ Below W.heap.size W w') := ⟨fun W hB => by
    obtain ⟨ad, hA, hx0⟩ := Kd.at_string hr 0 (by omega) (by omega)
    subst hA
    rw [show ((0 : Int)).toNat = 0 from rfl, Addr.add_zero'] at hx0
    have hp := cell_plain hx0
    obtain ⟨b, o, sp⟩ := ad
    simp only at hp
    have hsp : sp = none := by injection hp
    subst hsp
    have hlt := World.block_lt_of_cell? _ _ hx0
    have := Tryd.strings_Join b o c0 l ⟨#[]⟩ W (fun j x hj => by
      obtain ⟨hj', rfl⟩ := List.getElem?_eq_some_iff.1 hj
      obtain ⟨ad', e', hxj⟩ := Kd.at_string (Kd.C_below hr hB) (j : Int) (by omega) (by omega)
      injection e' with e'
      subst e'
      rw [rdOf_nat l j hj', Int.toNat_natCast] at hxj
      have e2 : (⟨b, o, none⟩ : Addr).add j = ⟨b, o + j, none⟩ := by unfold Addr.add; split <;> simp_all
      rw [e2] at hxj
      exact hxj) (Nat.lt_of_lt_of_le hlt hB.size) (by omega) hc (by rw [flat_join]; exact hb)
    rw [flat_join] at this
    exact this⟩
  have HS : Aside0 (∀ (W : World) (long : Int), Calls Tryd.prog 41 #[.int .i64 (l.length : Int), .int .i64 long] W fun e w' => e = .returned (.tuple #[.int .i64 (sizeV l.length long).1, .int .i64 (sizeV l.length long).2]) ∧ Drawn0 W w') := ⟨fun W long => stripe_Size.calls _ _ _ _ W (size_f _ _)⟩
  have d1 : decide ((l.length : Int) < 1) = false := by simp; omega
  have d2 : decide ((255 : Int) < (l.length : Int)) = false := by simp; omega
  have HTS := Aside0.mk (txt_size (flat l))
  have HTL := Aside0.mk (txt_list (flat l))
  generalize txt (flat l) = s at *
  have hsb : s.size ≤ 140737488355328 := by rw [HTS.out]; exact hb
  generalize flat l = fl at *
  clear hr hc hb
  by_cases h4 : s.size < 4
  · have d4 : decide ((s.size : Int) < 4) = true := by simp; omega
    go_enter Tryd.func40, Tryd.ntmps40
    go_wp2_with fail
    refine (HE.out _ (Below.refl _ _)).mono ?_
    rintro e w1 ⟨rfl, ⟨n1, rfl⟩⟩
    go_wp2_with fail
    refine (HJ.out _ (pw_below_drewN (Below.refl _ _) _)).mono ?_
    rintro e w2 ⟨rfl, hb2⟩
    go_wp2
    go_ret2
    exact ⟨by unfold joinS; rw [if_pos (by have := HTS.out; omega)]; rfl, (pw_below_drewN (Below.refl _ _) _).trans hb2⟩
  · have d4 : decide ((s.size : Int) < 4) = false := by simp; omega
    go_enter Tryd.func40, Tryd.ntmps40
    go_wp2_with fail
    refine (HE.out _ (Below.refl _ _)).mono ?_
    rintro e w1 ⟨rfl, ⟨n1, rfl⟩⟩
    go_wp2_with fail
    refine (HJ.out _ (pw_below_drewN (Below.refl _ _) _)).mono ?_
    rintro e w2 ⟨rfl, hb2⟩
    have i3 : 3 < s.size := by omega
    have i2 : 2 < s.size := by omega
    have i1 : 1 < s.size := by omega
    have i0 : 0 < s.size := by omega
    have hgd : ∀ j (hj : j < s.size), (fl.getD j 0).toNat = s[j].toNat := fun j hj => by
      have hj' : j < s.data.toList.length := by rw [Array.length_toList]; exact hj
      rw [← HTL.out, List.getD_eq_getElem?_getD, List.getElem?_eq_getElem hj']
      rfl
    obtain ⟨a0, ha0⟩ : ∃ a, s[0].toNat = a := ⟨_, rfl⟩
    obtain ⟨a1, ha1⟩ : ∃ a, s[1].toNat = a := ⟨_, rfl⟩
    obtain ⟨a2, ha2⟩ : ∃ a, s[2].toNat = a := ⟨_, rfl⟩
    obtain ⟨a3, ha3⟩ : ∃ a, s[3].toNat = a := ⟨_, rfl⟩
    have b0 : a0 < 256 := by rw [← ha0]; exact b_lt _
    have b1 : a1 < 256 := by rw [← ha1]; exact b_lt _
    have b2 : a2 < 256 := by rw [← ha2]; exact b_lt _
    have b3 : a3 < 256 := by rw [← ha3]; exact b_lt _
    have HLO : Aside0 (longOf fl = a0 * 16777216 + a1 * 65536 + a2 * 256 + a3) := ⟨by
      unfold longOf
      rw [hgd 0 i0, hgd 1 i1, hgd 2 i2, hgd 3 i3, ha0, ha1, ha2, ha3]⟩
    obtain ⟨p1, hq1⟩ : ∃ p1, p1 = a0 * 16777216 + a1 * 65536 := ⟨_, rfl⟩
    obtain ⟨p2, hq2⟩ : ∃ p2, p2 = a0 * 16777216 + a1 * 65536 + a2 * 256 := ⟨_, rfl⟩
    obtain ⟨n, hn⟩ : ∃ n, n = longOf fl := ⟨_, rfl⟩
    have hn2 : n = a0 * 16777216 + a1 * 65536 + a2 * 256 + a3 := hn.trans HLO.out
    have o1 : bits .or .i64 ((a0 : Int) * 16777216) ((a1 : Int) * 65536) = (p1 : Int) := by
      have := or_join (a0 * 16777216) (a1 * 65536) 24 40 (by omega) (by omega) ⟨a0, by omega⟩ (by omega) (by omega)
      rw [Int.natCast_mul, Int.natCast_mul] at this
      rw [hq1]; exact this
    have o2 : bits .or .i64 (p1 : Int) ((a2 : Int) * 256) = (p2 : Int) := by
      have := or_join (a0 * 16777216 + a1 * 65536) (a2 * 256) 16 40 (by omega) (by omega) ⟨a0 * 256 + a1, by omega⟩ (by omega) (by omega)
      rw [Int.natCast_mul a2] at this
      rw [hq1, hq2]; exact this
    have o3 : bits .or .i64 (p2 : Int) (a3 : Int) = (n : Int) := by
      have := or_join (a0 * 16777216 + a1 * 65536 + a2 * 256) a3 8 40 (by omega) (by omega) ⟨a0 * 65536 + a1 * 256 + a2, by omega⟩ (by omega) (by omega)
      rw [hq2, hn2]; exact this
    have hlb : n < 4294967296 := by omega
    have hp1 : p1 < 4294967296 := by omega
    have hp2 : p2 < 4294967296 := by omega
    have HLN := Aside0.mk hn
    clear hq1 hq2 hgd hn2 hn
    go_wp2_with fail
    go_quiet (fail)
    have HB3 : Aside0 (Below w.heap.size w (w2.drewN nq)) := ⟨pw_below_drewN ((pw_below_drewN (Below.refl _ _) _).trans hb2) _⟩
    generalize w2.drewN nq = w3 at *
    have hnlt : ¬ s.size < 4 := h4
    clear hb2 ha0 ha1 ha2 ha3 b0 b1 b2 b3 o1 o2 o3 hp1 hp2 HLO HE HJ
    by_cases hn : n ≤ 2048
    · have hsv : sizeV (l.length : Int) (n : Int) = ((sizeN l.length n : Int), 0) := by
        unfold sizeV
        rw [if_pos ⟨by unfold codeB; exact decide_eq_true (by omega), by omega, by omega⟩]
        rfl
      have HS2 := HS.out w3 n
      rw [hsv] at HS2
      have HS3 := Aside0.mk HS2
      have HGE := sizeN_ge l.length n h1
      have hql : sizeN l.length n ≤ 4 + n + l.length := Nat.le_trans (Nat.div_le_self _ _) (by omega)
      have HEQ : Aside0 (∀ q, q = sizeN l.length n → joinS l.length fl = if q * l.length = s.size then (if (fl.drop (4 + n)).all (· == 0) = true then (txt ((fl.drop 4).take n), 0) else (⟨#[]⟩, 41)) else (⟨#[]⟩, 41)) := ⟨fun q hq => by
        unfold joinS
        rw [if_neg (by rw [← HTS.out]; exact hnlt), ← HLN.out, ← HTS.out, hq]
        by_cases e : sizeN l.length n * l.length = s.size
        · rw [if_pos ⟨hn, e⟩, if_pos e]
        · rw [if_neg (fun h => e h.2), if_neg e]⟩
      obtain ⟨q, hq⟩ : ∃ q, q = sizeN l.length n := ⟨_, rfl⟩
      have HE2 := HEQ.out q hq
      rw [← hq] at HS3 HGE hql
      obtain ⟨y, hy⟩ : ∃ y, q * l.length = y := ⟨_, rfl⟩
      have hyi : (q : Int) * (l.length : Int) = (y : Int) := by rw [← hy]; push_cast; rfl
      have hyb : y ≤ 3000 * 255 := by rw [← hy]; exact Nat.mul_le_mul (by omega) h2
      rw [hy] at HE2 HGE
      have HE3 := Aside0.mk HE2
      clear hy HE2 HS2 hsv HS hq HEQ
      by_cases hys : y = s.size
      · have d5 : ((y : Int) != (s.size : Int)) = false := by simp [hys]
        have hsl1 : ∀ W, (Instr.slice 9 (.string s) (some (.int .i64 4)) (some (.int .i64 (4 + (n : Int)))) none).run Tryd.prog W = .ok (.string (txt ((fl.drop 4).take n))) W := fun W => by
          have := run_slice_string (P := Tryd.prog) (w := W) 9 s .i64 .i64 4 (4 + (n : Int)) Tryd.underlying9 (by omega) (by omega) (by omega)
          rw [this, show (4 + (n : Int)).toNat = 4 + n by omega, show ((4 : Int)).toNat = 4 from rfl]
          congr 2
          apply ByteArray.ext
          apply Array.ext'
          rw [ByteArray.data_extract, Array.toList_extract, HTL.out, txt_list]
          simp [List.extract_eq_take_drop]
        have hsl2 : ∀ W, (Instr.slice 9 (.string s) (some (.int .i64 (4 + (n : Int)))) none none).run Tryd.prog W = .ok (.string (txt (fl.drop (4 + n)))) W := fun W => by
          have := run_slice_string_l (P := Tryd.prog) (w := W) (t := 9) (s := s) Tryd.underlying9 .i64 (4 + (n : Int)) (by omega) (by omega)
          rw [this, show (4 + (n : Int)).toNat = 4 + n by omega]
          congr 2
          apply ByteArray.ext
          apply Array.ext'
          rw [ByteArray.data_extract, Array.toList_extract, HTL.out, txt_list]
          rw [List.extract_eq_take_drop, List.take_of_length_le (by rw [List.length_drop, HTS.out]; omega)]
        have htr := trim_all (fl.drop (4 + n))
        have HTR : Aside0 (∀ W : World, Calls Tryd.prog 57 #[.string (txt (fl.drop (4 + n))), .string ⟨#[0]⟩] W fun e w' => e = .returned (.string (txt (Lib.trimB (fl.drop (4 + n)) 0))) ∧ (w' = W ∨ w' = W.drew)) := ⟨fun W => by
          have := Tryd.strings_Trim_one (txt (fl.drop (4 + n))) 0 (by decide) W (by rw [txt_size, List.length_drop, ← HTS.out]; omega)
          rw [txt_list] at this
          exact this⟩
        have j1 : (0 : Int) ≤ 4 + (n : Int) := by omega
        have j2 : 4 + (n : Int) ≤ (s.size : Int) := by omega
        cases hz : (fl.drop (4 + n)).all (· == 0) with
        | true =>
          rw [hz] at HE3
          have ht := htr.2 hz
          rw [ht, show txt [] = ⟨#[]⟩ from rfl] at HTR
          clear htr hz ht
          generalize txt (fl.drop (4 + n)) = rs at *
          generalize ho : txt ((fl.drop 4).take n) = ob at *
          clear ho
          go_wp2_with fail
          refine HS3.out.mono ?_
          rintro e w4 ⟨rfl, ⟨n4, rfl⟩⟩
          go_wp2_with fail
          go_quiet (fail)
          go_wp2_with fail
          refine (HTR.out _).mono ?_
          rintro e w5 ⟨rfl, hw5⟩
          have hB5 : Below w.heap.size w w5 := by
            rcases hw5 with rfl | rfl
            · repeat (first | exact HB3.out | apply pw_below_drewN)
            · refine below_drew1 ?_
              repeat (first | exact HB3.out | apply pw_below_drewN)
          clear hw5
          go_wp2
          go_ret2
          exact ⟨by rw [HE3.out, if_pos hys]; rfl, hB5⟩
        | false =>
          rw [hz] at HE3
          have ht : Lib.trimB (fl.drop (4 + n)) 0 ≠ [] := fun e => by rw [htr.1 e] at hz; cases hz
          obtain ⟨tr, htr2⟩ : ∃ tr, txt (Lib.trimB (fl.drop (4 + n)) 0) = tr := ⟨_, rfl⟩
          have ht2 : tr.toList.isEmpty = false := by
            rw [← htr2, ByteArray.toList_eq, txt_list]
            cases hc : Lib.trimB (fl.drop (4 + n)) 0 with
            | nil => exact absurd hc ht
            | cons a t => rfl
          have ht3 : ¬ tr.toList = [] := fun e => by rw [e] at ht2; cases ht2
          rw [htr2] at HTR
          clear htr hz ht htr2
          generalize txt (fl.drop (4 + n)) = rs at *
          generalize ho : txt ((fl.drop 4).take n) = ob at *
          clear ho
          go_wp2_with fail
          refine HS3.out.mono ?_
          rintro e w4 ⟨rfl, ⟨n4, rfl⟩⟩
          go_wp2_with fail
          go_quiet (fail)
          go_wp2_with fail
          refine (HTR.out _).mono ?_
          rintro e w5 ⟨rfl, hw5⟩
          have hB5 : Below w.heap.size w w5 := by
            rcases hw5 with rfl | rfl
            · repeat (first | exact HB3.out | apply pw_below_drewN)
            · refine below_drew1 ?_
              repeat (first | exact HB3.out | apply pw_below_drewN)
          clear hw5
          go_wp2
          go_ret2
          exact ⟨by rw [HE3.out, if_pos hys]; rfl, hB5⟩
      · have d5 : ((y : Int) != (s.size : Int)) = true := by simp; omega
        go_wp2_with fail
        refine HS3.out.mono ?_
        rintro e w4 ⟨rfl, ⟨n4, rfl⟩⟩
        go_wp2
        go_ret2
        exact ⟨by rw [HE3.out, if_neg hys]; rfl, pw_below_drewN HB3.out _⟩
    · have hsv : sizeV (l.length : Int) (n : Int) = (0, 1) := by
        unfold sizeV
        rw [if_neg (by omega)]
      have HS2 := HS.out w3 n
      rw [hsv] at HS2
      have HS3 := Aside0.mk HS2
      clear HS2 hsv HS
      go_wp2_with fail
      refine HS3.out.mono ?_
      rintro e w4 ⟨rfl, ⟨n4, rfl⟩⟩
      go_wp2
      go_ret2
      exact ⟨by unfold joinS; rw [if_neg (by rw [← HTS.out]; exact hnlt), if_neg (fun h => hn (by rw [HLN.out]; exact h.1))]; rfl, pw_below_drewN HB3.out _⟩
end
set_option maxRecDepth 100000 in
set_option maxHeartbeats 1000000 in
theorem join_walk (A0 : Option Addr) (c0 : Nat) (l : List ByteArray) (w : World) (hr : Kd.C Kd.string w A0 l.length l) (hc : l.length ≤ c0) (hb : 1 ≤ l.length → l.length ≤ 255 → evenB l = true → (flat l).length ≤ 140737488355328) :
    Calls Tryd.prog 40 #[.slice A0 l.length c0] w fun e w' => e = .returned (.tuple #[.string (joinV l).1, .int .i64 (joinV l).2]) ∧ Below w.heap.size w w' := by
  unfold joinV
  by_cases h : 1 ≤ l.length ∧ l.length ≤ 255
  · rw [if_pos h]
    cases heb : evenB l with
    | true =>
      rw [if_pos rfl]
      exact join_main A0 c0 l w hr hc h.1 h.2 heb (hb h.1 h.2 heb)
    | false =>
      rw [if_neg (by decide)]
      have HE := Aside0.mk (even_walk A0 c0 l w hr hc)
      rw [heb] at HE
      have d1 : decide ((l.length : Int) < 1) = false := by simp; omega
      have d2 : decide ((255 : Int) < (l.length : Int)) = false := by simp; omega
      clear hr hc
      go_enter Tryd.func40, Tryd.ntmps40
      go_wp2_with fail
      refine HE.out.mono ?_
      rintro e w1 ⟨rfl, ⟨n1, rfl⟩⟩
      go_wp2
      go_ret2
      exact ⟨rfl, pw_below_drewN (Below.refl _ _) _⟩
  · rw [if_neg h]
    have hlen := Kd.C_max hr
    by_cases h1 : l.length = 0
    · have d1 : decide ((l.length : Int) < 1) = true := by simp; omega
      clear hr hc
      go_enter Tryd.func40, Tryd.ntmps40
      go_wp2
      go_ret2
      exact ⟨rfl, Below.refl _ _⟩
    · have d1 : decide ((l.length : Int) < 1) = false := by simp; omega
      have d2 : decide ((255 : Int) < (l.length : Int)) = true := by simp; omega
      clear hr hc
      go_enter Tryd.func40, Tryd.ntmps40
      go_wp2
      go_ret2
      exact ⟨rfl, Below.refl _ _⟩
/-- Are these joined within one allocation? -/
def joinFits (l : List ByteArray) : Bool := decide (1 ≤ l.length ∧ l.length ≤ 255 ∧ evenB l = true → (flat l).length ≤ 140737488355328)
def stripe_Join.f (l0 : List ByteArray) : Option (ByteArray × Int) := if joinFits l0 = true then some (joinV l0) else none
theorem stripe_Join.calls (A0 : Option Addr) (c0 : Nat) (l0 : List ByteArray) (r1 : ByteArray) (r2 : Int) (w : World) (hr0 : Kd.C Kd.string w A0 l0.length l0) (hc0 : l0.length ≤ c0) (h : stripe_Join.f l0 = some (r1, r2)) :
    Calls Tryd.prog 40 #[.slice A0 l0.length c0] w fun e w' => e = .returned (.tuple #[.string r1, .int .i64 r2]) ∧ Below w.heap.size w w' := by
  unfold stripe_Join.f at h
  split at h
  · rename_i hf
    have := join_walk A0 c0 l0 w hr0 hc0 (fun h1 h2 h3 => (of_decide_eq_true hf) ⟨h1, h2, h3⟩)
    rw [Option.some.inj h] at this
    exact this
  · cases h
end Go.Proofs.YtpmnhlbkgeiomaaDoor.PS
namespace Go.Proofs.YtpmnhlbkgeiomaaDoor.PS
open Go.RowKit Go.Proofs.YtpmnhlbkgeiomaaDoorW.PrintWords Go.Proofs.YtpmnhlbkgeiomaaDoorW.PrintLast Go.Proofs.YtpmnhlbkgeiomaaDoorW.PrintMore Go.Proofs.YtpmnhlbkgeiomaaDoor.Gf Go.Proofs.YtpmnhlbkgeiomaaDoor.Fld Go.Proofs.YtpmnhlbkgeiomaaDoor.Grd Go.Proofs.YtpmnhlbkgeiomaaDoor.Rowb
set_option linter.unusedVariables false
set_option linter.unusedSimpArgs false
def accC (c : Nat → UInt8) (n : Nat) (data : List ByteArray) (q : Nat) : List UInt8 := (List.range n).map fun at_ => xs (List.range q) fun j => gmul (c j) (dAt data j at_)
def mixC (c : Nat → UInt8) (n : Nat) (data : List ByteArray) (q t : Nat) : List UInt8 := (List.range n).map fun at_ => xs (List.range (if at_ < t then q + 1 else q)) fun j => gmul (c j) (dAt data j at_)
theorem accC_len (c : Nat → UInt8) (n : Nat) (data : List ByteArray) (q : Nat) : (accC c n data q).length = n := by simp [accC]
theorem mixC_len (c : Nat → UInt8) (n : Nat) (data : List ByteArray) (q t : Nat) : (mixC c n data q t).length = n := by simp [mixC]
theorem mixC_get (c : Nat → UInt8) (n : Nat) (data : List ByteArray) (q t i : Nat) (h : i < (mixC c n data q t).length) : (mixC c n data q t)[i] = xs (List.range (if i < t then q + 1 else q)) fun j => gmul (c j) (dAt data j i) := by simp [mixC]
theorem mixC_set (c : Nat → UInt8) (n : Nat) (data : List ByteArray) (q t : Nat) (h : t < n) : (mixC c n data q t).set t ((xs (List.range q) fun j => gmul (c j) (dAt data j t)) ^^^ gmul (c q) (dAt data q t)) = mixC c n data q (t + 1) := by
  apply List.ext_getElem
  · rw [List.length_set, mixC_len, mixC_len]
  · intro i h1 h2
    rw [List.getElem_set, mixC_get, mixC_get]
    by_cases e : t = i
    · subst e
      rw [if_pos rfl, if_pos (by omega), xs_succ]
    · rw [if_neg e]
      by_cases h3 : i < t
      · rw [if_pos h3, if_pos (by omega)]
      · rw [if_neg h3, if_neg (by omega)]
theorem mixC_zero (c : Nat → UInt8) (n : Nat) (data : List ByteArray) (q : Nat) : mixC c n data q 0 = accC c n data q := by simp [mixC, accC]
theorem mixC_full (c : Nat → UInt8) (n : Nat) (data : List ByteArray) (q : Nat) : mixC c n data q n = accC c n data (q + 1) := by
  unfold mixC accC
  refine List.map_congr_left (fun i hi => ?_)
  rw [if_pos (List.mem_range.1 hi)]
end Go.Proofs.YtpmnhlbkgeiomaaDoor.PS
namespace Go.Proofs.YtpmnhlbkgeiomaaDoor.PS
open Go.RowKit Go.Proofs.YtpmnhlbkgeiomaaDoorW.PrintWords Go.Proofs.YtpmnhlbkgeiomaaDoorW.PrintLast Go.Proofs.YtpmnhlbkgeiomaaDoorW.PrintMore Go.Proofs.YtpmnhlbkgeiomaaDoor.Gf Go.Proofs.YtpmnhlbkgeiomaaDoor.Grd Go.Proofs.YtpmnhlbkgeiomaaDoor.Rowb Go.Proofs.YtpmnhlbkgeiomaaDoor.Fld
open Go.Lib (byteCells byteCells_length)
set_option linter.unusedVariables false
set_option linter.unusedSimpArgs false
def ParIs (k m : Int) (data : List ByteArray) (w : World) (e : Ending) (w' : World) : Prop := ∃ v0_ : Value, e = .returned (.tuple #[v0_, .int .i64 (parityV k m data).2]) ∧ Kd.R Kd.string 9 w' w.heap.size (fun _ => True) v0_ (parityV k m data).1 ∧ Below w.heap.size w w'
theorem dAt_get (data : List ByteArray) (q t : Nat) (hq : q < data.length) (ht : t < data[q].size) : dAt data q t = data[q][t] := by
  unfold dAt
  have e : data.getD q ByteArray.empty = data[q] := by rw [List.getD_eq_getElem?_getD, List.getElem?_eq_getElem hq]; rfl
  rw [e, List.getD_eq_getElem?_getD]
  have ht' : t < data[q].data.toList.length := by rw [Array.length_toList]; exact ht
  rw [List.getElem?_eq_getElem ht']
  rfl
section
variable (K M : Nat) (h1 : 1 ≤ K) (h2 : K + M ≤ 255) (A2 : Option Addr) (c2 : Nat) (data : List ByteArray) (w : World) (hr : Kd.C Kd.string w A2 data.length data) (hc : data.length ≤ c2)
include h1 h2 hr hc
set_option maxRecDepth 100000 in
set_option maxHeartbeats 4000000 in
theorem par_main (hl : data.length = K) (he : evenB data = true) (hn : (rdOf ByteArray.empty data 0).size ≤ 2052) :
    Calls Tryd.prog 26 #[.int .i64 (K : Int), .int .i64 (M : Int), .slice A2 data.length c2] w fun e w' => ∃ v0_ : Value, e = .returned (.tuple #[v0_, .int .i64 0]) ∧ Kd.R Kd.string 9 w' w.heap.size (fun _ => True) v0_ (parL K (rdOf ByteArray.empty data 0).size data M) ∧ Below w.heap.size w w' := by
  have HC : Aside0 (∀ W, Calls Tryd.prog 24 #[.int .i64 (K : Int), .int .i64 (M : Int)] W fun e w' => e = .returned (.bool true) ∧ Drawn0 W w') := ⟨fun W => stripe_code.calls _ _ _ W (by rw [code_f]; congr 1; unfold codeB; exact decide_eq_true (by omega))⟩
  have HE : Aside0 (∀ W, Below w.heap.size w W → Calls Tryd.prog 43 #[.slice A2 K c2] W fun e w' => e = .returned (.bool true) ∧ Drawn0 W w') := ⟨fun W hb => by have := even_walk A2 c2 data W (Kd.C_below hr hb) hc; rwa [he, hl] at this⟩
  have HG : Aside0 (∀ W, Calls Tryd.prog 44 #[.int .i64 (K : Int), .int .i64 (M : Int)] W (GenIs K M W)) := ⟨fun W => gen_walk W K M h1 h2⟩
  obtain ⟨ad, hA, hx0⟩ := Kd.at_string hr 0 (by omega) (by omega)
  subst hA
  obtain ⟨n, hnd⟩ : ∃ n, (rdOf ByteArray.empty data 0).size = n := ⟨_, rfl⟩
  have hx0' : w.cell? ad = some (.string (rdOf ByteArray.empty data 0)) := by rw [show ((0 : Int)).toNat = 0 from rfl, Addr.add_zero'] at hx0; exact hx0
  have HX0 : Aside0 (∀ W, Below w.heap.size w W → W.cell? ad = some (.string (rdOf ByteArray.empty data 0))) := ⟨fun W hb => pw_cell_below hb hx0'⟩
  have HR := Aside0.mk (And.intro hr hc)
  have i0 : (0 : Int) < (K : Int) := by omega
  have i1 : 0 < K := by omega
  have HL := Aside0.mk hl
  have e2 : decide ((2052 : Int) < (n : Int)) = false := by simp; omega
  rw [hnd] at hn ⊢
  generalize hs0 : rdOf ByteArray.empty data 0 = s0 at *
  have HS0 := Aside0.mk hs0
  have HE0 := Aside0.mk he
  subst hnd
  rw [hl]
  clear hx0 hr hc he hs0 hl
  go_enter Tryd.func26, Tryd.ntmps26
  go_wp2_with fail
  refine (HC.out _).mono ?_
  rintro e w1 ⟨rfl, ⟨n1, rfl⟩⟩
  go_wp2_with fail
  refine (HE.out _ (pw_below_drewN (Below.refl _ _) _)).mono ?_
  rintro e w1 ⟨rfl, ⟨n2, rfl⟩⟩
  have HB1 : Aside0 (Below w.heap.size w ((w.drewN n1).drewN n2)) := ⟨pw_below_drewN (pw_below_drewN (Below.refl _ _) _) _⟩
  generalize (w.drewN n1).drewN n2 = w1 at *
  have c1 := HX0.out w1 HB1.out
  go_wp2_with fail
  refine (HG.out _).mono ?_
  rintro e w2 ⟨rfl, hb2⟩
  have HB2 : Aside0 (Below w.heap.size w w2) := ⟨HB1.out.trans (hb2.mono HB1.out.size)⟩
  have HG2 : Aside0 ((genG K M).flatten.length = (K + M) * K) := ⟨by
    have := lens_same (c := K) (genG K M) (fun r hr => by obtain ⟨x, _, rfl⟩ := List.mem_map.1 hr; exact genRow_len K x)
    rw [genG_len] at this
    rw [← this]
    simp [Lib.lens, List.length_flatten]⟩
  have HGB : Aside0 (∀ r j, r < K + M → j < K → (genG K M).flatten[r * K + j]? = some (genAt K r j)) := ⟨fun r j => gen_byte K M r j⟩
  clear hb2 HB1 c1 hx0'
  generalize (genG K M).flatten = cl at *
  unfold matV
  go_wp2_with fail
  refine (new_walk _).mono ?_
  rintro e w3 ⟨rfl, hf3, hb3⟩
  have HB3 : Aside0 (Below w.heap.size w w3) := ⟨(HB2.out.alloc HB2.out.size _).trans (hb3.mono (by have := HB2.out.size; simp; omega))⟩
  have hg3 : w3.heap[w2.heap.size]? = some (.cells #[.int .i64 ((K : Int) + (M : Int)), .int .i64 (K : Int), .string ⟨cl.toArray⟩] 90 (0, 0)) := blk_below (blk_new _ _) hb3
  have hgl : w.heap.size ≤ w2.heap.size := HB2.out.size
  generalize (w2.alloc (Obj.cells #[Value.int IntKind.i64 ((K : Int) + (M : Int)), Value.int IntKind.i64 (K : Int), Value.string ⟨cl.toArray⟩] 90)).heap.size = p at *
  generalize w2.heap.size = gb at *
  have HCS : Aside0 ((⟨cl.toArray⟩ : ByteArray).size = (K + M) * K ∧ ∀ r j, r < K + M → j < K → (⟨cl.toArray⟩ : ByteArray).data.toList[r * K + j]? = some (genAt K r j)) := ⟨by
    refine ⟨?_, fun r j hr hj => ?_⟩
    · show cl.toArray.size = _
      rw [List.size_toArray]
      exact HG2.out
    · show cl.toArray.toList[r * K + j]? = _
      rw [List.toList_toArray]
      exact HGB.out r j hr hj⟩
  generalize (⟨cl.toArray⟩ : ByteArray) = S at *
  have HF3 := Aside0.mk hf3
  have HG3 := Aside0.mk hg3
  have hmb := run_make_bytes s0.size (by omega)
  clear hb3 hf3 hg3 HB2 HG2 HGB HG HC HE
  go_wp2
  go_loopw [11, 12] (fun v i W => ∃ r j : Nat, r ≤ M ∧ i = .int .i64 (j : Int) ∧ Aside0 (j = K + r) ∧ Aside0 (Kd.R Kd.string 9 W w.heap.size (fun _ => True) v (parL K s0.size data r)) ∧ Aside0 (Below w.heap.size w W) ∧ Aside0 (FieldAt W p) ∧ Aside0 (W.heap[gb]? = some (.cells #[.int .i64 ((K : Int) + (M : Int)), .int .i64 (K : Int), .string S] 90 (0, 0)))) (fun _ i _ => K + M - (intOf i).toNat)
  case atStart => exact ⟨0, K, by omega, rfl, ⟨rfl⟩, ⟨Kd.R_nil _ _ _ _ _⟩, HB3, HF3, HG3⟩
  case round =>
    obtain ⟨r, i, hrM, rfl, HI, HV, HB, HF, HGB⟩ := hrel
    clear HB3 HF3 HG3
    generalize wr = wo at *
    generalize u11 = v at *
    by_cases hlt : i < K + M
    · obtain ⟨W1, hW1⟩ : ∃ W1, W1 = wo.alloc (.cells (byteCells (zeros s0.size)).toArray 5) := ⟨_, rfl⟩
      obtain ⟨b, hbd⟩ : ∃ b, wo.heap.size = b := ⟨_, rfl⟩
      have hmk1 : (Instr.makeSlice 35 (.int .i64 (s0.size : Int)) (.int .i64 (s0.size : Int))).run Tryd.prog wo = .ok (.slice (some ⟨b, 0, none⟩) s0.size s0.size) W1 := by rw [hmb, hW1, hbd]
      have HN1 : Aside0 (RowB W1 b (accRow K i s0.size data 0)) := ⟨by rw [acc_zero, hW1, ← hbd]; exact blk_new _ _⟩
      have HW1 : Aside0 (Below wo.heap.size wo W1) := ⟨by rw [hW1]; exact below_alloc (Below.refl _ _) _⟩
      have HBD := Aside0.mk hbd
      have c0 := HX0.out wo HB.out
      have dlt : decide ((i : Int) < (K : Int) + (M : Int)) = true := decide_eq_true (by omega)
      clear hW1 hmb hbd
      go_wp2
      go_loopw [14, 15, 16, 17, 64] (fun _ _ _ _ j W => ∃ q : Nat, q ≤ K ∧ j = .int .i64 (q : Int) ∧ Aside0 (RowB W b (accRow K i s0.size data q)) ∧ Aside0 (Below wo.heap.size wo W)) (fun _ _ _ _ j _ => K - (intOf j).toNat)
      case atStart => exact ⟨0, by omega, rfl, HN1, HW1⟩
      case round =>
        obtain ⟨q, hq, rfl, HP, HW⟩ := hrel
        generalize wr = w4 at *
        by_cases hlq : q < K
        · have hB4 : Below w.heap.size w w4 := HB.out.trans (HW.out.mono HB.out.size)
          obtain ⟨sq, hq0, hsz, hdt⟩ : ∃ sq : ByteArray, w4.cell? (ad.add q) = some (.string sq) ∧ sq.size = s0.size ∧ Aside0 (∀ t (ht : t < sq.size), dAt data q t = sq[t]) := by
            have hqd : q < data.length := by have := HL.out; omega
            obtain ⟨ad', e', hq0⟩ := Kd.at_string (Kd.C_below HR.out.1 hB4) (q : Int) (by omega) (by omega)
            obtain rfl : ad = ad' := by injection e'
            rw [rdOf_nat data q hqd, Int.toNat_natCast] at hq0
            refine ⟨data[q], hq0, ?_, ⟨fun t ht => dAt_get data q t hqd ht⟩⟩
            have := even_of HE0.out _ (List.getElem_mem hqd)
            rw [HS0.out] at this
            exact this
          have g2 := (blk_cell (blk_below HGB.out HW.out) 2)
          obtain ⟨z, hz⟩ : ∃ z, i * K = z := ⟨_, rfl⟩
          have hzi : (i : Int) * (K : Int) = (z : Int) := by rw [← hz]; push_cast; rfl
          have hzb : z + q < S.size := by
            rw [HCS.out.1, ← hz]
            have : (i + 1) * K ≤ (K + M) * K := Nat.mul_le_mul_right _ (by omega)
            rw [Nat.succ_mul] at this
            omega
          have hSl : S.size ≤ 65025 := by
            rw [HCS.out.1]
            exact Nat.le_trans (Nat.mul_le_mul h2 (by omega : K ≤ 255)) (by decide)
          have hby : S[z + q] = genAt K i q := by
            have := HCS.out.2 i q hlt hlq
            rw [hz] at this
            obtain ⟨hh, he⟩ := List.getElem?_eq_some_iff.1 this
            rw [← he]
            rfl
          clear hz
          have HM0 : Aside0 (RowB w4 b (mixRow K i s0.size data q 0)) := ⟨by rw [mix_zero]; exact HP.out⟩
          have HFI : Aside0 (∀ W, Below wo.heap.size wo W → FieldAt W p) := ⟨fun W hb => HF.out.below hb⟩
          have hbs : wo.heap.size ≤ b := by rw [HBD.out]; exact Nat.le_refl _
          clear HP hB4
          go_wp2
          go_loopw [17, 79] (fun _ t W => ∃ u : Nat, u ≤ s0.size ∧ t = .int .i64 (u : Int) ∧ Aside0 (RowB W b (mixRow K i s0.size data q u)) ∧ Aside0 (Below wo.heap.size wo W)) (fun _ t _ => s0.size - (intOf t).toNat)
          case atStart => exact ⟨0, by omega, rfl, HM0, HW⟩
          case round =>
            obtain ⟨u, hu, rfl, HX, HY⟩ := hrel
            generalize wr = w5 at *
            by_cases hlu : u < s0.size
            · have huq : u < sq.size := by omega
              have r0 := HX.out.cell u (by rw [mix_len]; exact hlu)
              rw [mix_at _ _ _ _ _ _ hlu] at r0
              have f0 := HX.out.frozen u
              have HST : Aside0 (∀ W : World, W.heap = w5.heap → RowB (W.setCell ⟨b, u, none⟩ (.int .u8 ((((xs (List.range q) fun j => gmul (genAt K i j) (dAt data j u)) ^^^ gmul (genAt K i q) (dAt data q u)).toNat : Nat) : Int))) b (mixRow K i s0.size data q (u + 1))) := ⟨fun W hW => by
                have h0 : RowB W b (mixRow K i s0.size data q u) := by unfold RowB; rw [hW]; exact HX.out
                have := h0.put u ((xs (List.range q) fun j => gmul (genAt K i j) (dAt data j u)) ^^^ gmul (genAt K i q) (dAt data q u))
                rwa [mix_set _ _ _ _ _ _ hlu] at this⟩
              rw [hdt.out u huq] at HST
              have HMU : Aside0 (∀ W : World, W.heap = w5.heap → Calls Tryd.prog 46 #[.pointer (some ⟨p, 0, none⟩), .int .u8 ((genAt K i q).toNat : Int), .int .u8 (sq[u].toNat : Int)] W fun e w' => e = .returned (.int .u8 ((gmul (genAt K i q) sq[u]).toNat : Int)) ∧ Drawn0 W w') := ⟨fun W hW => mul_walk (by unfold FieldAt; rw [hW]; exact HFI.out w5 HY.out) _ _⟩
              have hxr := xor_u8 (xs (List.range q) fun j => gmul (genAt K i j) (dAt data j u)).toNat (gmul (genAt K i q) sq[u]).toNat (b_lt _) (b_lt _)
              rw [← UInt8.toNat_xor] at hxr
              generalize ((xs (List.range q) fun j => gmul (genAt K i j) (dAt data j u)) ^^^ gmul (genAt K i q) sq[u]).toNat = res at *
              generalize (xs (List.range q) fun j => gmul (genAt K i j) (dAt data j u)).toNat = old at *
              generalize (gmul (genAt K i q) sq[u]).toNat = prod at *
              clear hby
              generalize (genAt K i q).toNat = gy at *
              go_wp2_with fail
              go_region_law (first | (go_simp; go_at_call 46; refine (HMU.out _ (by rfl)).mono ?_; rintro e w6 ⟨rfl, ⟨nd, rfl⟩⟩))
              all_goals go_wp2
              all_goals go_roundw
              all_goals first
                | (case rel => exact ⟨u + 1, by omega, by go_num, ⟨HST.out _ (by rfl)⟩, ⟨Below.setCell (by repeat (first | exact HY.out | apply pw_below_drewN | apply below_drew1)) hbs _⟩⟩)
                | skip
              all_goals (case measure => simp [intOf]; omega)
            · obtain rfl : u = s0.size := by omega
              rw [mix_full] at HX
              clear hby
              go_wp2
              go_roundw
              case rel => exact ⟨q + 1, by omega, by go_num, HX, HY⟩
              case measure => simp [intOf]; omega
        · obtain rfl : q = K := by omega
          have hcv := HP.out.whole s0.size
          rw [acc_len] at hcv
          have HBW : Aside0 (Below w.heap.size w w4) := ⟨HB.out.trans (HW.out.mono HB.out.size)⟩
          have HVW := Aside0.mk (Kd.R_below HV.out HW.out)
          have HFW := Aside0.mk (HF.out.below HW.out)
          have HGW := Aside0.mk (blk_below HGB.out HW.out)
          have HPS := Aside0.mk (parL_succ q s0.size data r)
          have HTX : Aside0 ((⟨(accRow q i s0.size data q).toArray⟩ : ByteArray) = txt (accRow q (q + r) s0.size data q)) := ⟨by rw [HI.out]; rfl⟩
          have HLP := Aside0.mk (parL_len q s0.size data r)
          generalize (⟨(accRow q i s0.size data q).toArray⟩ : ByteArray) = tx at *
          clear HB HV HF HGB HW HP HN1 HW1
          go_wp2_with (first | ((with_reducible refine gate_builtin (b := .append) (xs := #[.tmp 96, .tmp 99]) rfl ?_); at_builtin; refine Kd.R_append Kd.string (w0 := w) w.heap.size rfl (.tmp 96) (.tmp 99) 26 9 (.string ⟨#[]⟩) 16 rfl Tryd.underlying26 info9 rfl (by decide) (by omega) v (parL q s0.size data r) tx [.string tx] (fun _ => True) (fun _ => False) rfl rfl rfl (fun _ hk => hk.elim) (fun _ _ => trivial) HVW.out HBW.out HBW.out.size (by rw [HLP.out]; omega) ?_; intro v1 w6 ho hb hg hat; have HV6 := Aside0.mk ho; have HB6 := Aside0.mk hb; have HF6 : Aside0 (FieldAt w6 p) := ⟨blk_grown HFW.out hg (Kd.R_ne HVW.out HFW.out (by decide))⟩; have HG6 := Aside0.mk (blk_grown HGW.out hg (Kd.R_ne HVW.out HGW.out (by decide))); clear ho hb hg hat))
          go_roundw
          case rel => exact ⟨r + 1, i + 1, by have := HI.out; omega, by go_num, ⟨by have := HI.out; omega⟩, ⟨by rw [HPS.out, ← HTX.out]; exact HV6.out⟩, HB6, HF6, HG6⟩
          case measure => simp [intOf]; omega
    · have hrm : r = M := by have := HI.out; omega
      subst hrm
      go_wp2
      go_ret2
      exact ⟨v, rfl, HV.out, HB.out⟩
end
section
variable (k m : Int) (A2 : Option Addr) (c2 : Nat) (data : List ByteArray) (w : World) (hr : Kd.C Kd.string w A2 data.length data) (hc : data.length ≤ c2)
include hr hc
set_option maxRecDepth 100000 in
set_option maxHeartbeats 1000000 in
theorem par_walk : Calls Tryd.prog 26 #[.int .i64 k, .int .i64 m, .slice A2 data.length c2] w (ParIs k m data w) := by
  have HC : Aside0 (∀ W, Calls Tryd.prog 24 #[.int .i64 k, .int .i64 m] W fun e w' => e = .returned (.bool (codeB k m)) ∧ Drawn0 W w') := ⟨fun W => stripe_code.calls _ _ _ W (code_f k m)⟩
  have HE : Aside0 (∀ W, Below w.heap.size w W → Calls Tryd.prog 43 #[.slice A2 data.length c2] W fun e w' => e = .returned (.bool (evenB data)) ∧ Drawn0 W w') := ⟨fun W hb => even_walk A2 c2 data W (Kd.C_below hr hb) hc⟩
  have hd : ∀ {w' : World}, Drawn0 w w' → Below w.heap.size w w' := fun ⟨⟨n, h⟩⟩ => by subst h; exact pw_below_drewN (Below.refl _ _) n
  unfold ParIs parityV
  cases hcb : codeB k m with
  | false =>
    rw [if_neg (by decide)]
    rw [hcb] at HC
    clear hr hc HE
    go_enter Tryd.func26, Tryd.ntmps26
    go_wp2_with fail
    refine (HC.out _).mono ?_
    rintro e w1 ⟨rfl, ⟨n1, rfl⟩⟩
    go_wp2
    go_ret2
    exact ⟨_, rfl, Kd.R_nil _ _ _ _ _, pw_below_drewN (Below.refl _ _) _⟩
  | true =>
    rw [if_pos rfl]
    rw [hcb] at HC
    by_cases hl : (data.length : Int) = k
    · cases heb : evenB data with
      | false =>
        rw [if_neg (by simp)]
        rw [heb] at HE
        have d1 : ((data.length : Int) != k) = false := by simp [hl]
        clear hr hc
        subst hl
        go_enter Tryd.func26, Tryd.ntmps26
        go_wp2_with fail
        refine (HC.out _).mono ?_
        rintro e w1 ⟨rfl, ⟨n1, rfl⟩⟩
        go_wp2_with fail
        refine (HE.out _ (pw_below_drewN (Below.refl _ _) _)).mono ?_
        rintro e w1 ⟨rfl, ⟨n2, rfl⟩⟩
        go_wp2
        go_ret2
        exact ⟨_, rfl, Kd.R_nil _ _ _ _ _, by repeat (first | exact Below.refl _ _ | apply pw_below_drewN)⟩
      | true =>
        rw [if_pos ⟨hl, rfl⟩]
        by_cases hn : (rdOf ByteArray.empty data 0).size ≤ 2052
        · rw [if_pos hn]
          obtain ⟨K, M, rfl, rfl, h1, h2⟩ := codeB_nat hcb
          have := par_main K M h1 h2 A2 c2 data w hr hc (by omega) heb hn
          simpa using this
        · rw [if_neg hn]
          rw [heb] at HE
          obtain ⟨K, M, rfl, rfl, h1, h2⟩ := codeB_nat hcb
          obtain ⟨ad, hA, hx0⟩ := Kd.at_string hr 0 (by omega) (by omega)
          subst hA
          rw [show ((0 : Int)).toNat = 0 from rfl, Addr.add_zero'] at hx0
          have HX0 : Aside0 (∀ W, Below w.heap.size w W → W.cell? ad = some (.string (rdOf ByteArray.empty data 0))) := ⟨fun W hb => pw_cell_below hb hx0⟩
          have i0 : (0 : Int) < (data.length : Int) := by omega
          have i1 : 0 < data.length := by omega
          have d1 : ((data.length : Int) != (K : Int)) = false := by simp [hl]
          rw [← hl] at *
          generalize rdOf ByteArray.empty data 0 = s0 at *
          have e2 : decide ((2052 : Int) < (s0.size : Int)) = true := by simp; omega
          clear hr hc hx0 hl
          go_enter Tryd.func26, Tryd.ntmps26
          go_wp2_with fail
          refine (HC.out _).mono ?_
          rintro e w1 ⟨rfl, ⟨n1, rfl⟩⟩
          go_wp2_with fail
          refine (HE.out _ (pw_below_drewN (Below.refl _ _) _)).mono ?_
          rintro e w1 ⟨rfl, ⟨n2, rfl⟩⟩
          have c0 := HX0.out (w.drewN (n1 + n2)) (pw_below_drewN (Below.refl _ _) _)
          go_wp2
          go_ret2
          exact ⟨_, rfl, Kd.R_nil _ _ _ _ _, by repeat (first | exact Below.refl _ _ | apply pw_below_drewN)⟩
    · rw [if_neg (fun h => hl h.1)]
      have d1 : ((data.length : Int) != k) = true := by simpa using hl
      clear hr hc HE hl
      go_enter Tryd.func26, Tryd.ntmps26
      go_wp2_with fail
      refine (HC.out _).mono ?_
      rintro e w1 ⟨rfl, ⟨n1, rfl⟩⟩
      go_wp2
      go_ret2
      exact ⟨_, rfl, Kd.R_nil _ _ _ _ _, pw_below_drewN (Below.refl _ _) _⟩
end
def stripe_Parity.f (a0 : Int) (a1 : Int) (l2 : List ByteArray) : Option (List ByteArray × Int) := some (parityV a0 a1 l2)
theorem stripe_Parity.calls (a0 : Int) (a1 : Int) (A2 : Option Addr) (c2 : Nat) (l2 : List ByteArray) (r1 : List ByteArray) (r2 : Int) (w : World) (hr2 : Kd.C Kd.string w A2 l2.length l2) (hc2 : l2.length ≤ c2) (h : stripe_Parity.f a0 a1 l2 = some (r1, r2)) :
    Calls Tryd.prog 26 #[.int .i64 a0, .int .i64 a1, .slice A2 l2.length c2] w fun e w' => ∃ v0_ : Value, e = .returned (.tuple #[v0_, .int .i64 r2]) ∧ Kd.R Kd.string 9 w' w.heap.size (fun _ => True) v0_ r1 ∧ Below w.heap.size w w' := by
  have := par_walk a0 a1 A2 c2 l2 w hr2 hc2
  unfold ParIs at this
  unfold stripe_Parity.f at h
  rw [Option.some.inj h] at this
  exact this
end Go.Proofs.YtpmnhlbkgeiomaaDoor.PS
namespace Go.Proofs.YtpmnhlbkgeiomaaDoor.PS
open Go.RowKit Go.Proofs.YtpmnhlbkgeiomaaDoorW.PrintWords Go.Proofs.YtpmnhlbkgeiomaaDoorW.PrintLast Go.Proofs.YtpmnhlbkgeiomaaDoorW.PrintMore
attribute [local go_sem] Mk.str_leq Mk.str_gtr Mk.str_geq max2_int min2_int max_two min_two max_three min_three max_four min_four   -- for this text's walks alone
set_option linter.unusedVariables false
set_option linter.unusedSimpArgs false

/-! ### stripe_Encode: function 11 -/
def stripe_Encode.f (a0 : Int) (a1 : Int) (a2 : ByteArray) : Option (List ByteArray × Int) := (stripe_code.f a0 a1).bind fun t104 => (if t104 = true then ((stripe_Split.f a0 a2).bind fun bt105 => (if bt105.2 = 0 then ((stripe_Parity.f a0 a1 bt105.1).bind fun bt109 => (if bt105.1.length + bt109.1.length < 8796093022208 then (some ((bt105.1 ++ bt109.1), bt109.2)) else (none))) else (some (([] : List ByteArray), bt105.2)))) else (some (([] : List ByteArray), 1)))
set_option maxHeartbeats 8000000 in
set_option maxRecDepth 100000 in
theorem stripe_Encode.calls (a0 : Int) (a1 : Int) (a2 : ByteArray) (r1 : List ByteArray) (r2 : Int) (w : World) (h : stripe_Encode.f a0 a1 a2 = some (r1, r2)) :
  Calls Tryd.prog 11 #[.int .i64 a0, .int .i64 a1, .string a2] w fun e w' => ∃ v0_ : Value, e = .returned (.tuple #[v0_, .int .i64 r2]) ∧ Kd.R Kd.string 9 w' w.heap.size (fun _ => True) v0_ r1 ∧ Below w.heap.size w w' := by
 have HB := Aside0.mk (Below.refl w.heap.size w)
 have H : ((stripe_code.f a0 a1).bind fun t104 => (if t104 = true then ((stripe_Split.f a0 a2).bind fun bt105 => (if bt105.2 = 0 then ((stripe_Parity.f a0 a1 bt105.1).bind fun bt109 => (if bt105.1.length + bt109.1.length < 8796093022208 then (some ((bt105.1 ++ bt109.1), bt109.2)) else (none))) else (some (([] : List ByteArray), bt105.2)))) else (some (([] : List ByteArray), 1)))) = some (r1, r2) := h
 clear h
 replace H := Option.bind_eq_some_iff.mp H
 obtain ⟨t104, A40, H⟩ := H
 replace H : (if t104 = true then ((stripe_Split.f a0 a2).bind fun bt105 => (if bt105.2 = 0 then ((stripe_Parity.f a0 a1 bt105.1).bind fun bt109 => (if bt105.1.length + bt109.1.length < 8796093022208 then (some ((bt105.1 ++ bt109.1), bt109.2)) else (none))) else (some (([] : List ByteArray), bt105.2)))) else (some (([] : List ByteArray), 1))) = some (r1, r2) := H
 have A4 := Aside0.mk A40
 clear A40
 by_cases c5 : t104 = true
 ·subst c5
  have H1 : ((stripe_Split.f a0 a2).bind fun bt105 => (if bt105.2 = 0 then ((stripe_Parity.f a0 a1 bt105.1).bind fun bt109 => (if bt105.1.length + bt109.1.length < 8796093022208 then (some ((bt105.1 ++ bt109.1), bt109.2)) else (none))) else (some (([] : List ByteArray), bt105.2)))) = some (r1, r2) := by rw [if_pos rfl] at H; exact H
  clear H
  have H := H1
  clear H1
  replace H := Option.bind_eq_some_iff.mp H
  obtain ⟨⟨t105, t106⟩, A60, H⟩ := H
  replace H : (if t106 = 0 then ((stripe_Parity.f a0 a1 t105).bind fun bt109 => (if t105.length + bt109.1.length < 8796093022208 then (some ((t105 ++ bt109.1), bt109.2)) else (none))) else (some (([] : List ByteArray), t106))) = some (r1, r2) := H
  have A6 := Aside0.mk A60
  clear A60
  by_cases c7 : t106 = 0
  ·rw [if_pos c7] at H
   have c7b0 : (t106 == 0) = true := beq_iff_eq.mpr c7
   have c7b1 : (t106 != 0) = false := bne_eq_false_iff_eq.mpr c7
   clear c7
   replace H := Option.bind_eq_some_iff.mp H
   obtain ⟨⟨t109, t110⟩, A80, H⟩ := H
   replace H : (if t105.length + t109.length < 8796093022208 then (some ((t105 ++ t109), t110)) else (none)) = some (r1, r2) := H
   have A8 := Aside0.mk A80
   clear A80
   by_cases c9 : t105.length + t109.length < 8796093022208
   ·rw [if_pos c9] at H
    have LMc9 := Aside0.mk c9
    clear c9
    obtain ⟨y113, hy113⟩ : ∃ y_ : List ByteArray, y_ = (t105 ++ t109) := ⟨_, rfl⟩
    replace H : (some (y113, t110)) = some (r1, r2) := by first | (rw [hy113]; with_reducible exact H) | (have H2_ := (Option.bind_some _ _).symm.trans H; rw [hy113]; with_reducible exact H2_) | (have H2_ := (Option.bind_some _ _).symm.trans H; with_reducible exact H2_) | with_reducible exact H | (rw [hy113]; exact H) | exact H
    have Ny113 := Aside0.mk hy113
    clear hy113
    simp only [Option.some.injEq, Prod.mk.injEq] at H
    obtain ⟨rfl, rfl⟩ := H
    go_enter Tryd.func11, Tryd.ntmps11
    go_wp2_with (first | ((with_reducible refine gate_callee (f := 24) rfl ?_); refine goesL_ (some 13) rfl rfl Tryd.func24 (by kernel_rfl) rfl #[.int .i64 a0, .int .i64 a1] rfl (by (try simp only [List.map_toArray, List.map_cons, List.map_nil]); first | done | rfl | (simp only [List.length_drop, List.length_take]; rfl)) ?_; (with_reducible refine (stripe_code.calls a0 a1 true _ A4.out).mono ?_); rintro e w' ⟨rfl, ⟨nd, rfl⟩⟩; refine ⟨_, rfl, ?_⟩) | ((with_reducible refine gate_callee (f := 25) rfl ?_); refine goesL_ (some 18) rfl rfl Tryd.func25 (by kernel_rfl) rfl #[.int .i64 a0, .string a2] rfl (by (try simp only [List.map_toArray, List.map_cons, List.map_nil]); first | done | rfl | (simp only [List.length_drop, List.length_take]; rfl)) ?_; (with_reducible refine (stripe_Split.calls a0 a2 t105 t106 _ A6.out).mono ?_); rintro e w10 ⟨v107, rfl, ho0, hb⟩; refine ⟨_, rfl, ?_⟩; have n0_ := Aside0.mk (Kd.R_lower ho0 (below_size (by repeat (first | (with_reducible first | exact HB.out | apply below_alloc | apply pw_below_drewN | apply below_drew1) | exact HB.out)))); have n1_ := Aside0.mk (below_step (by repeat (first | (with_reducible first | exact HB.out | apply below_alloc | apply pw_below_drewN | apply below_drew1) | exact HB.out)) hb); clear HB; have HO108 := n0_; have HB := n1_; clear n0_ n1_; (try clear hb); (try clear hb2); (try clear hk); (try clear hi); (try clear ho0); obtain ⟨Ao11, co11, eo11⟩ := Kd.R_slice HO108.out; subst eo11) | ((with_reducible refine gate_callee (f := 26) rfl ?_); refine goesL_ (some 28) rfl rfl Tryd.func26 (by kernel_rfl) rfl #[.int .i64 a0, .int .i64 a1, .slice Ao11 t105.length co11] rfl (by (try simp only [List.map_toArray, List.map_cons, List.map_nil]); first | done | rfl | (simp only [List.length_drop, List.length_take]; rfl)) ?_; (with_reducible refine (stripe_Parity.calls a0 a1 _ _ t105 t109 t110 _ ?side1 ?side2 A8.out).mono ?_); (case side1 => repeat (first | exact (Kd.R_reads' HO108.out).2.2 | (with_reducible refine Kd.C_alloc ?_ _) | (with_reducible refine Kd.C_drewN ?_ _) | (with_reducible refine Kd.C_drew ?_))); (case side2 => exact (Kd.R_reads' HO108.out).2.1); rintro e w12 ⟨v111, rfl, ho0, hb⟩; refine ⟨_, rfl, ?_⟩; have n0_ := Aside0.mk (Kd.R_elder' (by (with_reducible repeat (first | apply Kd.R_alloc | apply Kd.R_drewN | apply Kd.R_drew)); exact HO108.out) (Kd.R_base ho0) hb); have n1_ := Aside0.mk (Kd.R_lower (Kd.R_new' ho0 (Kd.R_lt (by (with_reducible repeat (first | apply Kd.R_alloc | apply Kd.R_drewN | apply Kd.R_drew)); exact HO108.out))) (below_size (by repeat (first | (with_reducible first | exact HB.out | apply below_alloc | apply pw_below_drewN | apply below_drew1) | exact HB.out)))); have n2_ := Aside0.mk (below_step (by repeat (first | (with_reducible first | exact HB.out | apply below_alloc | apply pw_below_drewN | apply below_drew1) | exact HB.out)) hb); clear HO108; clear HB; have HO108 := n0_; have HO112 := n1_; have HB := n2_; clear n0_ n1_ n2_; (try clear hb); (try clear hb2); (try clear hk); (try clear hi); (try clear ho0); obtain ⟨Ao14, co14, eo14⟩ := Kd.R_slice HO112.out; subst eo14) | ((with_reducible refine gate_builtin (b := .append) (xs := #[.tmp 31, .tmp 32]) rfl ?_); at_builtin; refine Kd.R_append_rows Kd.string (w0 := w) w.heap.size rfl (.tmp 31) (.tmp 32) 26 9 (.string ⟨#[]⟩) 16 rfl Tryd.underlying26 info9 rfl (by decide) (by omega) (.slice Ao11 t105.length co11) t105 t109 _ _ _ (fun k_ => some k_ ≠ (.slice Ao14 t109.length co14 : Value).ownBlock) (fun _ => False) rfl rfl ?aO ?aR (fun _ _ h => h) (fun _ h => h.elim) ?aF ?aB ?aS ?aL ?_; (case aR => repeat (first | exact (Kd.R_reads' HO112.out).2.2 | (with_reducible refine Kd.C_alloc ?_ _) | (with_reducible refine Kd.C_drewN ?_ _) | (with_reducible refine Kd.C_drew ?_))); (case aB => exact (by repeat (first | (with_reducible first | exact HB.out | apply below_alloc | apply pw_below_drewN | apply below_drew1) | exact HB.out))); (case aF => exact (fun k_ hk => Kd.fresh' (Kd.R_lt (by (with_reducible repeat (first | apply Kd.R_alloc | apply Kd.R_drewN | apply Kd.R_drew)); exact HO112.out)) k_ hk)); (case aO => exact (by (with_reducible repeat (first | apply Kd.R_alloc | apply Kd.R_drewN | apply Kd.R_drew)); exact Kd.R_mono HO108.out (fun _ hk => hk.2))); (case aS => exact (below_size (by repeat (first | (with_reducible first | exact HB.out | apply below_alloc | apply pw_below_drewN | apply below_drew1) | exact HB.out)))); (case aL => have := LMc9.out; omega); intro v114 w13 ho hb hg hat; rw [← Ny113.out] at ho; have n0_ := Aside0.mk (Kd.R_after (ok := (fun _ => True)) (by (with_reducible repeat (first | apply Kd.R_alloc | apply Kd.R_drewN | apply Kd.R_drew)); exact HO112.out) hg hat); have n1_ := Aside0.mk (hb); have n2_ := Aside0.mk (ho); clear HO112; clear HB; clear HO108; have HO112 := n0_; have HB := n1_; have HO115 := n2_; clear n0_ n1_ n2_; clear ho hb hg hat))
    go_ret2
    exact ⟨_, by first | rfl | (simp [errW_none, errW_some] <;> rfl) | (simp [*, errW_none, errW_some] <;> rfl), by (with_reducible repeat (first | apply Kd.R_alloc | apply Kd.R_drewN | apply Kd.R_drew)); exact Kd.R_mono HO115.out (fun _ hk => trivial), by repeat (first | (with_reducible first | exact HB.out | apply below_alloc | apply pw_below_drewN | apply below_drew1) | exact HB.out)⟩
   ·rw [if_neg c9] at H
    exact absurd H (by simp)
  ·rw [if_neg c7] at H
   have c7b0 : (t106 == 0) = false := beq_eq_false_iff_ne.mpr c7
   have c7b1 : (t106 != 0) = true := bne_iff_ne.mpr c7
   simp only [Option.some.injEq, Prod.mk.injEq] at H
   obtain ⟨rfl, rfl⟩ := H
   go_enter Tryd.func11, Tryd.ntmps11
   go_wp2_with (first | ((with_reducible refine gate_callee (f := 24) rfl ?_); refine goesL_ (some 13) rfl rfl Tryd.func24 (by kernel_rfl) rfl #[.int .i64 a0, .int .i64 a1] rfl (by (try simp only [List.map_toArray, List.map_cons, List.map_nil]); first | done | rfl | (simp only [List.length_drop, List.length_take]; rfl)) ?_; (with_reducible refine (stripe_code.calls a0 a1 true _ A4.out).mono ?_); rintro e w' ⟨rfl, ⟨nd, rfl⟩⟩; refine ⟨_, rfl, ?_⟩) | ((with_reducible refine gate_callee (f := 25) rfl ?_); refine goesL_ (some 18) rfl rfl Tryd.func25 (by kernel_rfl) rfl #[.int .i64 a0, .string a2] rfl (by (try simp only [List.map_toArray, List.map_cons, List.map_nil]); first | done | rfl | (simp only [List.length_drop, List.length_take]; rfl)) ?_; (with_reducible refine (stripe_Split.calls a0 a2 t105 t106 _ A6.out).mono ?_); rintro e w15 ⟨v107, rfl, ho0, hb⟩; refine ⟨_, rfl, ?_⟩; have n0_ := Aside0.mk (Kd.R_lower ho0 (below_size (by repeat (first | (with_reducible first | exact HB.out | apply below_alloc | apply pw_below_drewN | apply below_drew1) | exact HB.out)))); have n1_ := Aside0.mk (below_step (by repeat (first | (with_reducible first | exact HB.out | apply below_alloc | apply pw_below_drewN | apply below_drew1) | exact HB.out)) hb); clear HB; have HO108 := n0_; have HB := n1_; clear n0_ n1_; (try clear hb); (try clear hb2); (try clear hk); (try clear hi); (try clear ho0)))
   go_ret2
   exact ⟨_, by first | rfl | (simp [errW_none, errW_some] <;> rfl) | (simp [*, errW_none, errW_some] <;> rfl), by first | exact Kd.R_nil _ _ _ _ _ | exact Kd.N_nil _ _ _ _ _ | exact Kd.V_nil _ _ _ _ _ | exact Kd.Q_nil _ _ _ _ _ | exact Kd.S_nil _ _ _ _ _, by repeat (first | (with_reducible first | exact HB.out | apply below_alloc | apply pw_below_drewN | apply below_drew1) | exact HB.out)⟩
 ·replace c5 := Bool.eq_false_iff.mpr c5
  subst c5
  have H1 : (some (([] : List ByteArray), 1)) = some (r1, r2) := by rw [if_neg (show ¬ (false = true) by decide)] at H; exact H
  clear H
  have H := H1
  clear H1
  simp only [Option.some.injEq, Prod.mk.injEq] at H
  obtain ⟨rfl, rfl⟩ := H
  go_enter Tryd.func11, Tryd.ntmps11
  go_wp2_with (first | ((with_reducible refine gate_callee (f := 24) rfl ?_); refine goesL_ (some 13) rfl rfl Tryd.func24 (by kernel_rfl) rfl #[.int .i64 a0, .int .i64 a1] rfl (by (try simp only [List.map_toArray, List.map_cons, List.map_nil]); first | done | rfl | (simp only [List.length_drop, List.length_take]; rfl)) ?_; (with_reducible refine (stripe_code.calls a0 a1 false _ A4.out).mono ?_); rintro e w' ⟨rfl, ⟨nd, rfl⟩⟩; refine ⟨_, rfl, ?_⟩))
  go_ret2
  exact ⟨_, by first | rfl | (simp [errW_none, errW_some] <;> rfl) | (simp [*, errW_none, errW_some] <;> rfl), by first | exact Kd.R_nil _ _ _ _ _ | exact Kd.N_nil _ _ _ _ _ | exact Kd.V_nil _ _ _ _ _ | exact Kd.Q_nil _ _ _ _ _ | exact Kd.S_nil _ _ _ _ _, by repeat (first | (with_reducible first | exact HB.out | apply below_alloc | apply pw_below_drewN | apply below_drew1) | exact HB.out)⟩

end Go.Proofs.YtpmnhlbkgeiomaaDoor.PS
namespace Go.Proofs.YtpmnhlbkgeiomaaDoor.PS
open Go.RowKit Go.Proofs.YtpmnhlbkgeiomaaDoorW.PrintWords Go.Proofs.YtpmnhlbkgeiomaaDoorW.PrintLast Go.Proofs.YtpmnhlbkgeiomaaDoorW.PrintMore Go.Proofs.YtpmnhlbkgeiomaaDoor.Gf Go.Proofs.YtpmnhlbkgeiomaaDoor.Fld Go.Proofs.YtpmnhlbkgeiomaaDoor.Grd Go.Proofs.YtpmnhlbkgeiomaaDoor.Rowb
set_option linter.unusedVariables false
set_option linter.unusedSimpArgs false
theorem codeB_in {K M : Nat} (h1 : 1 ≤ K) (h2 : K + M ≤ 255) : codeB (K : Int) (M : Int) = true := by unfold codeB; exact decide_eq_true (by omega)
theorem codeB_0 {K : Nat} (h1 : 1 ≤ K) (h2 : K ≤ 255) : codeB (K : Int) 0 = true := by unfold codeB; exact decide_eq_true (by omega)
/-! Plain -/
/-! Split -/
theorem sizeN_small (K L : Nat) (h1 : 1 ≤ K) (h2 : K ≤ 255) (hL : L ≤ 2048) : sizeN K L ≤ 2052 := by
  unfold sizeN
  exact Nat.div_le_of_le_mul (by omega)
/-! Even -/
/-! Under -/
theorem d0 (n : Nat) (data : List ByteArray) (h0 : 0 < data.length) (he : ∀ s, s ∈ data → s.size = n) : (rdOf ByteArray.empty data 0).size = n := by
  have : rdOf ByteArray.empty data 0 = data[0] := rdOf_nat data 0 h0
  rw [this]
  exact he _ (List.getElem_mem h0)
section
variable (R C n : Nat) (c : Nat → Nat → UInt8) (S : List UInt8) (data : List ByteArray)
variable (hR : R ≤ 255) (hC : C ≤ 255) (hS : S.length = R * C) (hSc : ∀ i j, i < R → j < C → S.getD (i * C + j) 0 = c i j)
variable (hd : data.length = C) (hC1 : 1 ≤ C) (he : ∀ s, s ∈ data → s.size = n) (hn : n ≤ 140737488355231)
include hR hC hS hSc hd hC1 he hn
end
/-! Parity, Encode -/
theorem shard_len (pl : List UInt8) (n i K : Nat) (hp : pl.length = n * K) (hi : i < K) : (shardOf pl n i).size = n := by
  unfold shardOf
  rw [txt_size, List.length_take, List.length_drop, hp]
  have : (i + 1) * n ≤ K * n := Nat.mul_le_mul_right _ (by omega)
  rw [Nat.succ_mul, Nat.mul_comm K n] at this
  omega
theorem splitL_len (K : Nat) (o : ByteArray) : (splitL K o).length = K := by simp [splitL]
theorem splitL_size (K : Nat) (o : ByteArray) (h1 : 1 ≤ K) : ∀ s, s ∈ splitL K o → s.size = sizeN K o.size := fun s hs => by
  obtain ⟨i, hi, rfl⟩ := List.mem_map.1 hs
  exact shard_len _ _ i K (plain_len K o h1) (List.mem_range.1 hi)
theorem splitL_first (K : Nat) (o : ByteArray) (h1 : 1 ≤ K) : (rdOf ByteArray.empty (splitL K o) 0).size = sizeN K o.size := by
  have h0 : 0 < (splitL K o).length := by rw [splitL_len]; exact h1
  have : rdOf ByteArray.empty (splitL K o) 0 = (splitL K o)[0] := rdOf_nat _ 0 h0
  rw [this]
  exact splitL_size K o h1 _ (List.getElem_mem h0)
theorem splitL_even (K : Nat) (o : ByteArray) (h1 : 1 ≤ K) : evenB (splitL K o) = true := by
  unfold evenB
  rw [List.all_eq_true]
  intro s hs
  rw [splitL_size K o h1 s hs, splitL_first K o h1]
  simp
def encL (K M : Nat) (o : ByteArray) : List ByteArray := splitL K o ++ parL K (sizeN K o.size) (splitL K o) M
def encV (k m : Int) (o : ByteArray) : List ByteArray × Int := if codeB k m = true then (if o.size ≤ 2048 then (encL k.toNat m.toNat o, 0) else ([], 2)) else ([], 1)
theorem parity_split (K M : Nat) (h1 : 1 ≤ K) (h2 : K + M ≤ 255) (o : ByteArray) (ho : o.size ≤ 2048) : parityV (K : Int) (M : Int) (splitL K o) = (parL K (sizeN K o.size) (splitL K o) M, 0) := by
  unfold parityV
  rw [if_pos (codeB_in h1 h2), if_pos ⟨by rw [splitL_len], splitL_even K o h1⟩, splitL_first K o h1, if_pos (sizeN_small K o.size h1 (by omega) ho)]
  rfl
theorem encode_f (a0 a1 : Int) (o : ByteArray) : stripe_Encode.f a0 a1 o = some (encV a0 a1 o) := by
  unfold stripe_Encode.f encV
  rw [code_f, Option.bind_some]
  by_cases hc : codeB a0 a1 = true
  · rw [if_pos hc, if_pos hc]
    obtain ⟨K, M, rfl, rfl, h1, h2⟩ := codeB_nat hc
    unfold stripe_Split.f splitV
    rw [Option.bind_some, if_pos (codeB_0 h1 (by omega))]
    by_cases ho : o.size ≤ 2048
    · rw [if_pos ho, if_pos ho, if_pos rfl]
      simp only [Int.toNat_natCast]
      unfold stripe_Parity.f
      rw [parity_split K M h1 h2 o ho, Option.bind_some, if_pos (by rw [splitL_len, parL_len]; omega)]
      rfl
    · rw [if_neg ho, if_neg ho, if_neg (by decide)]
  · rw [if_neg hc, if_neg hc]
/-! Texts that are the same -/
end Go.Proofs.YtpmnhlbkgeiomaaDoor.PS
namespace Go.Proofs.YtpmnhlbkgeiomaaDoor.PS
open Go.RowKit Go.Proofs.YtpmnhlbkgeiomaaDoorW.PrintWords Go.Proofs.YtpmnhlbkgeiomaaDoorW.PrintLast Go.Proofs.YtpmnhlbkgeiomaaDoorW.PrintMore Go.Proofs.YtpmnhlbkgeiomaaDoor.Gf Go.Proofs.YtpmnhlbkgeiomaaDoor.Fld Go.Proofs.YtpmnhlbkgeiomaaDoor.Grd Go.Proofs.YtpmnhlbkgeiomaaDoor.Rowb
set_option linter.unusedVariables false
set_option linter.unusedSimpArgs false
theorem parL_size (k n : Nat) (data : List ByteArray) (r : Nat) : ∀ s, s ∈ parL k n data r → s.size = n := fun s hs => by
  obtain ⟨i, hi, rfl⟩ := List.mem_map.1 hs
  rw [txt_size, acc_len]
theorem encL_len (K M : Nat) (o : ByteArray) : (encL K M o).length = K + M := by unfold encL; rw [List.length_append, splitL_len, parL_len]
theorem encL_size (K M : Nat) (o : ByteArray) (h1 : 1 ≤ K) : ∀ s, s ∈ encL K M o → s.size = sizeN K o.size := fun s hs => by
  rcases List.mem_append.1 hs with hs | hs
  · exact splitL_size K o h1 s hs
  · exact parL_size _ _ _ _ s hs
end Go.Proofs.YtpmnhlbkgeiomaaDoor.PS
namespace Go.Proofs.YtpmnhlbkgeiomaaDoor.MapN
open Go.RowKit Go.Maps Go.WideMaps
set_option linter.unusedVariables false
/-- An element told as the very value. -/
def Rv (v : Value) : Option (DataW Value × List MemPlace) := some (.held v, [])
theorem keyed3 : Keyed Tryd.prog 3 := int_keyed Tryd.underlying3
theorem key3 {i : Int} (h : -9223372036854775808 ≤ i ∧ i ≤ 9223372036854775807) : keyOf Tryd.prog 3 (.int .i64 i) = some (.int .i64 i) := keyOf_int_mk Tryd.underlying3 (WalkArith.wf_i64 (by omega))
theorem zero3 (w : World) : (zeroValue 3).run Tryd.prog w = .ok (.int .i64 0) w := by kernel_rfl
/-- At most N entries; the keys there are those at which f is true. -/
def KeysAt (w : World) (b N : Nat) (f : Int → Bool) : Prop := ∃ D : DataW Value, w.ownsMap Tryd.prog 3 Rv b N D ∧ ∀ i, Maps.has D (.int .i64 i) = f i
section
variable {w w' : World} {b N : Nat} {f : Int → Bool}
theorem grownBy_of_below {w w1 : World} (h : Below w.heap.size w w1) (row : Option Nat) : w.grownBy w1 row := ⟨h.os, h.tape, h.output, h.size, fun i hi _ => h.block i hi⟩
theorem KeysAt.made (w : World) : KeysAt (w.alloc (.map #[] 0)) w.heap.size 0 (fun _ => false) := ⟨.map [], World.ownsMap_made _ _ _ _, fun _ => rfl⟩
theorem KeysAt.kept (h : KeysAt w b N f) {row : Option Nat} (hg : w.grownBy w' row) (hne : some b ≠ row) : KeysAt w' b N f := by
  obtain ⟨D, ho, h1⟩ := h
  exact ⟨D, ho.kept hg hne, h1⟩
theorem KeysAt.below (h : KeysAt w b N f) (hb : Below w.heap.size w w') : KeysAt w' b N f := h.kept (grownBy_of_below hb none) (by simp)
theorem KeysAt.lt (h : KeysAt w b N f) : b < w.heap.size := by
  obtain ⟨D, ho, _⟩ := h
  exact ho.lt
theorem KeysAt.congr (h : KeysAt w b N f) {g : Int → Bool} (e : ∀ i, f i = g i) : KeysAt w b N g := by
  obtain ⟨D, ho, h1⟩ := h
  exact ⟨D, ho, fun i => (h1 i).trans (e i)⟩
theorem KeysAt.ne (h : KeysAt w b N f) {a : Addr} {v : Value} (hc : w.cell? a = some v) : a.block ≠ b := by
  obtain ⟨D, ⟨es, clock, hb, _⟩, _⟩ := h
  intro e
  subst e
  simp [World.cell?, hb] at hc
/-- 'v, ok := m[i]' -/
theorem KeysAt.look {ops : Array Oper} {rest : List Oper} {o : Oper} {a : Act} {Q : Exit → Act → World → Prop} (h : KeysAt w b N f) (hg : o.guard = none) (m x : Operand) (hop : o.op = Op.lookup 131 m x true)
    (hm : a.eval m = .map (some b)) (i : Int) (hx : a.eval x = .int .i64 i) (hi : -9223372036854775808 ≤ i ∧ i ≤ 9223372036854775807)
    (hK : ∀ v, wpList Tryd.prog ops Q rest (a.put o.dst (.tuple #[v, .bool (f i)])) w) : wpList Tryd.prog ops Q (o :: rest) a w := by
  obtain ⟨D, ho, h1⟩ := h
  refine wpList_lookup_own_ok w hg m x 131 hop 3 3 keyed3 Tryd.underlying131 Rv (zero3 w) (.held (.int .i64 0)) [] rfl b N D hm ho _ (.int .i64 i) hx (key3 hi) (fun v ps hv => ?_)
  rw [h1 i]
  exact hK v
/-- 'm[i] = v' -/
theorem KeysAt.store {ops : Array Oper} {rest : List Oper} {o : Oper} {a : Act} {Q : Exit → Act → World → Prop} (h : KeysAt w b N f) (hg : o.guard = none) (m x y : Operand) (hop : o.op = Op.mapUpdate 131 m x y)
    (hn : N < maxLen) (hm : a.eval m = .map (some b)) (i : Int) (hx : a.eval x = .int .i64 i) (hi : -9223372036854775808 ≤ i ∧ i ≤ 9223372036854775807) (v : Value) (hy : a.eval y = v)
    (hK : ∀ w', KeysAt w' b (N + 1) (fun q => decide (q = i) || f q) → w.grownBy w' (some b) → wpList Tryd.prog ops Q rest (a.put o.dst undef) w') : wpList Tryd.prog ops Q (o :: rest) a w := by
  obtain ⟨D, ho, h1⟩ := h
  refine wpList_mapUpdate_own w hg m x y 131 hop 3 3 keyed3 Tryd.underlying131 Rv b N D hm ho hn _ v (.int .i64 i) hx hy (key3 hi) (.held v) [] rfl (fun w' ho' hg' => hK w' ⟨_, ho', fun q => ?_⟩ hg')
  by_cases e1 : q = i
  · rw [e1, has_put_same ho.isMap (show WideAt.IsKeyLit (Lit.int .i64 i) from trivial)]
    simp
  · rw [has_put_other (fun h => e1 (by injection h)), h1]
    simp [e1]
end
end Go.Proofs.YtpmnhlbkgeiomaaDoor.MapN
namespace Go.Proofs.YtpmnhlbkgeiomaaDoor.PS
open Go.RowKit Go.Proofs.YtpmnhlbkgeiomaaDoorW.PrintWords Go.Proofs.YtpmnhlbkgeiomaaDoorW.PrintLast Go.Proofs.YtpmnhlbkgeiomaaDoorW.PrintMore Go.Proofs.YtpmnhlbkgeiomaaDoor.MapN
set_option linter.unusedVariables false
set_option linter.unusedSimpArgs false
def seenB (l : List S37) (i : Nat) (q : Int) : Bool := (List.range i).any fun j => decide ((rd_T37 l (j : Int)).f0 = q)
theorem seenB_succ (l : List S37) (i : Nat) (q : Int) : seenB l (i + 1) q = (decide (q = (rd_T37 l (i : Int)).f0) || seenB l i q) := by
  unfold seenB
  rw [List.range_succ, List.any_append, Bool.or_comm]
  simp [eq_comm]
/-- What is wrong with shard i; 0: nothing. -/
def errAt (k m : Int) (l : List S37) (i : Nat) : Int :=
  if (rd_T37 l (i : Int)).f0 < 0 ∨ k + m ≤ (rd_T37 l (i : Int)).f0 then 1 else if seenB l i (rd_T37 l (i : Int)).f0 = true then 6 else if 2052 < (rd_T37 l (i : Int)).f1.size then 2 else if (rd_T37 l (i : Int)).f1.size ≠ (rd_T37 l 0).f1.size then 4 else 0
def scanC (k m : Int) (l : List S37) : Nat → Nat → Int × Int
  | 0, _ => if (l.length : Int) < k then (-1, 40) else (0, 0)
  | d + 1, i => if errAt k m l i = 0 then scanC k m l d (i + 1) else ((i : Int), errAt k m l i)
def checkV (k m : Int) (l : List S37) : Int × Int := if codeB k m = true then scanC k m l l.length 0 else (-1, 1)
/-! The document's. -/
/-! The walk. -/
theorem wfL_get {l : List S37} (h : ∀ x, x ∈ l → -9223372036854775808 ≤ x.f0 ∧ x.f0 ≤ 9223372036854775807) (i : Nat) (hi : i < l.length) : -9223372036854775808 ≤ (rd_T37 l (i : Int)).f0 ∧ (rd_T37 l (i : Int)).f0 ≤ 9223372036854775807 := by
  have : rd_T37 l (i : Int) = l[i] := by
    unfold rd_T37
    rw [Int.toNat_natCast, List.getD_eq_getElem?_getD, List.getElem?_eq_getElem hi]
    rfl
  rw [this]
  exact h _ (List.getElem_mem hi)
theorem below_over {b : Nat} {w W W' : World} (h : Below w.heap.size w W) (hg : W.grownBy W' (some b)) (hb : w.heap.size ≤ b) : Below w.heap.size w W' :=
  h.trans ⟨hg.os, hg.tape, hg.output, hg.size, fun k hk => hg.block k (Nat.lt_of_lt_of_le hk h.size) (fun e => by injection e; omega)⟩
def ChkIs (k m : Int) (l : List S37) (w : World) (e : Ending) (w' : World) : Prop := e = .returned (.tuple #[.int .i64 (checkV k m l).1, .int .i64 (checkV k m l).2]) ∧ Below w.heap.size w w'
section
variable (K M : Nat) (h1 : 1 ≤ K) (h2 : K + M ≤ 255) (A2 : Option Addr) (c2 : Nat) (l : List S37) (w : World) (hr : Kd.C k37 w A2 l.length l) (hc : l.length ≤ c2) (hwf : ∀ x, x ∈ l → -9223372036854775808 ≤ x.f0 ∧ x.f0 ≤ 9223372036854775807)
include h1 h2 hr hc hwf
set_option maxRecDepth 100000 in
set_option maxHeartbeats 4000000 in
theorem chk_main : Calls Tryd.prog 52 #[.int .i64 (K : Int), .int .i64 (M : Int), .slice A2 l.length c2] w (ChkIs (K : Int) (M : Int) l w) := by
  have HV : Aside0 (checkV (K : Int) (M : Int) l = scanC (K : Int) (M : Int) l l.length 0) := ⟨by
    unfold checkV
    rw [if_pos]
    unfold codeB
    exact decide_eq_true (by omega)⟩
  have d1 : decide ((K : Int) < 1) = false := by simp; omega
  have d2 : decide ((255 : Int) < (K : Int)) = false := by simp; omega
  have d3 : decide ((M : Int) < 0) = false := by simp
  have d4 : decide ((255 : Int) - (K : Int) < (M : Int)) = false := by simp; omega
  have HR := Aside0.mk hr
  have HC := Aside0.mk hc
  have HW := Aside0.mk hwf
  have hlm := Kd.C_max hr
  have HLM := Aside0.mk hlm
  clear hr hc hwf hlm
  have hmm := @run_makeMap Tryd.prog
  go_enter Tryd.func52, Tryd.ntmps52
  go_wp2
  have HK0 : Aside0 (KeysAt (w.alloc (.map #[] 0)) w.heap.size 0 (seenB l 0)) := ⟨(KeysAt.made w).congr (fun _ => rfl)⟩
  have HB0 : Aside0 (Below w.heap.size w (w.alloc (.map #[] 0))) := ⟨below_alloc (Below.refl _ _) _⟩
  go_loopw [32] (fun v W => ∃ i : Nat, i ≤ l.length ∧ v = .int .i64 (i : Int) ∧ Aside0 (scanC (K : Int) (M : Int) l l.length 0 = scanC (K : Int) (M : Int) l (l.length - i) i) ∧ Aside0 (KeysAt W w.heap.size i (seenB l i)) ∧ Aside0 (Below w.heap.size w W)) (fun v _ => l.length - (intOf v).toNat)
  case atStart => exact ⟨0, by omega, rfl, ⟨rfl⟩, HK0, HB0⟩
  case round =>
    obtain ⟨i, hi, rfl, HS, HK, HB⟩ := hrel
    clear HK0 HB0
    by_cases hlt : i < l.length
    · have hCW := Kd.C_below HR.out HB.out
      obtain ⟨ad, hA, hx0, hx1⟩ := at_T37 hCW (i : Int) (by omega) (by omega)
      obtain ⟨ad', hA', hy0, hy1⟩ := at_T37 hCW 0 (by omega) (by omega)
      subst hA
      obtain rfl : ad = ad' := by injection hA'
      rw [Int.toNat_natCast] at hx0 hx1
      rw [show ((0 : Int)).toNat * 2 = 0 from rfl, Addr.add_zero'] at hy0 hy1
      have HX := Aside0.mk (wfL_get HW.out i hlt)
      have HST : Aside0 (scanC (K : Int) (M : Int) l (l.length - i) i = if errAt (K : Int) (M : Int) l i = 0 then scanC (K : Int) (M : Int) l (l.length - (i + 1)) (i + 1) else ((i : Int), errAt (K : Int) (M : Int) l i)) := ⟨by
        rw [show l.length - i = (l.length - (i + 1)) + 1 by omega]
        rfl⟩
      have HEA : Aside0 (errAt (K : Int) (M : Int) l i = if (rd_T37 l (i : Int)).f0 < 0 ∨ (K : Int) + (M : Int) ≤ (rd_T37 l (i : Int)).f0 then 1 else if seenB l i (rd_T37 l (i : Int)).f0 = true then 6 else if 2052 < (rd_T37 l (i : Int)).f1.size then 2 else if (rd_T37 l (i : Int)).f1.size ≠ (rd_T37 l 0).f1.size then 4 else 0) := ⟨rfl⟩
      have HSS := Aside0.mk (fun q => seenB_succ l i q)
      have hy1b := World.block_lt_of_cell? _ _ hy1
      have HFAR : Aside0 (∀ (W : World) (g : Nat) (u v : Value), Below wr.heap.size wr W → wr.heap.size ≤ g → ((W.setCell ⟨g, 0, none⟩ u).setCell ⟨g, 1, none⟩ v).cell? ⟨ad.block, ad.off + 1, none⟩ = some (.string (rd_T37 l 0).f1)) := ⟨fun W g u v hb hg => by
        have hlt' : ad.block < wr.heap.size := hy1b
        rw [cell_far (p := ⟨g, 1, none⟩) (by show ad.block ≠ g; omega), cell_far (p := ⟨g, 0, none⟩) (by show ad.block ≠ g; omega)]
        exact pw_cell_below hb hy1⟩
      generalize rd_T37 l 0 = s0 at *
      generalize rd_T37 l (i : Int) = si at *
      obtain ⟨x, s⟩ := si
      simp only at hx0 hx1 HX HEA HSS
      have i0 : (0 : Int) < (l.length : Int) := by omega
      have i1 : 0 < l.length := by omega
      have dlt : decide ((i : Int) < (l.length : Int)) = true := decide_eq_true (by omega)
      have HKK : Aside0 (∀ (W : World) (g : Nat) (u v : Value), Below wr.heap.size wr W → wr.heap.size ≤ g → KeysAt ((W.setCell ⟨g, 0, none⟩ u).setCell ⟨g, 1, none⟩ v) w.heap.size i (seenB l i)) := ⟨fun W g u v hb hg => HK.out.below ((hb.setCell hg _).setCell hg _)⟩
      have HMX : Aside0 (i < maxLen) := ⟨by have := HLM.out; have : maxLen = 9223372036854775807 := rfl; omega⟩
      clear hCW hy0 hy1 hy1b
      by_cases e1 : x < 0 ∨ (K : Int) + (M : Int) ≤ x
      · rw [if_pos e1] at HEA
        have HRES : Aside0 (checkV (K : Int) (M : Int) l = ((i : Int), 1)) := ⟨by rw [HV.out, HS.out, HST.out, HEA.out, if_neg (by decide)]⟩
        rcases e1 with e1 | e1
        · have q1 : decide (x < 0) = true := decide_eq_true e1
          clear e1
          go_wp2_with (first
          | ((with_reducible refine gate_dst (N := 10) rfl ?_); refine box_event ?hg (N := 10) ?hd (cs := #[.int .i64 0, .string (⟨#[]⟩ : ByteArray)]) (t := 37) ?hr ?_; (case hd => rfl); (case hg => rfl); (case hr => first | (go_simp; done) | (go_simp; rfl)); intro gb hgb w3 hbox hb3; have HBB : Aside0 (Below w.heap.size w w3) := ⟨below_step HB.out hb3⟩; have HGE : Aside0 (w.heap.size ≤ gb) := ⟨by rw [hgb]; exact HB.out.size⟩; have zz := HFAR.out w3 gb (.int .i64 x) (.string s) hb3 (by rw [hgb]; exact Nat.le_refl _); have HBX := Aside0.mk hbox; have HB3 := Aside0.mk hb3; have HGB := Aside0.mk hgb; clear hbox hb3 hgb; have z0 : w3.cell? ⟨gb, 0, none⟩ = some (.int .i64 0) := (blk_cell HBX.out 0).trans rfl; have z1 : w3.cell? ⟨gb, 1, none⟩ = some (.string (⟨#[]⟩ : ByteArray)) := (blk_cell HBX.out 1).trans rfl; have f0 := blk_frozen HBX.out 0; have f1 := blk_frozen HBX.out 1)
          | (at_lookup; refine KeysAt.look (HKK.out _ _ _ _ HB3.out (by rw [HGB.out]; exact Nat.le_refl _)) rfl _ _ rfl rfl x rfl HX.out ?_; intro v5)
          | (at_mapUpdate; refine KeysAt.store (HKK.out _ _ _ _ HB3.out (by rw [HGB.out]; exact Nat.le_refl _)) rfl _ _ _ rfl HMX.out rfl x rfl HX.out _ rfl ?_; intro w9 hk9 hg9; have HK9 := Aside0.mk hk9; have HG9 := Aside0.mk hg9; clear hk9 hg9))
          go_ret2
          unfold ChkIs
          rw [HRES.out]
          exact ⟨rfl, by repeat (first | exact HBB.out | refine Below.setCell ?_ HGE.out _ | apply below_drew1 | apply pw_below_drewN)⟩
        · have q1 : decide (x < 0) = false := decide_eq_false (by omega)
          have q2 : decide ((K : Int) + (M : Int) ≤ x) = true := decide_eq_true e1
          clear e1
          go_wp2_with (first
          | ((with_reducible refine gate_dst (N := 10) rfl ?_); refine box_event ?hg (N := 10) ?hd (cs := #[.int .i64 0, .string (⟨#[]⟩ : ByteArray)]) (t := 37) ?hr ?_; (case hd => rfl); (case hg => rfl); (case hr => first | (go_simp; done) | (go_simp; rfl)); intro gb hgb w3 hbox hb3; have HBB : Aside0 (Below w.heap.size w w3) := ⟨below_step HB.out hb3⟩; have HGE : Aside0 (w.heap.size ≤ gb) := ⟨by rw [hgb]; exact HB.out.size⟩; have zz := HFAR.out w3 gb (.int .i64 x) (.string s) hb3 (by rw [hgb]; exact Nat.le_refl _); have HBX := Aside0.mk hbox; have HB3 := Aside0.mk hb3; have HGB := Aside0.mk hgb; clear hbox hb3 hgb; have z0 : w3.cell? ⟨gb, 0, none⟩ = some (.int .i64 0) := (blk_cell HBX.out 0).trans rfl; have z1 : w3.cell? ⟨gb, 1, none⟩ = some (.string (⟨#[]⟩ : ByteArray)) := (blk_cell HBX.out 1).trans rfl; have f0 := blk_frozen HBX.out 0; have f1 := blk_frozen HBX.out 1)
          | (at_lookup; refine KeysAt.look (HKK.out _ _ _ _ HB3.out (by rw [HGB.out]; exact Nat.le_refl _)) rfl _ _ rfl rfl x rfl HX.out ?_; intro v5)
          | (at_mapUpdate; refine KeysAt.store (HKK.out _ _ _ _ HB3.out (by rw [HGB.out]; exact Nat.le_refl _)) rfl _ _ _ rfl HMX.out rfl x rfl HX.out _ rfl ?_; intro w9 hk9 hg9; have HK9 := Aside0.mk hk9; have HG9 := Aside0.mk hg9; clear hk9 hg9))
          go_ret2
          unfold ChkIs
          rw [HRES.out]
          exact ⟨rfl, by repeat (first | exact HBB.out | refine Below.setCell ?_ HGE.out _ | apply below_drew1 | apply pw_below_drewN)⟩
      · rw [if_neg e1] at HEA
        have q1 : decide (x < 0) = false := decide_eq_false (by omega)
        have q2 : decide ((K : Int) + (M : Int) ≤ x) = false := decide_eq_false (by omega)
        clear e1
        cases hsx : seenB l i x with
        | true =>
          rw [if_pos hsx] at HEA
          have HRES : Aside0 (checkV (K : Int) (M : Int) l = ((i : Int), 6)) := ⟨by rw [HV.out, HS.out, HST.out, HEA.out, if_neg (by decide)]⟩
          go_wp2_with (first
          | ((with_reducible refine gate_dst (N := 10) rfl ?_); refine box_event ?hg (N := 10) ?hd (cs := #[.int .i64 0, .string (⟨#[]⟩ : ByteArray)]) (t := 37) ?hr ?_; (case hd => rfl); (case hg => rfl); (case hr => first | (go_simp; done) | (go_simp; rfl)); intro gb hgb w3 hbox hb3; have HBB : Aside0 (Below w.heap.size w w3) := ⟨below_step HB.out hb3⟩; have HGE : Aside0 (w.heap.size ≤ gb) := ⟨by rw [hgb]; exact HB.out.size⟩; have zz := HFAR.out w3 gb (.int .i64 x) (.string s) hb3 (by rw [hgb]; exact Nat.le_refl _); have HBX := Aside0.mk hbox; have HB3 := Aside0.mk hb3; have HGB := Aside0.mk hgb; clear hbox hb3 hgb; have z0 : w3.cell? ⟨gb, 0, none⟩ = some (.int .i64 0) := (blk_cell HBX.out 0).trans rfl; have z1 : w3.cell? ⟨gb, 1, none⟩ = some (.string (⟨#[]⟩ : ByteArray)) := (blk_cell HBX.out 1).trans rfl; have f0 := blk_frozen HBX.out 0; have f1 := blk_frozen HBX.out 1)
          | (at_lookup; refine KeysAt.look (HKK.out _ _ _ _ HB3.out (by rw [HGB.out]; exact Nat.le_refl _)) rfl _ _ rfl rfl x rfl HX.out ?_; intro v5)
          | (at_mapUpdate; refine KeysAt.store (HKK.out _ _ _ _ HB3.out (by rw [HGB.out]; exact Nat.le_refl _)) rfl _ _ _ rfl HMX.out rfl x rfl HX.out _ rfl ?_; intro w9 hk9 hg9; have HK9 := Aside0.mk hk9; have HG9 := Aside0.mk hg9; clear hk9 hg9))
          go_ret2
          unfold ChkIs
          rw [HRES.out]
          exact ⟨rfl, by repeat (first | exact HBB.out | refine Below.setCell ?_ HGE.out _ | apply below_drew1 | apply pw_below_drewN)⟩
        | false =>
          rw [if_neg (by rw [hsx]; decide)] at HEA
          by_cases e3 : 2052 < s.size
          · rw [if_pos e3] at HEA
            have HRES : Aside0 (checkV (K : Int) (M : Int) l = ((i : Int), 2)) := ⟨by rw [HV.out, HS.out, HST.out, HEA.out, if_neg (by decide)]⟩
            have q3 : decide ((2052 : Int) < (s.size : Int)) = true := decide_eq_true (by omega)
            clear e3
            go_wp2_with (first
          | ((with_reducible refine gate_dst (N := 10) rfl ?_); refine box_event ?hg (N := 10) ?hd (cs := #[.int .i64 0, .string (⟨#[]⟩ : ByteArray)]) (t := 37) ?hr ?_; (case hd => rfl); (case hg => rfl); (case hr => first | (go_simp; done) | (go_simp; rfl)); intro gb hgb w3 hbox hb3; have HBB : Aside0 (Below w.heap.size w w3) := ⟨below_step HB.out hb3⟩; have HGE : Aside0 (w.heap.size ≤ gb) := ⟨by rw [hgb]; exact HB.out.size⟩; have zz := HFAR.out w3 gb (.int .i64 x) (.string s) hb3 (by rw [hgb]; exact Nat.le_refl _); have HBX := Aside0.mk hbox; have HB3 := Aside0.mk hb3; have HGB := Aside0.mk hgb; clear hbox hb3 hgb; have z0 : w3.cell? ⟨gb, 0, none⟩ = some (.int .i64 0) := (blk_cell HBX.out 0).trans rfl; have z1 : w3.cell? ⟨gb, 1, none⟩ = some (.string (⟨#[]⟩ : ByteArray)) := (blk_cell HBX.out 1).trans rfl; have f0 := blk_frozen HBX.out 0; have f1 := blk_frozen HBX.out 1)
          | (at_lookup; refine KeysAt.look (HKK.out _ _ _ _ HB3.out (by rw [HGB.out]; exact Nat.le_refl _)) rfl _ _ rfl rfl x rfl HX.out ?_; intro v5)
          | (at_mapUpdate; refine KeysAt.store (HKK.out _ _ _ _ HB3.out (by rw [HGB.out]; exact Nat.le_refl _)) rfl _ _ _ rfl HMX.out rfl x rfl HX.out _ rfl ?_; intro w9 hk9 hg9; have HK9 := Aside0.mk hk9; have HG9 := Aside0.mk hg9; clear hk9 hg9))
            go_ret2
            unfold ChkIs
            rw [HRES.out]
            exact ⟨rfl, by repeat (first | exact HBB.out | refine Below.setCell ?_ HGE.out _ | apply below_drew1 | apply pw_below_drewN)⟩
          · rw [if_neg e3] at HEA
            have q3 : decide ((2052 : Int) < (s.size : Int)) = false := decide_eq_false (by omega)
            clear e3
            by_cases e4 : s.size ≠ s0.f1.size
            · rw [if_pos e4] at HEA
              have HRES : Aside0 (checkV (K : Int) (M : Int) l = ((i : Int), 4)) := ⟨by rw [HV.out, HS.out, HST.out, HEA.out, if_neg (by decide)]⟩
              have q4 : ((s.size : Int) != (s0.f1.size : Int)) = true := by simp; omega
              clear e4
              go_wp2_with (first
          | ((with_reducible refine gate_dst (N := 10) rfl ?_); refine box_event ?hg (N := 10) ?hd (cs := #[.int .i64 0, .string (⟨#[]⟩ : ByteArray)]) (t := 37) ?hr ?_; (case hd => rfl); (case hg => rfl); (case hr => first | (go_simp; done) | (go_simp; rfl)); intro gb hgb w3 hbox hb3; have HBB : Aside0 (Below w.heap.size w w3) := ⟨below_step HB.out hb3⟩; have HGE : Aside0 (w.heap.size ≤ gb) := ⟨by rw [hgb]; exact HB.out.size⟩; have zz := HFAR.out w3 gb (.int .i64 x) (.string s) hb3 (by rw [hgb]; exact Nat.le_refl _); have HBX := Aside0.mk hbox; have HB3 := Aside0.mk hb3; have HGB := Aside0.mk hgb; clear hbox hb3 hgb; have z0 : w3.cell? ⟨gb, 0, none⟩ = some (.int .i64 0) := (blk_cell HBX.out 0).trans rfl; have z1 : w3.cell? ⟨gb, 1, none⟩ = some (.string (⟨#[]⟩ : ByteArray)) := (blk_cell HBX.out 1).trans rfl; have f0 := blk_frozen HBX.out 0; have f1 := blk_frozen HBX.out 1)
          | (at_lookup; refine KeysAt.look (HKK.out _ _ _ _ HB3.out (by rw [HGB.out]; exact Nat.le_refl _)) rfl _ _ rfl rfl x rfl HX.out ?_; intro v5)
          | (at_mapUpdate; refine KeysAt.store (HKK.out _ _ _ _ HB3.out (by rw [HGB.out]; exact Nat.le_refl _)) rfl _ _ _ rfl HMX.out rfl x rfl HX.out _ rfl ?_; intro w9 hk9 hg9; have HK9 := Aside0.mk hk9; have HG9 := Aside0.mk hg9; clear hk9 hg9))
              go_quiet (fail)
              go_wp2
              go_ret2
              unfold ChkIs
              rw [HRES.out]
              exact ⟨rfl, by repeat (first | exact HBB.out | refine Below.setCell ?_ HGE.out _ | apply below_drew1 | apply pw_below_drewN)⟩
            · rw [if_neg e4] at HEA
              have q4 : ((s.size : Int) != (s0.f1.size : Int)) = false := by
                have : s.size = s0.f1.size := Decidable.not_not.1 e4
                rw [this]
                simp
              clear e4
              rw [HEA.out, if_pos rfl] at HST
              have hlm := HLM.out
              go_wp2_with (first
          | ((with_reducible refine gate_dst (N := 10) rfl ?_); refine box_event ?hg (N := 10) ?hd (cs := #[.int .i64 0, .string (⟨#[]⟩ : ByteArray)]) (t := 37) ?hr ?_; (case hd => rfl); (case hg => rfl); (case hr => first | (go_simp; done) | (go_simp; rfl)); intro gb hgb w3 hbox hb3; have HBB : Aside0 (Below w.heap.size w w3) := ⟨below_step HB.out hb3⟩; have HGE : Aside0 (w.heap.size ≤ gb) := ⟨by rw [hgb]; exact HB.out.size⟩; have zz := HFAR.out w3 gb (.int .i64 x) (.string s) hb3 (by rw [hgb]; exact Nat.le_refl _); have HBX := Aside0.mk hbox; have HB3 := Aside0.mk hb3; have HGB := Aside0.mk hgb; clear hbox hb3 hgb; have z0 : w3.cell? ⟨gb, 0, none⟩ = some (.int .i64 0) := (blk_cell HBX.out 0).trans rfl; have z1 : w3.cell? ⟨gb, 1, none⟩ = some (.string (⟨#[]⟩ : ByteArray)) := (blk_cell HBX.out 1).trans rfl; have f0 := blk_frozen HBX.out 0; have f1 := blk_frozen HBX.out 1)
          | (at_lookup; refine KeysAt.look (HKK.out _ _ _ _ HB3.out (by rw [HGB.out]; exact Nat.le_refl _)) rfl _ _ rfl rfl x rfl HX.out ?_; intro v5)
          | (at_mapUpdate; refine KeysAt.store (HKK.out _ _ _ _ HB3.out (by rw [HGB.out]; exact Nat.le_refl _)) rfl _ _ _ rfl HMX.out rfl x rfl HX.out _ rfl ?_; intro w9 hk9 hg9; have HK9 := Aside0.mk hk9; have HG9 := Aside0.mk hg9; clear hk9 hg9))
              go_quiet (fail)
              go_wp2_with (first
          | ((with_reducible refine gate_dst (N := 10) rfl ?_); refine box_event ?hg (N := 10) ?hd (cs := #[.int .i64 0, .string (⟨#[]⟩ : ByteArray)]) (t := 37) ?hr ?_; (case hd => rfl); (case hg => rfl); (case hr => first | (go_simp; done) | (go_simp; rfl)); intro gb hgb w3 hbox hb3; have HBB : Aside0 (Below w.heap.size w w3) := ⟨below_step HB.out hb3⟩; have HGE : Aside0 (w.heap.size ≤ gb) := ⟨by rw [hgb]; exact HB.out.size⟩; have zz := HFAR.out w3 gb (.int .i64 x) (.string s) hb3 (by rw [hgb]; exact Nat.le_refl _); have HBX := Aside0.mk hbox; have HB3 := Aside0.mk hb3; have HGB := Aside0.mk hgb; clear hbox hb3 hgb; have z0 : w3.cell? ⟨gb, 0, none⟩ = some (.int .i64 0) := (blk_cell HBX.out 0).trans rfl; have z1 : w3.cell? ⟨gb, 1, none⟩ = some (.string (⟨#[]⟩ : ByteArray)) := (blk_cell HBX.out 1).trans rfl; have f0 := blk_frozen HBX.out 0; have f1 := blk_frozen HBX.out 1)
          | (at_lookup; refine KeysAt.look (HKK.out _ _ _ _ HB3.out (by rw [HGB.out]; exact Nat.le_refl _)) rfl _ _ rfl rfl x rfl HX.out ?_; intro v5)
          | (at_mapUpdate; refine KeysAt.store (HKK.out _ _ _ _ HB3.out (by rw [HGB.out]; exact Nat.le_refl _)) rfl _ _ _ rfl HMX.out rfl x rfl HX.out _ rfl ?_; intro w9 hk9 hg9; have HK9 := Aside0.mk hk9; have HG9 := Aside0.mk hg9; clear hk9 hg9))
              go_roundw
              case rel => exact ⟨i + 1, by omega, by go_num, ⟨HS.out.trans HST.out⟩, ⟨HK9.out.congr (fun q => (HSS.out q).symm)⟩, ⟨below_over (by repeat (first | exact HBB.out | refine Below.setCell ?_ HGE.out _ | apply below_drew1 | apply pw_below_drewN)) HG9.out (Nat.le_refl _)⟩⟩
              case measure => simp [intOf]; omega
    · have hil : i = l.length := by omega
      have HSC : Aside0 (scanC (K : Int) (M : Int) l (l.length - i) i = if (l.length : Int) < (K : Int) then (-1, 40) else (0, 0)) := ⟨by
        rw [hil, Nat.sub_self]
        rfl⟩
      have dlt : decide ((i : Int) < (l.length : Int)) = false := decide_eq_false (by omega)
      clear hil
      by_cases e1 : (l.length : Int) < (K : Int)
      · have HRES : Aside0 (checkV (K : Int) (M : Int) l = (-1, 40)) := ⟨by rw [HV.out, HS.out, HSC.out, if_pos e1]⟩
        have q1 : decide ((l.length : Int) < (K : Int)) = true := decide_eq_true e1
        have q1n : l.length < K := by omega
        clear e1
        go_wp2
        go_ret2
        unfold ChkIs
        rw [HRES.out]
        exact ⟨rfl, HB.out⟩
      · have HRES : Aside0 (checkV (K : Int) (M : Int) l = (0, 0)) := ⟨by rw [HV.out, HS.out, HSC.out, if_neg e1]⟩
        have q1 : decide ((l.length : Int) < (K : Int)) = false := decide_eq_false e1
        have q1n : ¬ l.length < K := by omega
        clear e1
        go_wp2
        go_ret2
        unfold ChkIs
        rw [HRES.out]
        exact ⟨rfl, HB.out⟩
end
section
variable (k m : Int) (A2 : Option Addr) (c2 : Nat) (l : List S37) (w : World) (hr : Kd.C k37 w A2 l.length l) (hc : l.length ≤ c2) (hwf : ∀ x, x ∈ l → -9223372036854775808 ≤ x.f0 ∧ x.f0 ≤ 9223372036854775807)
include hr hc hwf
set_option maxRecDepth 100000 in
set_option maxHeartbeats 4000000 in
theorem chk_walk : Calls Tryd.prog 52 #[.int .i64 k, .int .i64 m, .slice A2 l.length c2] w (ChkIs k m l w) := by
  cases hcb : codeB k m with
  | true =>
    obtain ⟨K, M, rfl, rfl, h1, h2⟩ := codeB_nat hcb
    exact chk_main K M h1 h2 A2 c2 l w hr hc hwf
  | false =>
    have HRES : Aside0 (checkV k m l = (-1, 1)) := ⟨by unfold checkV; rw [hcb, if_neg (by decide)]⟩
    have hn : ¬ (1 ≤ k ∧ k ≤ 255 ∧ 0 ≤ m ∧ m ≤ 255 - k) := by unfold codeB at hcb; exact of_decide_eq_false hcb
    clear hr hc hwf hcb
    by_cases e1 : k < 1
    · have d1 : decide (k < 1) = true := decide_eq_true e1
      clear hn e1
      go_enter Tryd.func52, Tryd.ntmps52
      go_wp2
      go_ret2
      unfold ChkIs
      rw [HRES.out]
      exact ⟨rfl, Below.refl _ _⟩
    · have d1 : decide (k < 1) = false := decide_eq_false e1
      by_cases e2 : 255 < k
      · have d2 : decide (255 < k) = true := decide_eq_true e2
        clear hn e1 e2
        go_enter Tryd.func52, Tryd.ntmps52
        go_wp2
        go_ret2
        unfold ChkIs
        rw [HRES.out]
        exact ⟨rfl, Below.refl _ _⟩
      · have d2 : decide (255 < k) = false := decide_eq_false e2
        by_cases e3 : m < 0
        · have d3 : decide (m < 0) = true := decide_eq_true e3
          clear hn e1 e2 e3
          go_enter Tryd.func52, Tryd.ntmps52
          go_wp2
          go_ret2
          unfold ChkIs
          rw [HRES.out]
          exact ⟨rfl, Below.refl _ _⟩
        · have d3 : decide (m < 0) = false := decide_eq_false e3
          have d4 : decide ((255 : Int) - k < m) = true := decide_eq_true (by omega)
          have d5 : (255 : Int) - k < m := by omega
          clear hn
          go_enter Tryd.func52, Tryd.ntmps52
          go_wp2
          go_ret2
          unfold ChkIs
          rw [HRES.out]
          exact ⟨rfl, Below.refl _ _⟩
end
def numsOk (l : List S37) : Bool := l.all fun x => decide (-9223372036854775808 ≤ x.f0 ∧ x.f0 ≤ 9223372036854775807)
theorem numsOk_of {l : List S37} (h : numsOk l = true) : ∀ x, x ∈ l → -9223372036854775808 ≤ x.f0 ∧ x.f0 ≤ 9223372036854775807 := fun x hx => of_decide_eq_true (List.all_eq_true.1 h x hx)
theorem numsOk_mk {l : List S37} (h : ∀ x, x ∈ l → -9223372036854775808 ≤ x.f0 ∧ x.f0 ≤ 9223372036854775807) : numsOk l = true := List.all_eq_true.2 fun x hx => decide_eq_true (h x hx)
def mend_Check.f (a0 : Int) (a1 : Int) (l2 : List (S37)) : Option (Int × Int) := if numsOk l2 = true then some (checkV a0 a1 l2) else none
theorem mend_Check.calls (a0 : Int) (a1 : Int) (A2 : Option Addr) (c2 : Nat) (l2 : List (S37)) (r1 : Int) (r2 : Int) (w : World) (hr2 : Kd.C k37 w A2 l2.length l2) (hc2 : l2.length ≤ c2) (h : mend_Check.f a0 a1 l2 = some (r1, r2)) :
    Calls Tryd.prog 52 #[.int .i64 a0, .int .i64 a1, .slice A2 l2.length c2] w fun e w' => e = .returned (.tuple #[.int .i64 r1, .int .i64 r2]) ∧ Below w.heap.size w w' := by
  unfold mend_Check.f at h
  by_cases hw : numsOk l2 = true
  · rw [if_pos hw] at h
    have e := Option.some.inj h
    have := chk_walk a0 a1 A2 c2 l2 w hr2 hc2 (numsOk_of hw)
    unfold ChkIs at this
    rw [e] at this
    exact this
  · rw [if_neg hw] at h
    cases h
end Go.Proofs.YtpmnhlbkgeiomaaDoor.PS
namespace Go.Proofs.YtpmnhlbkgeiomaaDoor.Grd
open Go.RowKit Go.Proofs.YtpmnhlbkgeiomaaDoorW.PrintWords Go.Proofs.YtpmnhlbkgeiomaaDoorW.PrintLast Go.Proofs.YtpmnhlbkgeiomaaDoorW.PrintMore Go.Proofs.YtpmnhlbkgeiomaaDoor.Gf Go.Proofs.YtpmnhlbkgeiomaaDoor.Rowb Go.Proofs.YtpmnhlbkgeiomaaDoor.Fld
open Go.Lib (byteCells byteCells_length)
set_option linter.unusedVariables false
set_option linter.unusedSimpArgs false
theorem flat_row {c : Nat} : ∀ (M : Grid) (i : Nat) (hi : i < M.length), (∀ r, r ∈ M → r.length = c) → (M.flatten.drop (i * c)).take c = M[i]
  | r :: M, 0, _, h => by
    have h1 := h r List.mem_cons_self
    rw [Nat.zero_mul, List.drop_zero, List.flatten_cons, List.take_append_of_le_length (by omega), List.take_of_length_le (by omega)]
    rfl
  | r :: M, i + 1, hi, h => by
    have h1 := h r List.mem_cons_self
    rw [List.flatten_cons, Nat.succ_mul, List.drop_append, List.drop_of_length_le (by omega), List.nil_append, show i * c + c - r.length = i * c by omega]
    exact flat_row M i (by simpa using hi) (fun x hx => h x (List.mem_cons_of_mem _ hx))
theorem flat_len {c : Nat} : ∀ (M : Grid), (∀ r, r ∈ M → r.length = c) → M.flatten.length = M.length * c
  | [], _ => by simp
  | r :: M, h => by
    have h1 := h r List.mem_cons_self
    have ih := flat_len M (fun x hx => h x (List.mem_cons_of_mem _ hx))
    rw [List.flatten_cons, List.length_append, ih, h1, List.length_cons, Nat.succ_mul, Nat.add_comm]
theorem row_ne {w : World} {g p : Nat} {l : List UInt8} {cs : Array Value} (h : RowS w p l) (hg : w.heap[g]? = some (.cells cs 35 (0, 0))) : p ≠ g := by
  obtain ⟨sp, fr, h, _⟩ := h
  intro e
  subst e
  rw [h] at hg
  injection hg with hg
  injection hg with _ hg _
  exact absurd hg (by decide)
/-- The outer row: the first rows are there, the others are not yet. -/
def outerOf (ps : List (Nat × Nat)) (L : Grid) (n : Nat) : Array Value := (List.zipWith rowV ps L ++ List.replicate (n - L.length) nilV).toArray
structure PartAt (W : World) (base g : Nat) (ps : List (Nat × Nat)) (L : Grid) (n : Nat) : Prop where
  blk : W.heap[g]? = some (.cells (outerOf ps L n) 35 (0, 0))
  len : ps.length = L.length
  row : ∀ (i : Nat) (p : Nat × Nat) (l : List UInt8), ps[i]? = some p → L[i]? = some l → base ≤ p.1 ∧ l.length ≤ p.2 ∧ RowS W p.1 l
  nodup : (ps.map (·.1)).Nodup
theorem outer_new (n b : Nat) : outerOf [] [] n = oneOuter b n 0 := by
  apply Array.ext_getElem?
  intro j
  by_cases hj : j < n
  · rw [oneOuter_at b n 0 j hj, if_neg (by omega)]
    unfold outerOf
    simp [hj]
  · rw [Array.getElem?_eq_none (by simp [outerOf]; omega), Array.getElem?_eq_none (by simp [oneOuter]; omega)]
theorem outer_step (ps : List (Nat × Nat)) (L : Grid) (n : Nat) (hl : ps.length = L.length) (hn : L.length < n) (p : Nat × Nat) (l : List UInt8) :
    (outerOf ps L n).setIfInBounds L.length (rowV p l) = outerOf (ps ++ [p]) (L ++ [l]) n := by
  have hz : (List.zipWith rowV ps L).length = L.length := by simp [hl]
  unfold outerOf
  rw [List.setIfInBounds_toArray, List.set_append_right _ _ (by omega), hz, Nat.sub_self, List.zipWith_append hl, List.length_append]
  obtain ⟨m, hm⟩ : ∃ m, n - L.length = m + 1 := ⟨n - L.length - 1, by omega⟩
  rw [hm, List.replicate_succ, List.set_cons_zero, List.length_singleton, show n - (L.length + 1) = m by omega]
  simp
theorem outer_at (ps : List (Nat × Nat)) (L : Grid) (n : Nat) (hl : ps.length = L.length) (hn : L.length < n) : (outerOf ps L n)[L.length]? = some nilV := by
  have hz : (List.zipWith rowV ps L).length = L.length := by simp [hl]
  unfold outerOf
  rw [List.getElem?_toArray, List.getElem?_append_right (by omega), hz, Nat.sub_self, List.getElem?_replicate]
  rw [if_pos (by omega)]
theorem nodup_snoc {α : Type} {l : List α} {a : α} (h : l.Nodup) (ha : a ∉ l) : (l ++ [a]).Nodup := by
  rw [List.nodup_append]
  refine ⟨h, by simp, fun x hx y hy e => ?_⟩
  rw [List.mem_singleton] at hy
  subst hy
  subst e
  exact ha hx
theorem PartAt.step {W W1 : World} {base g n cap : Nat} {ps : List (Nat × Nat)} {L : Grid} {l : List UInt8} (h : PartAt W base g ps L n) (hn : L.length < n) (hB : Below W.heap.size W W1) (hr : RowS W1 W.heap.size l) (hc : l.length ≤ cap) (hb : base ≤ W.heap.size)
    {W2 : World} (hW2 : W2.heap = W1.heap) :
    PartAt (W2.setCell ⟨g, L.length, none⟩ (rowV (W.heap.size, cap) l)) base g (ps ++ [(W.heap.size, cap)]) (L ++ [l]) n := by
  have hg1 : W2.heap[g]? = some (.cells (outerOf ps L n) 35 (0, 0)) := by rw [hW2]; exact blk_below h.blk hB
  refine ⟨blk_put hg1 _ _ (outer_step ps L n h.len hn _ l), by simp [h.len], fun i p x h1 h2 => ?_, ?_⟩
  · by_cases hi : i < L.length
    · rw [List.getElem?_append_left (by rw [h.len]; exact hi)] at h1
      rw [List.getElem?_append_left hi] at h2
      obtain ⟨a, b, c⟩ := h.row i p x h1 h2
      have c2 : RowS W2 p.1 x := (c.below hB).heap hW2
      exact ⟨a, b, c2.far (row_ne c2 hg1) _⟩
    · have hi2 : i = L.length := by
        have := (List.getElem?_eq_some_iff.1 h2).1
        rw [List.length_append, List.length_singleton] at this
        omega
      subst hi2
      rw [List.getElem?_append_right (by rw [h.len]; exact Nat.le_refl _), h.len, Nat.sub_self] at h1
      rw [List.getElem?_append_right (Nat.le_refl _), Nat.sub_self] at h2
      injection h1 with h1
      injection h2 with h2
      subst h1 h2
      have c2 : RowS W2 W.heap.size l := hr.heap hW2
      exact ⟨hb, hc, c2.far (row_ne c2 hg1) _⟩
  · rw [List.map_append]
    refine nodup_snoc h.nodup (fun hm => ?_)
    obtain ⟨p, hp, e⟩ := List.mem_map.1 hm
    obtain ⟨i, hi, rfl⟩ := List.getElem_of_mem hp
    have hiL : i < L.length := by rw [← h.len]; exact hi
    have := (h.row i _ _ (List.getElem?_eq_getElem hi) (List.getElem?_eq_getElem hiL)).2.2.lt
    have e' : (ps[i]).1 = W.heap.size := e
    omega
theorem PartAt.grid {W : World} {base g n : Nat} {ps : List (Nat × Nat)} {L : Grid} (h : PartAt W base g ps L n) (hn : L.length = n) (hb : base ≤ g) (hm : n ≤ 255) : GridAt W base (.slice (some ⟨g, 0, none⟩) n n) ps L := by
  subst hn
  have hz : (List.zipWith rowV ps L).length = L.length := by simp [h.len]
  have ho : outerOf ps L L.length = (List.zipWith rowV ps L).toArray := by
    unfold outerOf
    rw [Nat.sub_self]
    simp
  have hblk := h.blk
  rw [ho] at hblk
  refine ⟨⟨by rw [hz, Nat.mul_one], .inr ⟨g, L.length, _, rfl, hb, hblk, Nat.le_refl _, by unfold maxLen; omega, by simp [h.len], by rw [List.toList_toArray, Nat.mul_one, List.take_of_length_le (by omega)]⟩⟩, h.len, h.row, h.nodup⟩
theorem PartAt.heap {W W' : World} {base g n : Nat} {ps : List (Nat × Nat)} {L : Grid} (h : PartAt W base g ps L n) (e : W'.heap = W.heap) : PartAt W' base g ps L n :=
  ⟨by rw [e]; exact h.blk, h.len, fun i p l h1 h2 => ⟨(h.row i p l h1 h2).1, (h.row i p l h1 h2).2.1, (h.row i p l h1 h2).2.2.heap e⟩, h.nodup⟩
theorem row_text (s : ByteArray) (M : Grid) (c i z : Nat) (hs : s.data.toList = M.flatten) (hr : ∀ r, r ∈ M → r.length = c) (hi : i < M.length) (hz : i * c = z) : (s.extract z (z + c)).data.toList = M[i] := by
  rw [← flat_row M i hi hr, hz, ← hs]
  rw [ByteArray.data_extract]
  simp [List.extract_eq_take_drop]
def IsGrid (M : Grid) (w : World) (e : Ending) (w' : World) : Prop := ∃ v ps, e = .returned v ∧ GridAt w' w.heap.size v ps M ∧ Below w.heap.size w w'
set_option maxRecDepth 100000 in
set_option maxHeartbeats 1000000 in
theorem of_walk (w : World) (M : Grid) (c : Nat) (hr : ∀ r, r ∈ M → r.length = c) (h1 : 1 ≤ M.length) (h2 : M.length ≤ 255) (hc : c ≤ 255) :
    Calls Tryd.prog 72 #[matV M.length c M.flatten] w (IsGrid M w) := by
  have hfl := flat_len M hr
  obtain ⟨s, hs⟩ : ∃ s : ByteArray, s = ⟨M.flatten.toArray⟩ := ⟨_, rfl⟩
  have hsl : s.data.toList = M.flatten := by rw [hs]
  have hss : s.size = M.length * c := by rw [← hfl, ← hsl]; exact Array.length_toList.symm
  unfold matV
  rw [← hs]
  clear hs
  obtain ⟨n, hn⟩ : ∃ n, M.length = n := ⟨_, rfl⟩
  have HROW : Aside0 (∀ i z (hi : i < M.length), i * c = z → (s.extract z (z + c)).data.toList = M[i]) := ⟨fun i z hi hz => row_text s M c i z hsl hr hi hz⟩
  have HNL := Aside0.mk hn
  rw [hn] at hss h1 h2 ⊢
  have hnc : n * c ≤ 255 * 255 := Nat.mul_le_mul h2 hc
  have HSS := Aside0.mk hss
  have hmk := run_make_rows n h2 0
  clear hfl hsl hr hn
  go_enter Tryd.func72, Tryd.ntmps72
  have hbx : (w.alloc (.cells #[.int .i64 (n : Int), .int .i64 (c : Int), .string s] 90)).heap[w.heap.size]? = some (.cells #[.int .i64 (n : Int), .int .i64 (c : Int), .string s] 90 (0, 0)) := blk_new _ _
  go_wp2
  have HB0 : Aside0 (Below w.heap.size w ((w.alloc (.cells #[.int .i64 (n : Int), .int .i64 (c : Int), .string s] 90)).alloc (.cells (oneOuter 0 n 0) 35))) := ⟨((Below.refl _ _).alloc (Nat.le_refl _) _).alloc (by simp) _⟩
  have HX0 : Aside0 (((w.alloc (.cells #[.int .i64 (n : Int), .int .i64 (c : Int), .string s] 90)).alloc (.cells (oneOuter 0 n 0) 35)).heap[w.heap.size]? = some (.cells #[.int .i64 (n : Int), .int .i64 (c : Int), .string s] 90 (0, 0))) := ⟨blk_alloc hbx _⟩
  have HP0 : Aside0 (PartAt ((w.alloc (.cells #[.int .i64 (n : Int), .int .i64 (c : Int), .string s] 90)).alloc (.cells (oneOuter 0 n 0) 35)) w.heap.size (w.heap.size + 1) [] (M.take 0) n) := ⟨by
    refine ⟨?_, rfl, fun i p l h1 _ => by simp at h1, List.nodup_nil⟩
    rw [List.take_zero, outer_new n 0]
    have := blk_new (w.alloc (.cells #[.int .i64 (n : Int), .int .i64 (c : Int), .string s] 90)) (.cells (oneOuter 0 n 0) 35 (0, 0))
    simpa using this⟩
  clear hbx hmk
  go_loopw [4, 10] (fun _ i W => ∃ (k : Nat) (ps : List (Nat × Nat)), k ≤ n ∧ i = .int .i64 (k : Int) ∧ Aside0 (PartAt W w.heap.size (w.heap.size + 1) ps (M.take k) n) ∧ Aside0 (W.heap[w.heap.size]? = some (.cells #[.int .i64 (n : Int), .int .i64 (c : Int), .string s] 90 (0, 0))) ∧ Aside0 (Below w.heap.size w W)) (fun _ i _ => n - (intOf i).toNat)
  case atStart => exact ⟨0, [], by omega, rfl, HP0, HX0, HB0⟩
  case round =>
    obtain ⟨k, ps, hk, rfl, HP, HX, HB⟩ := hrel
    clear HP0 HX0 HB0
    have hkl : (M.take k).length = k := by rw [List.length_take, HNL.out]; omega
    by_cases hlt : k < n
    · obtain ⟨z, hz⟩ : ∃ z, k * c = z := ⟨_, rfl⟩
      have hz1 : (k : Int) * (c : Int) = (z : Int) := by rw [← hz]; push_cast; rfl
      have hz2 : ((k : Int) + 1) * (c : Int) = (z : Int) + (c : Int) := by rw [Int.add_mul, hz1, Int.one_mul]
      have hzn : z + c ≤ n * c := by
        rw [← hz]
        have : (k + 1) * c ≤ n * c := Nat.mul_le_mul_right _ (by omega)
        rw [Nat.succ_mul] at this
        exact this
      have hss := HSS.out
      have hkM : k < M.length := by rw [HNL.out]; exact hlt
      have HR := Aside0.mk (HROW.out k z hkM hz)
      have hsl : ∀ W, (Instr.slice 9 (.string s) (some (.int .i64 (z : Int))) (some (.int .i64 ((z : Int) + (c : Int)))) none).run Tryd.prog W = .ok (.string (s.extract z (z + c))) W := fun W => by
        have := run_slice_string (P := Tryd.prog) (w := W) 9 s .i64 .i64 (z : Int) ((z : Int) + (c : Int)) Tryd.underlying9 (by omega) (by omega) (by omega)
        rw [this, show ((z : Int) + (c : Int)).toNat = z + c by omega, Int.toNat_natCast]
      obtain ⟨t, ht⟩ : ∃ t, s.extract z (z + c) = t := ⟨_, rfl⟩
      rw [ht] at HR hsl
      have htl : t.size = M[k].length := by rw [← HR.out]; exact Array.length_toList.symm
      obtain ⟨cap, W1, hcv, hcap, hrs, hb2, _⟩ := run_bytes_new wr t
      rw [HR.out] at hrs
      have c0 := (blk_cell HX.out 1)
      have c2 := (blk_cell HX.out 2)
      have hg1 := blk_below HP.out.blk hb2
      have c1 : W1.cell? ⟨w.heap.size + 1, k, none⟩ = some nilV := by
        have := outer_at ps (M.take k) n HP.out.len (by rw [hkl]; exact hlt)
        rw [hkl] at this
        exact (blk_cell hg1 k).trans this
      have f1 := blk_frozen hg1 k
      have HST : Aside0 (PartAt (W1.setCell ⟨w.heap.size + 1, k, none⟩ (rowV (wr.heap.size, cap) M[k])) w.heap.size (w.heap.size + 1) (ps ++ [(wr.heap.size, cap)]) (M.take (k + 1)) n) := ⟨by
        have := HP.out.step (l := M[k]) (cap := cap) (by rw [hkl]; exact hlt) hb2 hrs (by rw [← htl]; exact hcap) HB.out.size (W2 := W1) rfl
        rw [hkl] at this
        rw [List.take_succ_eq_append_getElem hkM]
        exact this⟩
      have HX1 : Aside0 ((W1.setCell ⟨w.heap.size + 1, k, none⟩ (rowV (wr.heap.size, cap) M[k])).heap[w.heap.size]? = some (.cells #[.int .i64 (n : Int), .int .i64 (c : Int), .string s] 90 (0, 0))) := ⟨blk_far (blk_below HX.out hb2) (by show w.heap.size ≠ w.heap.size + 1; omega) _⟩
      have HB1 : Aside0 (Below w.heap.size w (W1.setCell ⟨w.heap.size + 1, k, none⟩ (rowV (wr.heap.size, cap) M[k]))) := ⟨(HB.out.trans (hb2.mono HB.out.size)).setCell (by show w.heap.size ≤ w.heap.size + 1; omega) _⟩
      have hrv : rowV (wr.heap.size, cap) M[k] = .slice (some ⟨wr.heap.size, 0, none⟩) t.size cap := by rw [htl]; rfl
      rw [hrv] at HST HX1 HB1
      clear ht hz hb2 hrs hg1 HR htl hrv hcap HP HX
      go_wp2
      go_roundw
      case rel => exact ⟨k + 1, _, by omega, by go_num, HST, HX1, HB1⟩
      case measure => simp [intOf]; omega
    · have hkn : k = n := by omega
      subst hkn
      have HG : Aside0 (GridAt wr w.heap.size (.slice (some ⟨w.heap.size + 1, 0, none⟩) k k) ps M) := ⟨by
        have := HP.out.grid hkl (by omega) h2
        rw [List.take_of_length_le (by rw [HNL.out]; exact Nat.le_refl _)] at this
        exact this⟩
      clear HP HX
      go_wp2
      go_ret
      exact ⟨_, _, rfl, HG.out, HB.out⟩
end Go.Proofs.YtpmnhlbkgeiomaaDoor.Grd
namespace Go.Proofs.YtpmnhlbkgeiomaaDoor.Grd
open Go.RowKit Go.Proofs.YtpmnhlbkgeiomaaDoorW.PrintWords Go.Proofs.YtpmnhlbkgeiomaaDoorW.PrintLast Go.Proofs.YtpmnhlbkgeiomaaDoorW.PrintMore Go.Proofs.YtpmnhlbkgeiomaaDoor.Gf Go.Proofs.YtpmnhlbkgeiomaaDoor.Rowb Go.Proofs.YtpmnhlbkgeiomaaDoor.Fld
open Go.Lib (byteCells byteCells_length)
set_option linter.unusedVariables false
set_option linter.unusedSimpArgs false
theorem grown_set (w : World) (b i : Nat) (u : Value) : w.grownBy (w.setCell ⟨b, i, none⟩ u) (some b) :=
  ⟨rfl, rfl, rfl, by simp, fun k hk hne => Below.heap_setCell w ⟨b, i, none⟩ u k (fun e => hne (by rw [e]))⟩
theorem grown_drew {w W : World} {row : Option Nat} (h : w.grownBy W row) : w.grownBy W.drew row := h.trans (grown_of_below (below_drew1 (Below.refl _ _)) _)
theorem grown_drewN {w W : World} {row : Option Nat} (h : w.grownBy W row) (n : Nat) : w.grownBy (W.drewN n) row := h.trans (grown_of_below (pw_below_drewN (Below.refl _ _) _) _)
theorem grown_refl (w : World) (row : Option Nat) : w.grownBy w row := grown_of_below (Below.refl _ _) _
theorem below_grown {w W : World} {b B : Nat} (h : w.grownBy W (some b)) (hb : B ≤ b) (hB : B ≤ w.heap.size) : Below B w W :=
  ⟨h.os, h.tape, h.output, h.size, fun k hk => h.block k (by omega) (fun e => by injection e; omega)⟩
/-- Two entries change places. -/
def swapL {α : Type} (l : List α) (a b : Nat) (ha : a < l.length) (hb : b < l.length) : List α := (l.set a l[b]).set b l[a]
theorem swapL_len {α : Type} (l : List α) (a b : Nat) (ha : a < l.length) (hb : b < l.length) : (swapL l a b ha hb).length = l.length := by simp [swapL]
theorem swapL_at {α : Type} (l : List α) (a b : Nat) (ha : a < l.length) (hb : b < l.length) (i : Nat) (x : α) (h : (swapL l a b ha hb)[i]? = some x) :
    l[if i = b then a else if i = a then b else i]? = some x := by
  unfold swapL at h
  rw [List.getElem?_set, List.getElem?_set, List.length_set] at h
  by_cases h1 : b = i
  · subst h1
    rw [if_pos rfl, if_pos hb] at h
    rw [if_pos rfl, ← h, List.getElem?_eq_getElem ha]
  · rw [if_neg h1] at h
    rw [if_neg (fun e => h1 e.symm)]
    by_cases h2 : a = i
    · subst h2
      rw [if_pos rfl, if_pos ha] at h
      rw [if_pos rfl, ← h, List.getElem?_eq_getElem hb]
    · rw [if_neg h2] at h
      rw [if_neg (fun e => h2 e.symm)]
      exact h
theorem swapR_eq (L : Grid) (a b : Nat) (ha : a < L.length) (hb : b < L.length) : swapR L a b = swapL L a b ha hb := by
  unfold swapR swapL
  rw [rowAt_lt ha, rowAt_lt hb]
theorem nodup_inj {l : List Nat} (h : l.Nodup) (p q : Nat) (hp : p < l.length) (hq : q < l.length) (e : l[p]? = l[q]?) : p = q := by
  have h' := List.pairwise_iff_getElem.1 h
  rw [List.getElem?_eq_getElem hp, List.getElem?_eq_getElem hq] at e
  injection e with e
  rcases Nat.lt_trichotomy p q with hlt | he | hgt
  · exact absurd e (h' p q hp hq hlt)
  · exact he
  · exact absurd e.symm (h' q p hq hp hgt)
theorem swap_idx (a b i j : Nat) (h : (if i = b then a else if i = a then b else i) = (if j = b then a else if j = a then b else j)) : i = j := by
  by_cases h1 : i = b
  · rw [if_pos h1] at h
    by_cases h2 : j = b
    · omega
    · rw [if_neg h2] at h
      by_cases h3 : j = a
      · rw [if_pos h3] at h; omega
      · rw [if_neg h3] at h; omega
  · rw [if_neg h1] at h
    by_cases h4 : i = a
    · rw [if_pos h4] at h
      by_cases h2 : j = b
      · rw [if_pos h2] at h; omega
      · rw [if_neg h2] at h
        by_cases h3 : j = a
        · omega
        · rw [if_neg h3] at h; omega
    · rw [if_neg h4] at h
      by_cases h2 : j = b
      · rw [if_pos h2] at h; omega
      · rw [if_neg h2] at h
        by_cases h3 : j = a
        · rw [if_pos h3] at h; omega
        · rw [if_neg h3] at h; exact h
theorem swap_lt (a b i n : Nat) (ha : a < n) (hb : b < n) (hi : i < n) : (if i = b then a else if i = a then b else i) < n := by
  by_cases h1 : i = b
  · rw [if_pos h1]; exact ha
  · rw [if_neg h1]
    by_cases h2 : i = a
    · rw [if_pos h2]; exact hb
    · rw [if_neg h2]; exact hi
theorem swap_nodup {l : List Nat} (h : l.Nodup) (a b : Nat) (ha : a < l.length) (hb : b < l.length) : (swapL l a b ha hb).Nodup := by
  refine List.pairwise_iff_getElem.2 (fun i j hi hj hij e => ?_)
  have hi' : i < l.length := by rw [swapL_len] at hi; exact hi
  have hj' : j < l.length := by rw [swapL_len] at hj; exact hj
  have h1 := swapL_at l a b ha hb i _ (List.getElem?_eq_getElem hi)
  have h2 := swapL_at l a b ha hb j _ (List.getElem?_eq_getElem hj)
  rw [← e] at h2
  have := swap_idx a b i j (nodup_inj h _ _ (swap_lt a b i _ ha hb hi') (swap_lt a b j _ ha hb hj') (h1.trans h2.symm))
  omega
theorem map_swap {α β : Type} (f : α → β) (l : List α) (a b : Nat) (ha : a < l.length) (hb : b < l.length) : (swapL l a b ha hb).map f = swapL (l.map f) a b (by rw [List.length_map]; exact ha) (by rw [List.length_map]; exact hb) := by
  unfold swapL
  rw [List.map_set, List.map_set, List.getElem_map, List.getElem_map]
theorem GridAt.outerSet {w : World} {base g n cap : Nat} {ps : List (Nat × Nat)} {L : Grid} (h : GridAt w base (.slice (some ⟨g, 0, none⟩) n cap) ps L) (hp : 0 < L.length) : n = L.length ∧ base ≤ g ∧ ∃ cur : Array Value, w.heap[g]? = some (.cells cur 35 (0, 0)) ∧ L.length ≤ cap ∧ cap ≤ maxLen ∧ cur.size = cap ∧ cur.toList.take L.length = List.zipWith rowV ps L := by
  rcases h.outer.2 with ⟨_, h0⟩ | ⟨g', cap', cur, hv, hb, hh, hn, hc, hs, ht⟩
  · omega
  · injection hv with hv1 hv2 hv3
    injection hv1 with hv1
    injection hv1 with hv1 _ _
    subst hv1 hv3
    exact ⟨hv2, hb, cur, hh, hn, hc, by omega, by rwa [Nat.mul_one] at ht⟩
/-- The grid behind two stores into its outer row. -/
theorem GridAt.swap {w : World} {base g n cap : Nat} {ps : List (Nat × Nat)} {L : Grid} (h : GridAt w base (.slice (some ⟨g, 0, none⟩) n cap) ps L) (a b : Nat) (ha : a < L.length) (hb : b < L.length) (ha' : a < ps.length) (hb' : b < ps.length) {W : World} (hW : W.heap = w.heap) :
    GridAt ((W.setCell ⟨g, a, none⟩ (rowV ps[b] L[b])).setCell ⟨g, b, none⟩ (rowV ps[a] L[a])) base (.slice (some ⟨g, 0, none⟩) n cap) (swapL ps a b ha' hb') (swapR L a b) := by
  obtain ⟨hn, hbg, cur, hh, hle, hcm, hcs, ht⟩ := h.outerSet (by omega)
  rw [swapR_eq L a b ha hb]
  have hz : (List.zipWith rowV ps L).length = L.length := by rw [List.length_zipWith, h.len, Nat.min_self]
  have hh1 : W.heap[g]? = some (.cells cur 35 (0, 0)) := by rw [hW]; exact hh
  have hb1 := blk_put (cs' := cur.setIfInBounds a (rowV ps[b] L[b])) hh1 a (rowV ps[b] L[b]) rfl
  have hb2 := blk_put (cs' := (cur.setIfInBounds a (rowV ps[b] L[b])).setIfInBounds b (rowV ps[a] L[a])) hb1 b (rowV ps[a] L[a]) rfl
  refine ⟨⟨by rw [swapL_len, Nat.mul_one, List.length_zipWith, swapL_len, swapL_len, h.len, Nat.min_self], .inr ⟨g, cap, _, by rw [hn, swapL_len], hbg, hb2, by rw [swapL_len]; exact hle, hcm, by simp [hcs], ?_⟩⟩, by rw [swapL_len, swapL_len, h.len], fun i p l h1 h2 => ?_, ?_⟩
  · rw [swapL_len, Nat.mul_one, Array.toList_setIfInBounds, Array.toList_setIfInBounds, List.take_set, List.take_set, ht]
    apply List.ext_getElem?
    intro i
    rw [List.getElem?_set, List.getElem?_set, List.length_set, hz, List.getElem?_zipWith, List.getElem?_zipWith]
    unfold swapL
    rw [List.getElem?_set, List.getElem?_set, List.length_set, List.getElem?_set, List.getElem?_set, List.length_set]
    by_cases e1 : b = i
    · rw [if_pos e1, if_pos (by omega), if_pos e1, if_pos (by omega), if_pos e1, if_pos (by omega)]
    · rw [if_neg e1, if_neg e1, if_neg e1]
      by_cases e2 : a = i
      · rw [if_pos e2, if_pos (by omega), if_pos e2, if_pos (by omega), if_pos e2, if_pos (by omega)]
      · rw [if_neg e2, if_neg e2, if_neg e2]
  · have g1 := swapL_at _ _ _ _ _ _ _ h1
    have g2 := swapL_at _ _ _ _ _ _ _ h2
    obtain ⟨r1, r2, r3⟩ := h.row _ p l g1 g2
    have r4 : RowS W p.1 l := r3.heap hW
    have r5 := r4.far (p := ⟨g, a, none⟩) (row_ne r4 hh1) (rowV ps[b] L[b])
    exact ⟨r1, r2, r5.far (p := ⟨g, b, none⟩) (row_ne r5 hb1) _⟩
  · rw [map_swap]
    exact swap_nodup h.nodup _ _ _ _
theorem GridAt.rowCell {w : World} {base g n cap : Nat} {ps : List (Nat × Nat)} {L : Grid} (h : GridAt w base (.slice (some ⟨g, 0, none⟩) n cap) ps L) (i : Nat) (hi : i < L.length) (hi' : i < ps.length) :
    w.cell? ⟨g, i, none⟩ = some (rowV ps[i] L[i]) ∧ w.frozen? ⟨g, i, none⟩ = false := by
  obtain ⟨hn, hbg, cur, hh, hle, hcm, hcs, ht⟩ := h.outerSet (by omega)
  refine ⟨?_, blk_frozen hh i⟩
  rw [blk_cell hh i, ← Array.getElem?_toList]
  have : (cur.toList.take L.length)[i]? = (List.zipWith rowV ps L)[i]? := by rw [ht]
  rw [List.getElem?_take, if_pos hi, zip_row h.len i hi] at this
  exact this
theorem GridAt.heap {w w' : World} {base : Nat} {v : Value} {ps : List (Nat × Nat)} {L : Grid} (h : GridAt w base v ps L) (e : w'.heap = w.heap) : GridAt w' base v ps L :=
  ⟨⟨h.outer.1, by rw [e]; exact h.outer.2⟩, h.len, fun i p l h1 h2 => ⟨(h.row i p l h1 h2).1, (h.row i p l h1 h2).2.1, (h.row i p l h1 h2).2.2.heap e⟩, h.nodup⟩
set_option maxRecDepth 100000 in
set_option maxHeartbeats 1000000 in
theorem swap_walk {w : World} {base : Nat} {v : Value} {ps : List (Nat × Nat)} {L : Grid} (h : GridAt w base v ps L) (a b : Nat) (ha : a < L.length) (hb : b < L.length) :
    Calls Tryd.prog 73 #[v, .int .i64 (a : Int), .int .i64 (b : Int)] w fun e w' => e = .returned (.tuple #[]) ∧ GridAt w' base v (swapL ps a b (by rw [h.len]; exact ha) (by rw [h.len]; exact hb)) (swapR L a b) ∧ w.grownBy w' v.ownBlock := by
  obtain ⟨g, cap, cur, rfl, hbg, hh, hle, hcell⟩ := h.form (by omega)
  have ha' : a < ps.length := by rw [h.len]; exact ha
  have hb' : b < ps.length := by rw [h.len]; exact hb
  obtain ⟨ca, fa⟩ := h.rowCell a ha ha'
  obtain ⟨cb, fb⟩ := h.rowCell b hb hb'
  have HG : Aside0 (∀ W : World, W.heap = w.heap → GridAt ((W.setCell ⟨g, a, none⟩ (rowV ps[b] L[b])).setCell ⟨g, b, none⟩ (rowV ps[a] L[a])) base (.slice (some ⟨g, 0, none⟩) L.length cap) (swapL ps a b ha' hb') (swapR L a b)) := ⟨fun W hW => h.swap a b ha hb ha' hb' hW⟩
  have hlt := blk_lt hh
  obtain ⟨xa, ya, za, hva⟩ : ∃ (x : Addr) (y z : Nat), rowV ps[a] L[a] = .slice (some x) y z := ⟨_, _, _, rfl⟩
  obtain ⟨xb, yb, zb, hvb⟩ : ∃ (x : Addr) (y z : Nat), rowV ps[b] L[b] = .slice (some x) y z := ⟨_, _, _, rfl⟩
  rw [hva, hvb] at HG
  rw [hva] at ca
  rw [hvb] at cb
  have c3 : (w.setCell ⟨g, a, none⟩ (.slice (some xb) yb zb)).cell? ⟨g, b, none⟩ = some (.slice (some xb) yb zb) := by
    rw [blk_cell (blk_put (cs' := cur.setIfInBounds a (.slice (some xb) yb zb)) hh a _ rfl) b, Array.getElem?_setIfInBounds]
    have hs : a < cur.size := by
      have := ca
      rw [blk_cell hh a] at this
      exact (Array.getElem?_eq_some_iff.1 this).1
    by_cases e : a = b
    · rw [if_pos e, if_pos hs]
    · rw [if_neg e, ← blk_cell hh b, cb]
  clear hva hvb hcell hle hh
  have HH := Aside0.mk h
  go_enter Tryd.func73, Tryd.ntmps73
  go_region_law (fail)
  all_goals
    refine bodyPost_end (results_none rfl _ _ _) rfl ?_
    exact ⟨rfl, (HG.out w rfl).heap rfl, grown_drew ((grown_set _ g _ _).trans (grown_set _ g _ _))⟩
end Go.Proofs.YtpmnhlbkgeiomaaDoor.Grd
namespace Go.Proofs.YtpmnhlbkgeiomaaDoor.Grd
open Go.RowKit Go.Proofs.YtpmnhlbkgeiomaaDoorW.PrintWords Go.Proofs.YtpmnhlbkgeiomaaDoorW.PrintLast Go.Proofs.YtpmnhlbkgeiomaaDoorW.PrintMore Go.Proofs.YtpmnhlbkgeiomaaDoor.Gf Go.Proofs.YtpmnhlbkgeiomaaDoor.Rowb Go.Proofs.YtpmnhlbkgeiomaaDoor.Fld
open Go.Lib (byteCells byteCells_length)
set_option linter.unusedVariables false
set_option linter.unusedSimpArgs false
theorem field_ne {w : World} {p f : Nat} {l : List UInt8} (h : RowS w p l) (hf : FieldAt w f) : f ≠ p := by
  obtain ⟨sp, fr, h, _⟩ := h
  unfold FieldAt at hf
  intro e
  subst e
  rw [h] at hf
  injection hf with hf
  injection hf with _ hf _
  exact absurd hf (by decide)
theorem zip_same (ps : List (Nat × Nat)) (L : Grid) (a : Nat) (ha : a < L.length) (l : List UInt8) (hl : l.length = L[a].length) : List.zipWith rowV ps (L.set a l) = List.zipWith rowV ps L := by
  apply List.ext_getElem?
  intro i
  rw [List.getElem?_zipWith, List.getElem?_zipWith, List.getElem?_set]
  by_cases e : a = i
  · subst e
    rw [if_pos rfl, if_pos ha, List.getElem?_eq_getElem ha]
    cases ps[a]? with
    | none => rfl
    | some p => simp [rowV, hl]
  · rw [if_neg e]
theorem GridAt.rowPut {w : World} {base g n cap : Nat} {ps : List (Nat × Nat)} {L : Grid} (h : GridAt w base (.slice (some ⟨g, 0, none⟩) n cap) ps L) (a : Nat) (ha : a < L.length) (ha' : a < ps.length) (k : Nat) (hk : k < L[a].length) (b : UInt8) {W : World} (hW : W.heap = w.heap) :
    GridAt (W.setCell ⟨ps[a].1, k, none⟩ (.int .u8 (b.toNat : Int))) base (.slice (some ⟨g, 0, none⟩) n cap) ps (L.set a (L[a].set k b)) := by
  obtain ⟨hn, hbg, cur, hh, hle, hcm, hcs, ht⟩ := h.outerSet (by omega)
  have hra := h.row a _ _ (List.getElem?_eq_getElem ha') (List.getElem?_eq_getElem ha)
  have hh1 : W.heap[g]? = some (.cells cur 35 (0, 0)) := by rw [hW]; exact hh
  have hr1 : RowS W ps[a].1 L[a] := hra.2.2.heap hW
  have hne := row_ne hr1 hh1
  have hl : (L[a].set k b).length = L[a].length := List.length_set
  refine ⟨⟨by rw [zip_same ps L a ha _ hl, List.length_set]; exact h.outer.1, .inr ⟨g, cap, cur, by rw [hn, List.length_set], hbg, blk_far hh1 (by show g ≠ ps[a].1; exact fun e => hne e.symm) _, by rw [List.length_set]; exact hle, hcm, by omega, by rw [zip_same ps L a ha _ hl, List.length_set, Nat.mul_one]; exact ht⟩⟩, by rw [List.length_set]; exact h.len, fun i p l h1 h2 => ?_, h.nodup⟩
  rw [List.getElem?_set] at h2
  by_cases e : a = i
  · subst e
    rw [if_pos rfl, if_pos ha] at h2
    injection h2 with h2
    subst h2
    rw [List.getElem?_eq_getElem ha'] at h1
    injection h1 with h1
    subst h1
    exact ⟨hra.1, by rw [hl]; exact hra.2.1, hr1.put k hk b⟩
  · rw [if_neg e] at h2
    obtain ⟨r1, r2, r3⟩ := h.row i p l h1 h2
    refine ⟨r1, r2, (r3.heap hW).far (p := ⟨ps[a].1, k, none⟩) (fun ep => ?_) _⟩
    have hi : i < ps.length := (List.getElem?_eq_some_iff.1 h1).1
    refine e (nodup_inj h.nodup a i (by rw [List.length_map]; exact ha') (by rw [List.length_map]; exact hi) ?_)
    rw [List.getElem?_map, List.getElem?_map, h1, List.getElem?_eq_getElem ha']
    show some ps[a].1 = some p.1
    rw [ep]
theorem FieldAt.rowPut {w : World} {f p k : Nat} {l : List UInt8} {u : Value} (hf : FieldAt w f) (h : RowS w p l) {W : World} (hW : W.heap = w.heap) : FieldAt (W.setCell ⟨p, k, none⟩ u) f := by
  have h1 : FieldAt W f := by unfold FieldAt; rw [hW]; exact hf
  exact blk_far h1 (field_ne (h.heap hW) h1) _
def scaleP (x : UInt8) (l : List UInt8) (k : Nat) : List UInt8 := (l.take k).map (gmul x) ++ l.drop k
theorem scaleP_len (x : UInt8) (l : List UInt8) (k : Nat) : (scaleP x l k).length = l.length := by simp [scaleP]; omega
theorem scaleP_zero (x : UInt8) (l : List UInt8) : scaleP x l 0 = l := by simp [scaleP]
theorem scaleP_full (x : UInt8) (l : List UInt8) : scaleP x l l.length = scaleR x l := by simp [scaleP, scaleR]
theorem scaleP_at (x : UInt8) (l : List UInt8) (k : Nat) (hk : k < l.length) : (scaleP x l k)[k]'(by rw [scaleP_len]; exact hk) = l[k] := by
  unfold scaleP
  rw [List.getElem_append_right (by simp; omega)]
  simp
  congr 1
  omega
theorem scaleP_set (x : UInt8) (l : List UInt8) (k : Nat) (hk : k < l.length) : (scaleP x l k).set k (gmul x l[k]) = scaleP x l (k + 1) := by
  unfold scaleP
  have hl : ((l.take k).map (gmul x)).length = k := by simp; omega
  rw [List.set_append_right _ _ (by omega), hl, Nat.sub_self, List.drop_eq_getElem_cons hk, List.set_cons_zero, List.take_succ_eq_append_getElem hk, List.map_append]
  simp
theorem set_again {α : Type} (l : List α) (i : Nat) (a b : α) : (l.set i a).set i b = l.set i b := by simp
set_option maxRecDepth 100000 in
set_option maxHeartbeats 2000000 in
theorem scale_walk {w : World} {base f : Nat} {v : Value} {ps : List (Nat × Nat)} {L : Grid} (h : GridAt w base v ps L) (hf : FieldAt w f) (a : Nat) (ha : a < L.length) (hl : L[a].length ≤ 255) (x : UInt8) :
    Calls Tryd.prog 74 #[v, .pointer (some ⟨f, 0, none⟩), .int .i64 (a : Int), .int .u8 (x.toNat : Int)] w fun e w' => e = .returned (.tuple #[]) ∧ GridAt w' base v ps (L.set a (scaleR x L[a])) ∧ FieldAt w' f ∧ w.grownBy w' (some (ps[a]'(by rw [h.len]; exact ha)).1) := by
  obtain ⟨g, cap, cur, rfl, hbg, hh, hle, hcell⟩ := h.form (by omega)
  have ha' : a < ps.length := by rw [h.len]; exact ha
  obtain ⟨r, hr⟩ : ∃ r, r = L[a] := ⟨_, rfl⟩
  obtain ⟨p, hp⟩ : ∃ p, p = ps[a] := ⟨_, rfl⟩
  have HBP : base ≤ p.1 := by
    have := (h.row a _ _ (List.getElem?_eq_getElem ha') (List.getElem?_eq_getElem ha)).1
    rw [hp]; exact this
  have HG0 : Aside0 (GridAt w base (.slice (some ⟨g, 0, none⟩) L.length cap) ps (L.set a (scaleP x r 0))) := ⟨by rw [scaleP_zero, hr, List.set_getElem_self]; exact h⟩
  have HF0 := Aside0.mk hf
  have HB0 : Aside0 (w.grownBy w (some p.1)) := ⟨grown_refl _ _⟩
  have c0 := (h.rowCell a ha ha').1
  have e0 : rowV ps[a] L[a] = .slice (some ⟨p.1, 0, none⟩) r.length p.2 := by rw [hp, hr]; rfl
  rw [e0] at c0
  rw [← hr] at hl ⊢
  have hpa0 : (ps[a]'(by rw [h.len]; exact ha)).1 = p.1 := by rw [hp]
  rw [hpa0]
  have HP : Aside0 (ps[a]? = some p) := ⟨by rw [hp]; exact List.getElem?_eq_getElem ha'⟩
  have HA := Aside0.mk ha
  obtain ⟨n, hn⟩ : ∃ n, n = L.length := ⟨_, rfl⟩
  rw [← hn] at HG0 ha ⊢
  clear hh hle hcell hr hp ha' e0 hf hpa0
  have HN := Aside0.mk hn
  clear hn
  obtain ⟨pp, pc⟩ := p
  go_enter Tryd.func74, Tryd.ntmps74
  go_wp2
  go_loopw [15] (fun i W => ∃ k : Nat, k ≤ r.length ∧ i = .int .i64 (k : Int) ∧ Aside0 (GridAt W base (.slice (some ⟨g, 0, none⟩) n cap) ps (L.set a (scaleP x r k))) ∧ Aside0 (FieldAt W f) ∧ Aside0 (w.grownBy W (some pp))) (fun i _ => r.length - (intOf i).toNat)
  case atStart => exact ⟨0, by omega, rfl, HG0, HF0, HB0⟩
  case round =>
    obtain ⟨k, hk, rfl, HG, HF, HB⟩ := hrel
    clear HG0 HF0 HB0
    by_cases hlt : k < r.length
    · have hla : a < (L.set a (scaleP x r k)).length := by rw [List.length_set]; exact HA.out
      have hpa : a < ps.length := (List.getElem?_eq_some_iff.1 HP.out).1
      have hpe : ps[a] = (pp, pc) := (List.getElem?_eq_some_iff.1 HP.out).2
      have hLe : (L.set a (scaleP x r k))[a] = scaleP x r k := by simp
      have c1 := (HG.out.rowCell a hla hpa).1
      rw [hpe, hLe] at c1
      unfold rowV at c1
      rw [scaleP_len] at c1
      have hrow := (HG.out.row a (pp, pc) (scaleP x r k) HP.out (by rw [List.getElem?_eq_getElem hla, hLe])).2.2
      have d0 := hrow.cell k (by rw [scaleP_len]; exact hlt)
      rw [scaleP_at x r k hlt] at d0
      have f0 := hrow.frozen k (by rw [scaleP_len]; exact hlt)
      have HST : Aside0 (∀ W : World, W.heap = wr.heap → GridAt (W.setCell ⟨pp, k, none⟩ (.int .u8 ((gmul x r[k]).toNat : Int))) base (.slice (some ⟨g, 0, none⟩) n cap) ps (L.set a (scaleP x r (k + 1))) ∧ FieldAt (W.setCell ⟨pp, k, none⟩ (.int .u8 ((gmul x r[k]).toNat : Int))) f) := ⟨fun W hW => by
        have h1 := HG.out.rowPut a hla hpa k (by rw [hLe, scaleP_len]; exact hlt) (gmul x r[k]) hW
        rw [hLe, scaleP_set x r k hlt, set_again, hpe] at h1
        exact ⟨h1, Grd.FieldAt.rowPut HF.out hrow hW⟩⟩
      have HMU : Aside0 (∀ W : World, W.heap = wr.heap → Calls Tryd.prog 46 #[.pointer (some ⟨f, 0, none⟩), .int .u8 (x.toNat : Int), .int .u8 (r[k].toNat : Int)] W fun e w' => e = .returned (.int .u8 ((gmul x r[k]).toNat : Int)) ∧ Drawn0 W w') := ⟨fun W hW => mul_walk (by have := HF.out; unfold FieldAt at this ⊢; rw [hW]; exact this) x r[k]⟩
      have hxb := b_lt x
      have hrb := b_lt r[k]
      have hgb := b_lt (gmul x r[k])
      clear hla hpa hpe hLe hrow
      generalize (gmul x r[k]).toNat = res at *
      generalize r[k].toNat = old at *
      generalize x.toNat = xx at *
      go_wp2_with fail
      go_region_law (first | (go_simp; go_at_call 46; refine (HMU.out _ (by rfl)).mono ?_; rintro e w6 ⟨rfl, ⟨nd, rfl⟩⟩))
      all_goals go_wp2
      all_goals go_roundw
      all_goals first
        | (case rel => exact ⟨k + 1, by omega, by go_num, ⟨(HST.out _ (by rfl)).1⟩, ⟨(HST.out _ (by rfl)).2⟩, ⟨World.grownBy.trans (by repeat (first | exact HB.out | apply grown_drewN | apply grown_drew)) (grown_set _ pp _ _)⟩⟩)
        | skip
      all_goals (case measure => simp [intOf]; omega)
    · have hkr : k = r.length := by omega
      subst hkr
      rw [scaleP_full] at HG
      go_wp2
      refine bodyPost_end (results_none rfl _ _ _) rfl ?_
      exact ⟨rfl, HG.out, HF.out, HB.out⟩
def addP (x : UInt8) (f t : List UInt8) (k : Nat) : List UInt8 := addR x (f.take k) (t.take k) ++ t.drop k
theorem addP_len (x : UInt8) (f t : List UInt8) (k : Nat) (hl : f.length = t.length) : (addP x f t k).length = t.length := by simp [addP, addR]; omega
theorem addP_zero (x : UInt8) (f t : List UInt8) : addP x f t 0 = t := by simp [addP, addR]
theorem addP_full (x : UInt8) (f t : List UInt8) (hl : f.length = t.length) : addP x f t t.length = addR x f t := by
  unfold addP
  rw [List.take_of_length_le (by omega), List.take_of_length_le (Nat.le_refl _), List.drop_of_length_le (Nat.le_refl _), List.append_nil]
theorem addP_at (x : UInt8) (f t : List UInt8) (k : Nat) (hl : f.length = t.length) (hk : k < t.length) : (addP x f t k)[k]'(by rw [addP_len x f t k hl]; exact hk) = t[k] := by
  unfold addP addR
  rw [List.getElem_append_right (by simp; omega)]
  simp
  congr 1
  omega
theorem addP_set (x : UInt8) (f t : List UInt8) (k : Nat) (hl : f.length = t.length) (hk : k < t.length) : (addP x f t k).set k (t[k] ^^^ gmul x (f[k]'(by omega))) = addP x f t (k + 1) := by
  unfold addP addR
  have hz : (List.zipWith (fun t y => t ^^^ gmul x y) (t.take k) (f.take k)).length = k := by simp; omega
  rw [List.set_append_right _ _ (by omega), hz, Nat.sub_self, List.drop_eq_getElem_cons hk, List.set_cons_zero, List.take_succ_eq_append_getElem hk, List.take_succ_eq_append_getElem (show k < f.length by omega), List.zipWith_append (by simp; omega)]
  simp
set_option maxRecDepth 100000 in
set_option maxHeartbeats 2000000 in
theorem add_walk {w : World} {base f : Nat} {v : Value} {ps : List (Nat × Nat)} {L : Grid} (h : GridAt w base v ps L) (hf : FieldAt w f) (a c : Nat) (ha : a < L.length) (hc : c < L.length) (hac : a ≠ c) (hl : L[c].length = L[a].length) (hl2 : L[a].length ≤ 255) (x : UInt8) :
    Calls Tryd.prog 75 #[v, .pointer (some ⟨f, 0, none⟩), .int .i64 (a : Int), .int .u8 (x.toNat : Int), .int .i64 (c : Int)] w fun e w' => e = .returned (.tuple #[]) ∧ GridAt w' base v ps (L.set a (addR x L[c] L[a])) ∧ FieldAt w' f ∧ w.grownBy w' (some (ps[a]'(by rw [h.len]; exact ha)).1) := by
  obtain ⟨g, cap, cur, rfl, hbg, hh, hle, hcell⟩ := h.form (by omega)
  have ha' : a < ps.length := by rw [h.len]; exact ha
  have hc' : c < ps.length := by rw [h.len]; exact hc
  obtain ⟨r, hr⟩ : ∃ r, r = L[a] := ⟨_, rfl⟩
  obtain ⟨y, hy⟩ : ∃ y, y = L[c] := ⟨_, rfl⟩
  obtain ⟨p, hp⟩ : ∃ p, p = ps[a] := ⟨_, rfl⟩
  obtain ⟨q, hq⟩ : ∃ q, q = ps[c] := ⟨_, rfl⟩
  have HBP : base ≤ p.1 := by
    have := (h.row a _ _ (List.getElem?_eq_getElem ha') (List.getElem?_eq_getElem ha)).1
    rw [hp]; exact this
  have HG0 : Aside0 (GridAt w base (.slice (some ⟨g, 0, none⟩) L.length cap) ps (L.set a (addP x y r 0))) := ⟨by rw [addP_zero, hr, List.set_getElem_self]; exact h⟩
  have HF0 := Aside0.mk hf
  have HB0 : Aside0 (w.grownBy w (some p.1)) := ⟨grown_refl _ _⟩
  have c0 := (h.rowCell c hc hc').1
  have e0 : rowV ps[c] L[c] = .slice (some ⟨q.1, 0, none⟩) r.length q.2 := by rw [hq, hr, ← hl]; rfl
  rw [e0] at c0
  rw [← hr, ← hy] at hl ⊢
  have hpa0 : (ps[a]'(by rw [h.len]; exact ha)).1 = p.1 := by rw [hp]
  rw [hpa0]
  rw [← hr] at hl2
  have HY : Aside0 (L[c]? = some y) := ⟨by rw [hy]; exact List.getElem?_eq_getElem hc⟩
  have HP : Aside0 (ps[a]? = some p) := ⟨by rw [hp]; exact List.getElem?_eq_getElem ha'⟩
  have HQ : Aside0 (ps[c]? = some q) := ⟨by rw [hq]; exact List.getElem?_eq_getElem hc'⟩
  have HA := Aside0.mk ha
  have HAC := Aside0.mk hac
  have HL := Aside0.mk hl
  obtain ⟨n, hn⟩ : ∃ n, n = L.length := ⟨_, rfl⟩
  rw [← hn] at HG0 ha hc ⊢
  clear hh hle hcell hr hp ha' hc' e0 hf hy hq hl hac hpa0
  have HN := Aside0.mk hn
  clear hn
  obtain ⟨pp, pc⟩ := p
  obtain ⟨qp, qc⟩ := q
  go_enter Tryd.func75, Tryd.ntmps75
  go_wp2
  go_loopw [17] (fun i W => ∃ k : Nat, k ≤ r.length ∧ i = .int .i64 (k : Int) ∧ Aside0 (GridAt W base (.slice (some ⟨g, 0, none⟩) n cap) ps (L.set a (addP x y r k))) ∧ Aside0 (FieldAt W f) ∧ Aside0 (w.grownBy W (some pp))) (fun i _ => r.length - (intOf i).toNat)
  case atStart => exact ⟨0, by omega, rfl, HG0, HF0, HB0⟩
  case round =>
    obtain ⟨k, hk, rfl, HG, HF, HB⟩ := hrel
    clear HG0 HF0 HB0
    by_cases hlt : k < r.length
    · have hly : k < y.length := by rw [HL.out]; exact hlt
      have hla : a < (L.set a (addP x y r k)).length := by rw [List.length_set]; exact HA.out
      have hpa : a < ps.length := (List.getElem?_eq_some_iff.1 HP.out).1
      have hpe : ps[a] = (pp, pc) := (List.getElem?_eq_some_iff.1 HP.out).2
      have hLe : (L.set a (addP x y r k))[a] = addP x y r k := by simp
      have c1 := (HG.out.rowCell a hla hpa).1
      rw [hpe, hLe] at c1
      unfold rowV at c1
      rw [addP_len x y r k HL.out] at c1
      have hrow := (HG.out.row a (pp, pc) (addP x y r k) HP.out (by rw [List.getElem?_eq_getElem hla, hLe])).2.2
      have d0 := hrow.cell k (by rw [addP_len x y r k HL.out]; exact hlt)
      rw [addP_at x y r k HL.out hlt] at d0
      have f0 := hrow.frozen k (by rw [addP_len x y r k HL.out]; exact hlt)
      have hrowc := (HG.out.row c (qp, qc) y HQ.out (by rw [List.getElem?_set, if_neg HAC.out]; exact HY.out)).2.2
      have d1 := hrowc.cell k hly
      have HST : Aside0 (∀ W : World, W.heap = wr.heap → GridAt (W.setCell ⟨pp, k, none⟩ (.int .u8 ((r[k] ^^^ gmul x y[k]).toNat : Int))) base (.slice (some ⟨g, 0, none⟩) n cap) ps (L.set a (addP x y r (k + 1))) ∧ FieldAt (W.setCell ⟨pp, k, none⟩ (.int .u8 ((r[k] ^^^ gmul x y[k]).toNat : Int))) f) := ⟨fun W hW => by
        have h1 := HG.out.rowPut a hla hpa k (by rw [hLe, addP_len x y r k HL.out]; exact hlt) (r[k] ^^^ gmul x y[k]) hW
        rw [hLe, addP_set x y r k HL.out hlt, set_again, hpe] at h1
        exact ⟨h1, Grd.FieldAt.rowPut HF.out hrow hW⟩⟩
      have HMU : Aside0 (∀ W : World, W.heap = wr.heap → Calls Tryd.prog 46 #[.pointer (some ⟨f, 0, none⟩), .int .u8 (x.toNat : Int), .int .u8 (y[k].toNat : Int)] W fun e w' => e = .returned (.int .u8 ((gmul x y[k]).toNat : Int)) ∧ Drawn0 W w') := ⟨fun W hW => mul_walk (by have := HF.out; unfold FieldAt at this ⊢; rw [hW]; exact this) x y[k]⟩
      have hxr := xor_u8 r[k].toNat (gmul x y[k]).toNat (b_lt _) (b_lt _)
      rw [← UInt8.toNat_xor] at hxr
      have hxb := b_lt x
      have hrb := b_lt r[k]
      have hyb := b_lt y[k]
      have hgb := b_lt (gmul x y[k])
      clear hla hpa hpe hLe hrow hrowc
      generalize (r[k] ^^^ gmul x y[k]).toNat = res at *
      generalize (gmul x y[k]).toNat = prod at *
      generalize r[k].toNat = old at *
      generalize y[k].toNat = yy at *
      generalize x.toNat = xx at *
      go_wp2_with fail
      go_region_law (first | (go_simp; go_at_call 46; refine (HMU.out _ (by rfl)).mono ?_; rintro e w6 ⟨rfl, ⟨nd, rfl⟩⟩))
      all_goals go_wp2
      all_goals go_roundw
      all_goals first
        | (case rel => exact ⟨k + 1, by omega, by go_num, ⟨(HST.out _ (by rfl)).1⟩, ⟨(HST.out _ (by rfl)).2⟩, ⟨World.grownBy.trans (by repeat (first | exact HB.out | apply grown_drewN | apply grown_drew)) (grown_set _ pp _ _)⟩⟩)
        | skip
      all_goals (case measure => simp [intOf]; omega)
    · have hkr : k = r.length := by omega
      subst hkr
      rw [addP_full x y r HL.out] at HG
      go_wp2
      refine bodyPost_end (results_none rfl _ _ _) rfl ?_
      exact ⟨rfl, HG.out, HF.out, HB.out⟩
end Go.Proofs.YtpmnhlbkgeiomaaDoor.Grd
namespace Go.Proofs.YtpmnhlbkgeiomaaDoor.Grd
open Go.RowKit Go.Proofs.YtpmnhlbkgeiomaaDoorW.PrintWords Go.Proofs.YtpmnhlbkgeiomaaDoorW.PrintLast Go.Proofs.YtpmnhlbkgeiomaaDoorW.PrintMore Go.Proofs.YtpmnhlbkgeiomaaDoor.Gf Go.Proofs.YtpmnhlbkgeiomaaDoor.Rowb Go.Proofs.YtpmnhlbkgeiomaaDoor.Fld
set_option linter.unusedVariables false
set_option linter.unusedSimpArgs false
theorem GridAt.grown {w w' : World} {base b : Nat} {v : Value} {ps : List (Nat × Nat)} {L : Grid} (h : GridAt w base v ps L) (hg : w.grownBy w' (some b)) (hv : v.ownBlock ≠ some b) (hp : ∀ p, p ∈ ps → p.1 ≠ b) : GridAt w' base v ps L :=
  ⟨own_other h.outer hg (.inr hv), h.len, fun i p l h1 h2 => ⟨(h.row i p l h1 h2).1, (h.row i p l h1 h2).2.1, (h.row i p l h1 h2).2.2.grown hg (fun e => hp p (List.mem_of_getElem? h1) (by injection e))⟩, h.nodup⟩
theorem GridAt.rowOf {w : World} {base : Nat} {v : Value} {ps : List (Nat × Nat)} {L : Grid} (h : GridAt w base v ps L) {p : Nat × Nat} (hp : p ∈ ps) : ∃ l, RowS w p.1 l ∧ base ≤ p.1 := by
  obtain ⟨i, hi, rfl⟩ := List.getElem_of_mem hp
  have := h.row i _ _ (List.getElem?_eq_getElem hi) (List.getElem?_eq_getElem (by rw [← h.len]; exact hi))
  exact ⟨_, this.2.2, this.1⟩
structure TwoAt (w : World) (base : Nat) (v : Value) (ps : List (Nat × Nat)) (L : Grid) (u : Value) (qs : List (Nat × Nat)) (R : Grid) (f : Nat) : Prop where
  gl : GridAt w base v ps L
  gr : GridAt w base u qs R
  sep : ∀ p, p ∈ ps → ∀ q, q ∈ qs → p.1 ≠ q.1
  own : v.ownBlock ≠ u.ownBlock
  field : FieldAt w f
theorem TwoAt.symm {w : World} {base f : Nat} {v u : Value} {ps qs : List (Nat × Nat)} {L R : Grid} (h : TwoAt w base v ps L u qs R f) : TwoAt w base u qs R v ps L f :=
  ⟨h.gr, h.gl, fun p hp q hq e => h.sep q hq p hp e.symm, fun e => h.own e.symm, h.field⟩
/-- A row of the one is written: the other stands. -/
theorem TwoAt.row {w w' : World} {base f : Nat} {v u : Value} {ps qs : List (Nat × Nat)} {L L' R : Grid} (h : TwoAt w base v ps L u qs R f) (hl : GridAt w' base v ps L') (hf : FieldAt w' f) {p : Nat × Nat} (hp : p ∈ ps) (hg : w.grownBy w' (some p.1)) : TwoAt w' base v ps L' u qs R f := by
  obtain ⟨l, hr, _⟩ := h.gl.rowOf hp
  exact ⟨hl, h.gr.grown hg (fun e => row_ne_own hr h.gr.outer e.symm) (fun q hq e => h.sep p hp q hq e.symm), h.sep, h.own, hf⟩
/-- The outer row of the one is written. -/
theorem TwoAt.outer {w w' : World} {base f g n cap : Nat} {u : Value} {ps ps' qs : List (Nat × Nat)} {L L' R : Grid} (h : TwoAt w base (.slice (some ⟨g, 0, none⟩) n cap) ps L u qs R f) (hl : GridAt w' base (.slice (some ⟨g, 0, none⟩) n cap) ps' L') (hn : 0 < L.length)
    (hm : ∀ p, p ∈ ps' → p ∈ ps) (hg : w.grownBy w' (some g)) : TwoAt w' base (.slice (some ⟨g, 0, none⟩) n cap) ps' L' u qs R f := by
  obtain ⟨_, _, cur, hh, _⟩ := h.gl.outerSet hn
  refine ⟨hl, h.gr.grown hg (fun e => h.own e.symm) (fun q hq e => ?_), fun p hp q hq => h.sep p (hm p hp) q hq, h.own, blk_grown h.field hg (fun e => ?_)⟩
  · obtain ⟨l, hr, _⟩ := h.gr.rowOf hq
    exact row_ne_own hr h.gl.outer (by rw [e]; rfl)
  · have hf := h.field
    unfold FieldAt at hf
    injection e with e
    rw [e, hh] at hf
    injection hf with hf
    injection hf with _ hf _
    exact absurd hf (by decide)
theorem mem_swapL {α : Type} (l : List α) (a b : Nat) (ha : a < l.length) (hb : b < l.length) {x : α} (h : x ∈ swapL l a b ha hb) : x ∈ l := by
  obtain ⟨i, hi⟩ := List.mem_iff_getElem?.1 h
  exact List.mem_of_getElem? (swapL_at l a b ha hb i x hi)
/-! A column cleared row by row. -/
def clearP (c : Nat) (L M : Grid) (i : Nat) : Grid := M.mapIdx (fun j r => if j < i ∧ j ≠ c then addR (at2 L j c) (Gf.rowAt M c) r else r)
theorem clearP_len (c : Nat) (L M : Grid) (i : Nat) : (clearP c L M i).length = M.length := by simp [clearP]
theorem clearP_get (c : Nat) (L M : Grid) (i j : Nat) (hj : j < M.length) : (clearP c L M i)[j]'(by rw [clearP_len]; exact hj) = if j < i ∧ j ≠ c then addR (at2 L j c) (Gf.rowAt M c) M[j] else M[j] := by simp [clearP]
theorem clearP_zero (c : Nat) (L M : Grid) : clearP c L M 0 = M := by
  apply List.ext_getElem
  · exact clearP_len _ _ _ _
  · intro j h1 h2
    rw [clearP_get _ _ _ _ _ h2, if_neg (by omega)]
theorem clearC_get (c : Nat) (L M : Grid) (j : Nat) (h : j < (clearC c L M).length) (hj : j < M.length) : (clearC c L M)[j] = if j = c then M[j] else addR (at2 L j c) (Gf.rowAt M c) M[j] := by simp [clearC]
theorem clearP_full (c : Nat) (L M : Grid) : clearP c L M M.length = clearC c L M := by
  apply List.ext_getElem
  · rw [clearP_len]; simp [clearC]
  · intro j h1 h2
    have hj : j < M.length := by rw [clearP_len] at h1; exact h1
    rw [clearP_get _ _ _ _ _ hj, clearC_get c L M j h2 hj]
    by_cases e : j = c
    · rw [if_neg (by omega), if_pos e]
    · rw [if_pos ⟨hj, e⟩, if_neg e]
theorem clearP_same (c : Nat) (L M : Grid) (i : Nat) (hi : i < M.length) (h : i = c ∨ addR (at2 L i c) (Gf.rowAt M c) M[i] = M[i]) : clearP c L M (i + 1) = clearP c L M i := by
  apply List.ext_getElem
  · rw [clearP_len, clearP_len]
  · intro j h1 h2
    have hj : j < M.length := by rw [clearP_len] at h1; exact h1
    rw [clearP_get _ _ _ _ _ hj, clearP_get _ _ _ _ _ hj]
    by_cases e : j = i
    · subst e
      rcases h with h | h
      · rw [if_neg (by omega), if_neg (by omega)]
      · by_cases ec : j = c
        · rw [if_neg (by omega), if_neg (by omega)]
        · rw [if_pos (by omega), if_neg (by omega), h]
    · by_cases e2 : j < i ∧ j ≠ c
      · rw [if_pos e2, if_pos (by omega)]
      · rw [if_neg e2, if_neg (by omega)]
theorem clearP_set (c : Nat) (L M : Grid) (i : Nat) (hi : i < M.length) (h : i ≠ c) : (clearP c L M i).set i (addR (at2 L i c) (Gf.rowAt M c) M[i]) = clearP c L M (i + 1) := by
  apply List.ext_getElem
  · rw [List.length_set, clearP_len, clearP_len]
  · intro j h1 h2
    have hj : j < M.length := by rw [clearP_len] at h2; exact h2
    rw [List.getElem_set, clearP_get _ _ _ _ _ hj, clearP_get _ _ _ _ _ hj]
    by_cases e : i = j
    · subst e
      rw [if_pos rfl, if_pos (by omega)]
    · rw [if_neg e]
      by_cases e2 : j < i ∧ j ≠ c
      · rw [if_pos e2, if_pos (by omega)]
      · rw [if_neg e2, if_neg (by omega)]
theorem add_none (f t : List UInt8) (h : f.length = t.length) : addR 0 f t = t := by
  unfold addR
  apply List.ext_getElem
  · simp; omega
  · intro i h1 h2
    rw [List.getElem_zipWith, zero_gmul]
    simp
end Go.Proofs.YtpmnhlbkgeiomaaDoor.Grd
namespace Go.Proofs.YtpmnhlbkgeiomaaDoor.Grd
open Go.RowKit Go.Proofs.YtpmnhlbkgeiomaaDoorW.PrintWords Go.Proofs.YtpmnhlbkgeiomaaDoorW.PrintLast Go.Proofs.YtpmnhlbkgeiomaaDoorW.PrintMore Go.Proofs.YtpmnhlbkgeiomaaDoor.Gf Go.Proofs.YtpmnhlbkgeiomaaDoor.Rowb Go.Proofs.YtpmnhlbkgeiomaaDoor.Fld
attribute [local go_sem] max2_int min2_int max_two min_two
set_option linter.unusedVariables false
set_option linter.unusedSimpArgs false
set_option maxRecDepth 100000 in
set_option maxHeartbeats 1000000 in
theorem check_walk (w : World) (r c : Nat) (s : List UInt8) (hr1 : 1 ≤ r) (hr2 : r ≤ 255) (hc1 : 1 ≤ c) (hc2 : c ≤ 255) (hs : s.length = r * c) :
    Calls Tryd.prog 71 #[matV r c s] w fun e w' => e = .returned (.int .i64 0) ∧ Below w.heap.size w w' := by
  unfold matV
  obtain ⟨t, ht⟩ : ∃ t : ByteArray, t = ⟨s.toArray⟩ := ⟨_, rfl⟩
  have hts : (t.size : Int) = (r : Int) * (c : Int) := by
    have : t.size = s.length := by rw [ht]; show (s.toArray).size = _; simp
    rw [this, hs]
    push_cast
    rfl
  rw [← ht]
  have hb : r * c ≤ 255 * 255 := Nat.mul_le_mul hr2 hc2
  have hbi : (r : Int) * (c : Int) = ((r * c : Nat) : Int) := by push_cast; rfl
  rw [hbi] at hts
  obtain ⟨z, hz⟩ : ∃ z, r * c = z := ⟨_, rfl⟩
  rw [hz] at hts hbi hb
  have c1 : decide ((r : Int) < 1) = false := by simp; omega
  have c2 : decide ((c : Int) < 1) = false := by simp; omega
  have c3 : decide ((255 : Int) < (r : Int)) = false := by simp; omega
  have c4 : decide ((255 : Int) < (c : Int)) = false := by simp; omega
  have d1 : ¬ r = 0 := by omega
  have d2 : ¬ c = 0 := by omega
  have d3 : ¬ (255 < r) := by omega
  have d4 : ¬ (255 < c) := by omega
  clear ht hz hs hr1 hc1
  go_enter Tryd.func71, Tryd.ntmps71
  have hbx : (w.alloc (.cells #[.int .i64 (r : Int), .int .i64 (c : Int), .string t] 90)).heap[w.heap.size]? = some (.cells #[.int .i64 (r : Int), .int .i64 (c : Int), .string t] 90 (0, 0)) := blk_new _ _
  have c5 := blk_cell hbx 0
  have c6 := blk_cell hbx 1
  have c7 := blk_cell hbx 2
  go_wp2
  all_goals first
    | (go_ret; exact ⟨rfl, (Below.refl _ _).alloc (Nat.le_refl _) _⟩)
    | (exfalso; omega)
end Go.Proofs.YtpmnhlbkgeiomaaDoor.Grd
