/- Texts of this proof, one behind the other (merged by a program of this session). -/
import Derived.Test.YtegmmefijihdeaaDoorProg
import Derived.Test.YtegmmefijihdeaaDoorW
import Derived.Test.YtegmmefijihdeaaDoorHGf
import Derived.RegionTactic
import Derived.ChangeAlike
import Derived.Laws.BitsLemmas
import Derived.Deep.QuietTactic
import Derived.BigQuiet
import Derived.Laws.CopyRow
import Derived.Laws.Tables
import Derived.Lib.BufferWrite
import Derived.Shelf.Strings.Builder1
import Derived.Shelf.Strings.Builder2
import Derived.Shelf.Strings.OnBuilder
import Derived.Shelf.Strings.Trim
import Derived.Shelf.Small.Utf8
import Derived.Shelf.Small.Strs
import Derived.Shelf.Strings.BuilderF
import Derived.Shelf.Strings.Search1
import Derived.Shelf.Strings.Prefix
import Derived.Shelf.Strings.Runes
import Derived.Shelf.Strings.AsciiSet
import Derived.Shelf.Bits.Mul64
import Derived.Shelf.Strings.Repeat
import Derived.Shelf.Unicode.DecodeSlow
import Derived.Ground.SlbNamesProg
import Derived.Shelf.Bytes.SlJoin
import Derived.Deep.RegionLaw
import Derived.Laws.Strings
import Derived.WalkKit
import Derived.Below
import Derived.Deep.Draws
import Derived.Deep.AppendLies
import Derived.Maps.AppendAt
import Derived.OwnWalk
import Derived.Laws.BytesArg
import Derived.Laws.MakeOwn
import Derived.Laws.OwnMore
import Derived.Deep.OwnRows
import Derived.Tactics
import Derived.Lib.ConvBytes
import Derived.Laws.Slices
import Derived.KernelRfl
import Derived.RowKit3
import Derived.Deep.LoopGhost
import Derived.WideLaws
import Derived.Deep.DeepCutAuto
import Derived.Deep.CutBlock
import Derived.Deep.RegionHeld3
import Derived.Laws.Rows
import Derived.Lib.AppendStr
import Derived.ArgAppend
import Derived.Laws.IdiomCopy
import Derived.OrdersHeld
import Derived.RowKit
import Derived.Maps.OwnSet
import Derived.Maps.RangeWalk
import Derived.Maps.Ext
import Derived.WalkArith
import Derived.Deep.Slices
import Derived.ChangeSame
import Derived.SizedLaws
namespace Go.Proofs.YtegmmefijihdeaaDoor.Fld
open Go.RowKit Go.Proofs.YtegmmefijihdeaaDoorW.PrintWords Go.Proofs.YtegmmefijihdeaaDoorW.PrintLast Go.Proofs.YtegmmefijihdeaaDoorW.PrintMore Go.Proofs.YtegmmefijihdeaaDoor.Gf
set_option linter.unusedVariables false
set_option linter.unusedSimpArgs false
theorem xor_nat (k : IntKind) (j : Nat) (hj : j ≤ k.bits) (hk : ∀ n : Int, 0 ≤ n → n < 2 ^ j → k.wrap n = n) (a b : Nat) (ha : a < 2 ^ j) (hb : b < 2 ^ j) : bits .xor k (a : Int) (b : Int) = ((a ^^^ b : Nat) : Int) := by
  have hp : 2 ^ j ≤ 2 ^ k.bits := Nat.pow_le_pow_right (by decide) hj
  have ha' : a % 2 ^ k.bits = a := Nat.mod_eq_of_lt (Nat.lt_of_lt_of_le ha hp)
  have hb' : b % 2 ^ k.bits = b := Nat.mod_eq_of_lt (Nat.lt_of_lt_of_le hb hp)
  simp only [bits, BitVec.ofInt_natCast, BitVec.toNat_xor, BitVec.toNat_ofNat, ha', hb']
  refine hk _ (Int.natCast_nonneg _) ?_
  have := Nat.xor_lt_two_pow ha hb
  exact_mod_cast this
theorem xor_i64 (a b j : Nat) (hj : j ≤ 62) (ha : a < 2 ^ j) (hb : b < 2 ^ j) : bits .xor .i64 (a : Int) (b : Int) = ((a ^^^ b : Nat) : Int) :=
  xor_nat .i64 j (by show j ≤ 64; omega) (fun n h0 h1 => by
    have h2 : (2 : Int) ^ j ≤ 2 ^ 62 := by
      have := Nat.pow_le_pow_right (n := 2) (by decide) hj
      exact_mod_cast this
    rw [IntKind.wrap_i64]
    have h3 : (2 : Int) ^ 62 = 4611686018427387904 := by decide
    omega) a b ha hb
theorem xor_u8 (a b : Nat) (ha : a < 256) (hb : b < 256) : bits .xor .u8 (a : Int) (b : Int) = ((a ^^^ b : Nat) : Int) :=
  xor_nat .u8 8 (by decide) wraps_u8 a b ha hb
/-- The tables behind k rounds. -/
def expAt (k j : Nat) : Nat := if j % 255 < k then pw (j % 255) else 0
def logAt (k a : Nat) : Nat := if a ≠ 0 ∧ lg a < k then lg a else 0
def fieldF (k i : Nat) : Value := if i < 510 then .int .u8 (expAt k i : Int) else .int .i64 (logAt k (i - 510) : Int)
def fcells (k : Nat) : Array Value := ((List.range 766).map (fieldF k)).toArray
theorem fcells_at (k i : Nat) (h : i < 766) : (fcells k)[i]? = some (fieldF k i) := by
  unfold fcells
  rw [List.getElem?_toArray]
  simp [h]
theorem fcells_exp (k j : Nat) (h : j < 510) : (fcells k)[j]? = some (.int .u8 (expAt k j : Int)) := by
  rw [fcells_at k j (by omega)]
  unfold fieldF
  rw [if_pos h]
theorem fcells_log (k a : Nat) (h : a < 256) : (fcells k)[510 + a]? = some (.int .i64 (logAt k a : Int)) := by
  rw [fcells_at k (510 + a) (by omega)]
  unfold fieldF
  rw [if_neg (by omega), Nat.add_sub_cancel_left]
theorem fcells_size (k : Nat) : (fcells k).size = 766 := by simp [fcells]
theorem fcells_zero : Tryd.zeroCells116 = fcells 0 := by
  have h : Tryd.zeroCells116 = ((List.range 766).map (fun i => if i < 510 then Value.int .u8 0 else Value.int .i64 0)).toArray := by kernel_rfl
  rw [h]
  unfold fcells
  exact congrArg List.toArray (List.map_congr_left (fun i _ => by
    unfold fieldF expAt logAt
    simp))
theorem fcells_step (k : Nat) (hk : k < 255) : (((fcells k).setIfInBounds k (.int .u8 (pw k : Int))).setIfInBounds (k + 255) (.int .u8 (pw k : Int))).setIfInBounds (510 + pw k) (.int .i64 (k : Int)) = fcells (k + 1) := by
  have hp := pw_lt k
  apply Array.ext_getElem?
  intro i
  by_cases hi : i < 766
  · rw [Array.getElem?_setIfInBounds, Array.getElem?_setIfInBounds, Array.getElem?_setIfInBounds, fcells_at k i hi, fcells_at (k + 1) i hi]
    simp only [Array.size_setIfInBounds, fcells_size]
    unfold fieldF
    by_cases h5 : i < 510
    · rw [if_neg (by omega), if_pos h5, if_pos h5]
      unfold expAt
      by_cases e1 : k + 255 = i
      · rw [if_pos e1, if_pos (by omega), show i % 255 = k by omega, if_pos (by omega)]
      · rw [if_neg e1]
        by_cases e2 : k = i
        · rw [if_pos e2, if_pos (by omega), show i % 255 = k by omega, if_pos (by omega)]
        · rw [if_neg e2]
          by_cases h7 : i % 255 < k
          · rw [if_pos h7, if_pos (by omega)]
          · rw [if_neg h7, if_neg (by omega)]
    · rw [if_neg h5, if_neg h5]
      unfold logAt
      by_cases e1 : 510 + pw k = i
      · rw [if_pos e1, if_pos (by omega), show i - 510 = pw k by omega, lg_pw k hk, if_pos ⟨pw_ne k, by omega⟩]
      · rw [if_neg e1, if_neg (by omega), if_neg (by omega)]
        have hne : i - 510 ≠ 0 → lg (i - 510) ≠ k := fun h0 e => e1 (by
          have := pw_lg (i - 510) (by omega) h0
          rw [e] at this; omega)
        by_cases h7 : i - 510 ≠ 0 ∧ lg (i - 510) < k
        · rw [if_pos h7, if_pos ⟨h7.1, by omega⟩]
        · rw [if_neg h7, if_neg (fun h => h7 ⟨h.1, by have := hne h.1; omega⟩)]
  · rw [Array.getElem?_eq_none (by simp [fcells_size]; omega), Array.getElem?_eq_none (by simp [fcells_size]; omega)]
/-- The tables, in memory. -/
def FieldAt (w : World) (p : Nat) : Prop := w.heap[p]? = some (.cells (fcells 255) 116 (0, 0))
theorem FieldAt.below {w w' : World} {p : Nat} (h : FieldAt w p) (hb : Below w.heap.size w w') : FieldAt w' p := blk_below h hb
def Made (w : World) (e : Ending) (w' : World) : Prop := e = .returned (.pointer (some ⟨w.heap.size, 0, none⟩)) ∧ FieldAt w' w.heap.size ∧ Below w.heap.size w w'
set_option maxRecDepth 100000 in
theorem new_walk (w : World) : Calls Tryd.prog 56 #[] w (Made w) := by
  go_enter Tryd.func56, Tryd.ntmps56
  go_wp2
  go_loopw [2, 6] (fun x i W => ∃ k : Nat, k ≤ 255 ∧ x = .int .i64 (pw k : Int) ∧ i = .int .i64 (k : Int) ∧ W.heap[w.heap.size]? = some (.cells (fcells k) 116 (0, 0)) ∧ Below w.heap.size w W) (fun _ i _ => 255 - (intOf i).toNat)
  case atStart => exact ⟨0, by omega, rfl, rfl, by rw [← fcells_zero]; exact blk_new _ _, (Below.refl _ _).alloc (Nat.le_refl _) _⟩
  case round =>
    obtain ⟨k, hk, rfl, rfl, hb, hB⟩ := hrel
    by_cases hlt : k < 255
    · have hp := pw_lt k
      have fz := fun i => blk_frozen hb i
      have c0 := (blk_cell hb k).trans (fcells_exp k k (by omega))
      have c1 := (blk_cell hb (k + 255)).trans (fcells_exp k (k + 255) (by omega))
      have c2 := (blk_cell hb (510 + pw k)).trans (fcells_log k (pw k) hp)
      have HS : Aside0 ((pw k : Int) * 2 ≤ 255 → (pw k : Int) * 2 = (pw (k + 1) : Int)) := ⟨fun h => by
        show (pw k : Int) * 2 = (xt (pw k) : Int)
        unfold xt
        rw [if_pos (by omega)]; omega⟩
      have HX : Aside0 (¬ (pw k : Int) * 2 ≤ 255 → bits .xor .i64 ((pw k : Int) * 2) 285 = (pw (k + 1) : Int)) := ⟨fun h => by
        have := xor_i64 (pw k * 2) 285 10 (by omega) (by omega) (by decide)
        show _ = (xt (pw k) : Int)
        unfold xt
        rw [if_neg (by omega), Nat.mul_comm 2, ← this]
        push_cast
        rfl⟩
      have HB := Aside0.mk (And.intro hb hB)
      have HK := Aside0.mk (fcells_step k hlt)
      have hend : ∀ (W : World), W = ((wr.setCell ⟨w.heap.size, k, none⟩ (.int .u8 (pw k : Int))).setCell ⟨w.heap.size, k + 255, none⟩ (.int .u8 (pw k : Int))).setCell ⟨w.heap.size, 510 + pw k, none⟩ (.int .i64 (k : Int)) →
          W.drew.heap[w.heap.size]? = some (.cells (fcells (k + 1)) 116 (0, 0)) ∧ Below w.heap.size w W.drew := fun W hW => by
        subst hW
        exact ⟨blk_put (blk_set (blk_set hb _ _) _ _) _ _ HK.out, below_drew1 (((hB.setCell (Nat.le_refl _) _).setCell (Nat.le_refl _) _).setCell (Nat.le_refl _) _)⟩
      have HE := Aside0.mk hend
      clear hend hb hB
      go_wp2
      go_region
      go_wp2
      · go_roundw
        case rel => exact ⟨k + 1, by omega, by rw [HX.out (by omega)], by go_num, (HE.out _ rfl).1, (HE.out _ rfl).2⟩
        case measure => simp [intOf]; omega
      · go_roundw
        case rel => exact ⟨k + 1, by omega, by rw [HS.out ‹_›], by go_num, (HE.out _ rfl).1, (HE.out _ rfl).2⟩
        case measure => simp [intOf]; omega
    · go_wp2
      go_ret
      obtain rfl : k = 255 := by omega
      exact ⟨rfl, hb, hB⟩
section
variable {w : World} {p : Nat}
theorem FieldAt.exp (h : FieldAt w p) (j : Nat) (hj : j < 510) : w.cell? ⟨p, j, none⟩ = some (.int .u8 (pw j : Int)) := by
  rw [blk_cell h j, fcells_exp 255 j hj]
  unfold expAt
  rw [if_pos (by omega), pw_mod]
theorem FieldAt.log (h : FieldAt w p) (a : Nat) (ha : a < 256) (h0 : a ≠ 0) : w.cell? ⟨p, 510 + a, none⟩ = some (.int .i64 (lg a : Int)) := by
  rw [blk_cell h (510 + a), fcells_log 255 a ha]
  unfold logAt
  rw [if_pos ⟨h0, lg_lt a ha⟩]
def bv (a : UInt8) : Value := .int .u8 (a.toNat : Int)
theorem gmul_pw (a b : UInt8) (ha : a.toNat ≠ 0) (hb : b.toNat ≠ 0) : (gmul a b).toNat = pw (lg a.toNat + lg b.toNat) := by
  rw [gmul_nat, ← fmul_eq _ _ (b_lt a) (b_lt b)]
  unfold fmul
  rw [if_neg (fun h => h.elim ha hb)]
theorem gmul_0 (a b : UInt8) (h : a.toNat = 0 ∨ b.toNat = 0) : (gmul a b).toNat = 0 := by
  rw [gmul_nat, ← fmul_eq _ _ (b_lt a) (b_lt b)]
  unfold fmul
  rw [if_pos h]
set_option maxRecDepth 100000 in
theorem mul_walk (h : FieldAt w p) (a b : UInt8) : Calls Tryd.prog 57 #[.pointer (some ⟨p, 0, none⟩), .int .u8 (a.toNat : Int), .int .u8 (b.toNat : Int)] w fun e w' => e = .returned (.int .u8 ((gmul a b).toNat : Int)) ∧ Drawn0 w w' := by
  have hla := lg_lt _ (b_lt a)
  have hlb := lg_lt _ (b_lt b)
  have hxa := b_lt a
  have hxb := b_lt b
  have HP := Aside0.mk (gmul_pw a b)
  have HZ := Aside0.mk (gmul_0 a b)
  have cl := fun x => h.log x
  have ce := h.exp (lg a.toNat + lg b.toNat) (by omega)
  generalize (gmul a b).toNat = r at *
  generalize a.toNat = x at *
  generalize b.toNat = y at *
  by_cases h0 : x = 0
  · have HR := Aside0.mk (HZ.out (.inl h0))
    subst h0
    clear ce cl HP HZ h
    go_enter Tryd.func57, Tryd.ntmps57
    go_wp2
    go_ret
    exact ⟨by rw [HR.out]; rfl, Drawn0.refl _⟩
  · by_cases h1 : y = 0
    · have HR := Aside0.mk (HZ.out (.inr h1))
      subst h1
      have e0 : ((x : Int) == 0) = false := by simp; omega
      clear ce cl HP HZ h
      go_enter Tryd.func57, Tryd.ntmps57
      go_wp2
      go_ret
      exact ⟨by rw [HR.out]; rfl, Drawn0.refl _⟩
    · have HR := Aside0.mk (HP.out h0 h1)
      have e0 : ((x : Int) == 0) = false := by simp; omega
      have e1 : ((y : Int) == 0) = false := by simp; omega
      have cx := cl x hxa h0
      have cy := cl y hxb h1
      clear cl HP HZ h
      generalize lg x = i at *
      generalize lg y = j at *
      generalize pw (i + j) = z at *
      go_enter Tryd.func57, Tryd.ntmps57
      go_wp2
      go_quiet (fail)
      go_wp2
      go_ret
      exact ⟨by rw [HR.out]; rfl, by repeat (first | exact Drawn0.refl _ | apply Drawn0.step)⟩
theorem ginv_pw (a : UInt8) : (ginv a).toNat = pw (255 - lg a.toNat) := by rw [ginv_nat]; rfl
set_option maxRecDepth 100000 in
/-- 'f.Div(1, a)' -/
theorem div_walk (h : FieldAt w p) (a : UInt8) (ha : a ≠ 0) : Calls Tryd.prog 103 #[.pointer (some ⟨p, 0, none⟩), .int .u8 1, .int .u8 (a.toNat : Int)] w fun e w' => e = .returned (.tuple #[.int .u8 ((ginv a).toNat : Int), .int .i64 0]) ∧ Drawn0 w w' := by
  have hla := lg_lt _ (b_lt a)
  have hxa := b_lt a
  have h0 := b_ne ha
  have HR := Aside0.mk (ginv_pw a)
  have c1 := h.log 1 (by decide) (by decide)
  have cx := h.log a.toNat hxa h0
  have ce := h.exp (255 - lg a.toNat) (by omega)
  rw [show lg 1 = 0 by decide +kernel] at c1
  generalize (ginv a).toNat = r at *
  generalize a.toNat = x at *
  have e0 : ((x : Int) == 0) = false := by simp; omega
  clear h
  generalize lg x = i at *
  generalize hz : pw (255 - i) = z at *
  have ce' : w.cell? ⟨p, ((255 : Int) - (i : Int)).toNat, none⟩ = some (.int .u8 (z : Int)) := by
    rw [show ((255 : Int) - (i : Int)).toNat = 255 - i by omega]; exact ce
  clear hz
  go_enter Tryd.func103, Tryd.ntmps103
  go_wp2
  go_quiet (fail)
  go_wp2
  go_ret2
  exact ⟨by rw [HR.out]; rfl, by repeat (first | exact Drawn0.refl _ | apply Drawn0.step)⟩
set_option maxRecDepth 100000 in
theorem inv_walk (h : FieldAt w p) (a : UInt8) (ha : a ≠ 0) : Calls Tryd.prog 81 #[.pointer (some ⟨p, 0, none⟩), .int .u8 (a.toNat : Int)] w fun e w' => e = .returned (.tuple #[.int .u8 ((ginv a).toNat : Int), .int .i64 0]) ∧ Drawn0 w w' := by
  have H := Aside0.mk (div_walk h a ha)
  clear h
  go_enter Tryd.func81, Tryd.ntmps81
  go_wp2_with fail
  refine H.out.mono ?_
  rintro e w1 ⟨rfl, hd⟩
  go_wp2
  go_ret2
  exact ⟨rfl, hd⟩
end
end Go.Proofs.YtegmmefijihdeaaDoor.Fld
namespace Go.Proofs.YtegmmefijihdeaaDoor.Rowb
open Go.RowKit Go.Proofs.YtegmmefijihdeaaDoorW.PrintWords Go.Proofs.YtegmmefijihdeaaDoorW.PrintLast Go.Proofs.YtegmmefijihdeaaDoorW.PrintMore
open Go.Lib (byteCells byteCells_length byteCells_append byteCells_one)
set_option linter.unusedVariables false
set_option linter.unusedSimpArgs false
/-- 'copy(dst, s)', as much of s as dst takes. -/
theorem run_copy_part {P : Program} (w : World) (dT sT ty elem : TypeId) (g o dLen dCap : Nat) (s : ByteArray) (cur : Array Value) (t : TypeId)
    (hu : P.underlying dT = some (.slice elem)) (hs : (P.info? elem).map (·.size) = some 1) (hg : w.heap[g]? = some (.cells cur t (0, 0))) (hfit : o + dLen ≤ cur.size) :
    (Builtin.copy_ #[dT, sT] ty #[.slice (some ⟨g, o, none⟩) dLen dCap, .string s]).run P w =
      .ok (.int .i64 ((Nat.min s.size dLen : Nat) : Int)) (w.setRow g (cur.toList.take o ++ byteCells (s.data.toList.take dLen) ++ cur.toList.drop (o + (s.data.toList.take dLen).length)).toArray) := by
  have hsz : s.size = s.data.toList.length := by rw [Array.length_toList]; rfl
  have hmr : Nat.min s.size dLen ≤ dLen := Nat.min_le_right _ _
  have hlen : (byteCells (s.data.toList.take dLen)).length = Nat.min s.size dLen := by rw [byteCells_length, List.length_take, hsz]; exact Nat.min_comm _ _
  have hst := run_storeCells_at P g o t (byteCells (s.data.toList.take dLen)) 0 cur w hg (by rw [hlen]; omega) (byteCells_one _)
  have htk : List.take (Nat.min s.size dLen) (List.map (fun b : UInt8 => Value.int IntKind.u8 (b.toNat : Int)) s.data.toList) = byteCells (s.data.toList.take dLen) := by
    unfold byteCells
    rw [List.map_take]
    have hll : (List.map (fun b : UInt8 => Value.int IntKind.u8 (b.toNat : Int)) s.data.toList).length = s.size := by rw [List.length_map, hsz]
    rcases Nat.le_total s.size dLen with h | h
    · have e : Nat.min s.size dLen = s.size := Nat.min_eq_left h
      rw [e, List.take_of_length_le (by omega), List.take_of_length_le (by omega)]
    · have e : Nat.min s.size dLen = dLen := Nat.min_eq_right h
      rw [e]
  have hl2 : (s.data.toList.take dLen).length = (byteCells (s.data.toList.take dLen)).length := by rw [byteCells_length]
  rw [hl2]
  simp only [Nat.add_zero] at hst
  cases hq : P.info? elem with
  | none => simp [hq] at hs
  | some i =>
    simp [hq] at hs
    simp [Builtin.copy_, run_underlying hu, Builtin.lenOf, Builtin.firstCells, sizeOf, typeInfo, hq, hs]
    rw [htk, hst]
    simp [Result.andThen]
    rfl
theorem info5 : (Tryd.prog.info? 5).map (·.size) = some 1 := by kernel_rfl
theorem info5' : (Tryd.prog.info? 5).map (fun i => (i.zero, i.size, i.bytes)) = some (some (.int .u8 0), 1, 1) := by kernel_rfl
/-- A row of bytes. -/
def RowB (w : World) (g : Nat) (l : List UInt8) : Prop := w.heap[g]? = some (.cells (byteCells l).toArray 5 (0, 0))
theorem toList_toArray (l : List Value) : l.toArray.toList = l := by simp
theorem byteCells_take (l : List UInt8) (n : Nat) : (byteCells l).take n = byteCells (l.take n) := by unfold byteCells; rw [List.map_take]
theorem byteCells_drop (l : List UInt8) (n : Nat) : (byteCells l).drop n = byteCells (l.drop n) := by unfold byteCells; rw [List.map_drop]
/-- 'copy(row[o:o+n], s)' -/
theorem RowB.copy {w : World} {g : Nat} {l : List UInt8} {ops : Array Oper} {rest : List Oper} {o : Oper} {a : Act} {Q : Exit → Act → World → Prop} (h : RowB w g l) (hgd : o.guard = none) (d s : Operand)
    (hop : o.op = Op.call { callee := Callee.builtin Builtin.copy, args := #[d, s], argTypes := #[60, 9] }) (off n cap : Nat) (hd : a.eval d = .slice (some ⟨g, off, none⟩) n cap) (t : ByteArray) (hs : a.eval s = .string t) (hfit : off + n ≤ l.length)
    (hK : ∀ w', RowB w' g (l.take off ++ t.data.toList.take n ++ l.drop (off + (t.data.toList.take n).length)) → w.grownBy w' (some g) → wpList Tryd.prog ops Q rest (a.put o.dst (.int .i64 ((Nat.min t.size n : Nat) : Int))) w') : wpList Tryd.prog ops Q (o :: rest) a w := by
  have hr := run_copy_part (P := Tryd.prog) w 60 9 o.type 5 g off n cap t _ 5 Tryd.underlying60 info5 h (by rw [List.size_toArray, byteCells_length]; exact hfit)
  rw [toList_toArray, byteCells_take, byteCells_drop, ← byteCells_append, ← byteCells_append] at hr
  generalize l.take off ++ t.data.toList.take n ++ l.drop (off + (t.data.toList.take n).length) = L at *
  refine wpList_plain hgd fun K' hK' => ?_
  unfold Oper.wp
  simp [execOp, hop, resolve, invoke, builtin, hd, hs, hr, Result.andThen]
  refine hK' _ _ (hK _ (setRow_heap w g _ _ 5 (0, 0) h) ⟨rfl, rfl, rfl, by simp, fun i hi hne => setRow_other w g i _ (fun e => hne (by rw [e]))⟩)
/-- The zeros. -/
def zeros (n : Nat) : List UInt8 := List.replicate n 0
/-- 'clear(row)' -/
theorem RowB.clear {w : World} {g : Nat} {l : List UInt8} {ops : Array Oper} {rest : List Oper} {o : Oper} {a : Act} {Q : Exit → Act → World → Prop} (h : RowB w g l) (hgd : o.guard = none) (d : Operand)
    (hop : o.op = Op.call { callee := Callee.builtin Builtin.clear, args := #[d], argTypes := #[60] }) (cap : Nat) (hd : a.eval d = .slice (some ⟨g, 0, none⟩) l.length cap) (hpos : 0 < l.length)
    (hK : ∀ w', RowB w' g (zeros l.length) → w.grownBy w' (some g) → wpList Tryd.prog ops Q rest (a.put o.dst (.tuple #[])) w') : wpList Tryd.prog ops Q (o :: rest) a w := by
  have hz : (zeroValue 5).run Tryd.prog w = .ok (.int .u8 0) w := by kernel_rfl
  have hzc : ∀ n, (Builtin.zeroCells (Value.int .u8 0).cells n).toList = byteCells (zeros n) := fun n => by
    apply List.ext_getElem?
    intro i
    simp [Builtin.zeroCells, Value.cells, byteCells, zeros, Nat.mod_one]
    rw [List.getElem?_replicate]
    by_cases hi : i < n <;> simp [hi]
  have hst := run_storeCells_at Tryd.prog g 0 5 (byteCells (zeros l.length)) 0 _ w h (by rw [byteCells_length, List.size_toArray, byteCells_length]; simp [zeros]) (byteCells_one _)
  have hrow : ((byteCells l).toArray.toList.take (0 + 0) ++ byteCells (zeros l.length) ++ (byteCells l).toArray.toList.drop (0 + 0 + (byteCells (zeros l.length)).length)) = byteCells (zeros l.length) := by
    rw [toList_toArray, List.take_zero, List.nil_append, List.drop_of_length_le (by rw [byteCells_length, byteCells_length]; simp [zeros]), List.append_nil]
  rw [hrow] at hst
  obtain ⟨n, hn⟩ : ∃ n, l.length = n + 1 := ⟨l.length - 1, by omega⟩
  have hr : (Builtin.clear_ #[60] o.type #[.slice (some ⟨g, 0, none⟩) l.length cap]).run Tryd.prog w = .ok (.tuple #[]) (w.setRow g (byteCells (zeros l.length)).toArray) := by
    rw [hn] at hst ⊢
    simp [Builtin.clear_, run_underlying Tryd.underlying60, hz, hzc, hst, Result.andThen]
  refine wpList_plain hgd fun K' hK' => ?_
  unfold Oper.wp
  simp [execOp, hop, resolve, invoke, builtin, hd, hr, Result.andThen]
  refine hK' _ _ (hK _ (setRow_heap w g _ _ 5 (0, 0) h) ⟨rfl, rfl, rfl, by simp, fun i hi hne => setRow_other w g i _ (fun e => hne (by rw [e]))⟩)
/-- 'string(row[o:o+n])' -/
theorem RowB.text {w : World} {g : Nat} {l : List UInt8} (h : RowB w g l) (off n cap : Nat) (hfit : off + n ≤ l.length) : (convert 60 9 (.slice (some ⟨g, off, none⟩) n cap)).run Tryd.prog w = .ok (.string ⟨((l.drop off).take n).toArray⟩) w := by
  have hl : ((l.drop off).take n).length = n := by rw [List.length_take, List.length_drop]; omega
  have := run_convert_bytes_back (P := Tryd.prog) w 60 9 5 ⟨g, off, none⟩ cap ((l.drop off).take n) Tryd.underlying60 Tryd.underlying5 Tryd.underlying9 (fun j hj => by
    have hj' : j < n := by rw [hl] at hj; exact hj
    have hc := blk_cell h (off + j)
    rw [show (⟨g, off, none⟩ : Addr).add j = ⟨g, off + j, none⟩ from by cases j <;> simp [Addr.add], hc]
    simp only [List.getElem_take, List.getElem_drop]
    have : off + j < l.length := by omega
    simp [byteCells, List.getElem?_eq_getElem this])
  rw [hl] at this
  exact this

theorem zeros_len (n : Nat) : (zeros n).length = n := by simp [zeros]
theorem made_zeros (n : Nat) : madeCells #[(Value.int .u8 0)] n = (byteCells (zeros n)).toArray := by
  apply Array.ext'
  rw [toList_toArray]
  apply List.ext_getElem?
  intro i
  simp [madeCells, byteCells, zeros, Nat.mod_one]
  rw [List.getElem?_replicate]
  by_cases hi : i < n <;> simp [hi]
/-- 'make([]byte, n)' -/
theorem run_make_bytes (n : Nat) (hn : n ≤ 281474976710656) (w : World) : (Instr.makeSlice 60 (.int .i64 (n : Int)) (.int .i64 (n : Int))).run Tryd.prog w = .ok (.slice (some ⟨w.heap.size, 0, none⟩) n n) (w.alloc (.cells (byteCells (zeros n)).toArray 5)) := by
  have := run_make_row' (P := Tryd.prog) 60 5 (.int .u8 0) 1 Tryd.underlying60 info5' rfl .i64 .i64 n (by omega) (by omega) w
  rw [made_zeros] at this
  exact this
section
variable {w w' : World} {g : Nat} {l : List UInt8}
theorem RowB.cell (h : RowB w g l) (i : Nat) (hi : i < l.length) : w.cell? ⟨g, i, none⟩ = some (.int .u8 (l[i].toNat : Int)) := by
  rw [blk_cell h i, List.getElem?_toArray]
  unfold byteCells
  rw [List.getElem?_map, List.getElem?_eq_getElem hi]
  rfl
theorem RowB.frozen (h : RowB w g l) (i : Nat) : w.frozen? ⟨g, i, none⟩ = false := blk_frozen h i
theorem byteCells_set (l : List UInt8) (i : Nat) (b : UInt8) : (byteCells l).set i (.int .u8 (b.toNat : Int)) = byteCells (l.set i b) := by unfold byteCells; rw [List.map_set]
theorem RowB.put (h : RowB w g l) (i : Nat) (b : UInt8) : RowB (w.setCell ⟨g, i, none⟩ (.int .u8 (b.toNat : Int))) g (l.set i b) := by
  have := blk_set h i (.int .u8 (b.toNat : Int))
  rw [List.setIfInBounds_toArray, byteCells_set] at this
  exact this
theorem RowB.far (h : RowB w g l) {p : Addr} (hp : g ≠ p.block) (u : Value) : RowB (w.setCell p u) g l := blk_far h hp u
theorem RowB.below (h : RowB w g l) (hb : Below w.heap.size w w') : RowB w' g l := blk_below h hb
theorem RowB.lt (h : RowB w g l) : g < w.heap.size := blk_lt h
theorem RowB.new (w : World) (l : List UInt8) : RowB (w.alloc (.cells (byteCells l).toArray 5)) w.heap.size l := blk_new _ _
/-- 'string(row)' -/
theorem RowB.whole (h : RowB w g l) (cap : Nat) : (convert 60 9 (.slice (some ⟨g, 0, none⟩) l.length cap)).run Tryd.prog w = .ok (.string ⟨l.toArray⟩) w := by
  have := h.text 0 l.length cap (by omega)
  rw [List.drop_zero, List.take_of_length_le (Nat.le_refl _)] at this
  exact this
end
/-! Rows with a mark behind their end, as '[]byte(s)' makes them. -/
theorem blkf_cell {w : World} {g : Nat} {t : TypeId} {cs : Array Value} {fr : Nat × Nat} (h : w.heap[g]? = some (.cells cs t fr)) (i : Nat) : w.cell? ⟨g, i, none⟩ = cs[i]? := cell_of_row w g i cs t fr h
theorem blkf_set {w : World} {g : Nat} {t : TypeId} {cs : Array Value} {fr : Nat × Nat} (h : w.heap[g]? = some (.cells cs t fr)) (i : Nat) (u : Value) : (w.setCell ⟨g, i, none⟩ u).heap[g]? = some (.cells (cs.setIfInBounds i u) t fr) := by
  simp [World.setCell, Array.getElem?_modify, h]
theorem blkf_frozen {w : World} {g : Nat} {t : TypeId} {cs : Array Value} {fr : Nat × Nat} (h : w.heap[g]? = some (.cells cs t fr)) (i : Nat) (hi : fr = (0, 0) ∨ i < fr.1) : w.frozen? ⟨g, i, none⟩ = false := by
  obtain ⟨lo, hi'⟩ := fr
  unfold World.frozen?
  simp only [h]
  rcases hi with hi | hi
  · injection hi with h1 h2
    subst h1 h2
    simp
  · simp only at hi
    have : decide (lo ≤ i) = false := by simp; omega
    rw [this]; rfl
/-- A row of bytes, maybe with room behind it. -/
def RowS (w : World) (g : Nat) (l : List UInt8) : Prop := ∃ (sp : List Value) (fr : Nat × Nat), w.heap[g]? = some (.cells (byteCells l ++ sp).toArray 5 fr) ∧ (fr = (0, 0) ∨ l.length + sp.length ≤ fr.1)
section
variable {w w' : World} {g : Nat} {l : List UInt8}
theorem RowS.of (h : RowB w g l) : RowS w g l := ⟨[], (0, 0), by rw [List.append_nil]; exact h, .inl rfl⟩
theorem RowS.lt (h : RowS w g l) : g < w.heap.size := by obtain ⟨sp, fr, h, _⟩ := h; exact blk_lt h
theorem RowS.grown (h : RowS w g l) {row : Option Nat} (hg : w.grownBy w' row) (hne : some g ≠ row) : RowS w' g l := by obtain ⟨sp, fr, h, hf⟩ := h; exact ⟨sp, fr, blk_grown h hg hne, hf⟩
theorem RowS.below (h : RowS w g l) (hb : Below w.heap.size w w') : RowS w' g l := by obtain ⟨sp, fr, h, hf⟩ := h; exact ⟨sp, fr, blk_below h hb, hf⟩
theorem RowS.heap (h : RowS w g l) (e : w'.heap = w.heap) : RowS w' g l := by unfold RowS; rw [e]; exact h
theorem RowS.cell (h : RowS w g l) (i : Nat) (hi : i < l.length) : w.cell? ⟨g, i, none⟩ = some (.int .u8 (l[i].toNat : Int)) := by
  obtain ⟨sp, fr, h, hf⟩ := h
  rw [blkf_cell h i, List.getElem?_toArray, List.getElem?_append_left (by rw [byteCells_length]; exact hi)]
  unfold byteCells
  rw [List.getElem?_map, List.getElem?_eq_getElem hi]
  rfl
theorem RowS.frozen (h : RowS w g l) (i : Nat) (hi : i < l.length) : w.frozen? ⟨g, i, none⟩ = false := by
  obtain ⟨sp, fr, h, hf⟩ := h
  exact blkf_frozen h i (hf.imp_right (fun hf => by omega))
theorem RowS.put (h : RowS w g l) (i : Nat) (hi : i < l.length) (b : UInt8) : RowS (w.setCell ⟨g, i, none⟩ (.int .u8 (b.toNat : Int))) g (l.set i b) := by
  obtain ⟨sp, fr, h, hf⟩ := h
  refine ⟨sp, fr, ?_, by rw [List.length_set]; exact hf⟩
  have := blkf_set h i (.int .u8 (b.toNat : Int))
  rw [List.setIfInBounds_toArray, List.set_append_left _ _ (by rw [byteCells_length]; exact hi), byteCells_set] at this
  exact this
theorem RowS.far (h : RowS w g l) {p : Addr} (hp : g ≠ p.block) (u : Value) : RowS (w.setCell p u) g l := by
  obtain ⟨sp, fr, h, hf⟩ := h
  exact ⟨sp, fr, (Below.heap_setCell w p u g hp).trans h, hf⟩
/-- 'string(row)' -/
theorem RowS.whole (h : RowS w g l) (cap : Nat) : (convert 60 9 (.slice (some ⟨g, 0, none⟩) l.length cap)).run Tryd.prog w = .ok (.string ⟨l.toArray⟩) w :=
  run_convert_bytes_back (P := Tryd.prog) w 60 9 5 ⟨g, 0, none⟩ cap l Tryd.underlying60 Tryd.underlying5 Tryd.underlying9 (fun j hj => by
    rw [show (⟨g, 0, none⟩ : Addr).add j = ⟨g, j, none⟩ from by unfold Addr.add; split <;> simp_all]
    exact h.cell j hj)
/-- '[]byte(s)' -/
theorem run_bytes_new (W : World) (s : ByteArray) : ∃ cap W', (convert 9 60 (.string s)).run Tryd.prog W = .ok (.slice (some ⟨W.heap.size, 0, none⟩) s.size cap) W' ∧ s.size ≤ cap ∧ RowS W' W.heap.size s.data.toList ∧ Below W.heap.size W W' ∧ (∃ cs fr, W'.heap[W.heap.size]? = some (.cells cs 5 fr) ∧ cs.size = cap ∧ (fr = (0, 0) ∨ cap ≤ fr.1) ∧ cs.toList.take s.size = byteCells s.data.toList) := by
  have h := run_bytes_of_string (P := Tryd.prog) W 9 60 5 s Tryd.underlying9 Tryd.underlying60 Tryd.underlying5
  have hcap := grownCap_ge W s.size 0 5
  generalize grownCap W s.size 0 5 = cap at *
  have hsz : s.data.size = s.size := rfl
  have hcs : bytesRow s cap = (byteCells s.data.toList ++ List.replicate (cap - s.size) (Value.int .u8 0)).toArray := by
    apply Array.ext'
    unfold bytesRow byteCells
    simp
  have hlen : (bytesRow s cap).size = cap := by
    rw [hcs, List.size_toArray, List.length_append, byteCells_length, List.length_replicate, Array.length_toList, hsz]
    omega
  rw [hlen] at h
  have hn : (W.drew.alloc (.cells (bytesRow s cap) 5 (cap, cap + 1))).heap[W.heap.size]? = some (.cells (bytesRow s cap) 5 (cap, cap + 1)) := heap_alloc_new W.drew _
  refine ⟨cap, _, h, hcap, ⟨_, _, hn.trans (by rw [hcs]), .inr ?_⟩, (below_drew1 (Below.refl _ _)).alloc (Nat.le_refl _) _, _, _, hn, hlen, .inr (Nat.le_refl _), ?_⟩
  · rw [List.length_replicate, Array.length_toList, hsz]
    simp only
    omega
  · rw [hcs, List.toList_toArray, List.take_append_of_le_length (by rw [byteCells_length, Array.length_toList, hsz]; exact Nat.le_refl _), List.take_of_length_le (by rw [byteCells_length, Array.length_toList, hsz]; exact Nat.le_refl _)]
end
/-- A row of bytes of the call's own, that may grow. -/
def RowX (w : World) (base : Nat) (v : Value) (l : List UInt8) : Prop :=
  ∃ (g cap : Nat) (cs : Array Value) (fr : Nat × Nat), v = .slice (some ⟨g, 0, none⟩) l.length cap ∧ base ≤ g ∧ w.heap[g]? = some (.cells cs 5 fr) ∧ cs.size = cap ∧ l.length ≤ cap ∧ cs.toList.take l.length = byteCells l ∧ (fr = (0, 0) ∨ cap ≤ fr.1)
section
variable {w w' : World} {base : Nat} {v : Value} {l : List UInt8}
theorem RowX.below (h : RowX w base v l) (hb : Below w.heap.size w w') : RowX w' base v l := by
  obtain ⟨g, cap, cs, fr, e, h1, h2, h3⟩ := h
  exact ⟨g, cap, cs, fr, e, h1, blk_below h2 hb, h3⟩
theorem RowX.rowS (h : RowX w base v l) : ∃ g cap, v = .slice (some ⟨g, 0, none⟩) l.length cap ∧ base ≤ g ∧ RowS w g l := by
  obtain ⟨g, cap, cs, fr, e, h1, h2, h3, h4, h5, h6⟩ := h
  refine ⟨g, cap, e, h1, cs.toList.drop l.length, fr, ?_, ?_⟩
  · rw [← h5, List.take_append_drop]
    exact h2
  · refine h6.imp_right (fun h => ?_)
    have e := @Array.length_toList _ cs
    rw [List.length_drop]
    omega
theorem RowX.block (h : RowX w base v l) {t : TypeId} {g : Nat} {cs : Array Value} {fr : Nat × Nat} (hg : w.heap[g]? = some (.cells cs t fr)) (hne : 5 ≠ t) : some g ≠ v.ownBlock := by
  obtain ⟨g', cap, cs', fr', rfl, h1, h2, _⟩ := h
  intro e
  have e' : g = g' := by injection e
  subst e'
  rw [hg] at h2
  injection h2 with h2
  injection h2 with _ h2
  exact hne h2.symm
end
theorem RowX.append {w0 W : World} {base : Nat} {v : Value} {l : List UInt8} {b : UInt8} {ops : Array Oper} {rest : List Oper} {o : Oper} {a : Act} {Q : Exit → Act → World → Prop} (h : RowX W base v l) (hgd : o.guard = none) (s x : Operand)
    (ho : o.op = .call { callee := .builtin .append, args := #[s, x], argTypes := #[60, 60] }) (hs : a.eval s = v) (hx : a.eval x = .slice (some ⟨W.heap.size, 0, none⟩) 1 1) (HB : Below base w0 W) (hbase : base ≤ W.heap.size) (hl : l.length + 1 ≤ 140737488355328)
    (hk : ∀ v1 w1, RowX w1 base v1 (l ++ [b]) → Below base w0 w1 → W.grownBy w1 v.ownBlock → wpList Tryd.prog ops Q rest (a.put o.dst v1) w1) :
    wpList Tryd.prog ops Q (o :: rest) a (W.alloc (.cells #[.int .u8 (b.toNat : Int)] 5)) := by
  obtain ⟨i0, hi, hzz⟩ := Option.map_eq_some_iff.1 (show (Tryd.prog.info? 5).map (fun i => (i.zero, i.size, i.bytes)) = some (some (.int .u8 0), 1, 1) from info5')
  simp only [Prod.mk.injEq] at hzz
  obtain ⟨hz0, hz1, hz2⟩ := hzz
  obtain ⟨g, cap, cs, fr, rfl, h1, h2, h3, h4, h5, h6⟩ := h
  have hgl := blk_lt h2
  have h2' : (W.alloc (.cells #[.int .u8 (b.toNat : Int)] 5)).heap[g]? = some (.cells cs 5 fr) := blk_alloc h2 _
  have hga := World.grownBy_alloc W (.cells #[.int .u8 (b.toNat : Int)] 5) (some g)
  have hcl := @Array.length_toList _ cs
  refine wpList_append_arg (W.alloc (.cells #[.int .u8 (b.toNat : Int)] 5)) hgd s x 60 ho 5 i0 (.int .u8 0) 1 1 Tryd.underlying60 hi hz0 hz1 hz2 rfl (by decide) g 0 l.length cap (byteCells l) hs (by rw [byteCells_length, Nat.mul_one]) (fun j u hj => ?_) ⟨W.heap.size, 0, none⟩ 1 1 [.int .u8 (b.toNat : Int)] hx rfl (fun j u hj => ?_) (by simp [Value.oneCell']) (fun hr j hj => ?_) (by unfold maxLen; omega) (by omega) (fun hr => ?_) (fun hr v' w' hown hg' => ?_)
  · rw [Nat.zero_add, blkf_cell h2' j, ← Array.getElem?_toList]
    rw [← h5, List.getElem?_take] at hj
    split at hj
    · exact hj
    · cases hj
  · have hj0 : j = 0 := by
      have := (List.getElem?_eq_some_iff.1 hj).1
      simpa using this
    subst hj0
    simp only [List.getElem?_cons_zero, Option.some.injEq] at hj
    subst hj
    rw [show (⟨W.heap.size, 0, none⟩ : Addr).add 0 = ⟨W.heap.size, 0, none⟩ from rfl, blk_cell (blk_new W _) 0]
    rfl
  · have hj0 : j = 0 := by simpa using hj
    subst hj0
    rw [Nat.zero_add, Nat.mul_one, Nat.add_zero]
    refine ⟨?_, blkf_frozen h2' _ (h6.imp_right (fun h => by omega))⟩
    rw [blkf_cell h2' l.length, Array.getElem?_eq_getElem (by rw [h3]; omega)]
    rfl
  · have hset := blkf_set h2' (0 + l.length * 1) (.int .u8 (b.toNat : Int))
    have hsc : (W.alloc (.cells #[.int .u8 (b.toNat : Int)] 5)).setCells g (0 + l.length * 1) [.int .u8 (b.toNat : Int)] = (W.alloc (.cells #[.int .u8 (b.toNat : Int)] 5)).setCell ⟨g, 0 + l.length * 1, none⟩ (.int .u8 (b.toNat : Int)) := rfl
    rw [hsc]
    have hgs : (W.alloc (.cells #[.int .u8 (b.toNat : Int)] 5)).grownBy ((W.alloc (.cells #[.int .u8 (b.toNat : Int)] 5)).setCell ⟨g, 0 + l.length * 1, none⟩ (.int .u8 (b.toNat : Int))) (some g) :=
      ⟨rfl, rfl, rfl, by simp, fun j hj hne => Below.heap_setCell _ _ _ _ (fun e => hne (by rw [e]))⟩
    have hB2 : Below base w0 ((W.alloc (.cells #[.int .u8 (b.toNat : Int)] 5)).setCell ⟨g, 0 + l.length * 1, none⟩ (.int .u8 (b.toNat : Int))) := (HB.alloc hbase _).setCell (by show base ≤ g; exact h1) _
    have hlen : (l ++ [b]).length = l.length + 1 := by simp
    have hrow : RowX ((W.alloc (.cells #[.int .u8 (b.toNat : Int)] 5)).setCell ⟨g, 0 + l.length * 1, none⟩ (.int .u8 (b.toNat : Int))) base (.slice (some ⟨g, 0, none⟩) (l.length + 1) cap) (l ++ [b]) := by
      refine ⟨g, cap, _, fr, by rw [hlen], h1, hset, by rw [Array.size_setIfInBounds]; exact h3, by rw [hlen]; exact hr, ?_, h6⟩
      rw [Nat.zero_add, Nat.mul_one, Array.toList_setIfInBounds, hlen, List.take_add_one, List.take_set_of_le (Nat.le_refl _), h5, byteCells_append, List.getElem?_set_self (by omega)]
      rfl
    exact hk _ _ hrow hB2 (hga.trans hgs)
  · have hgw : W.grownBy w' (some g) := hga.trans ⟨hg'.os, hg'.tape, hg'.output, hg'.size, fun i hi hne => hg'.block i hi (by simp)⟩
    have hb1 : base ≤ (W.alloc (.cells #[.int .u8 (b.toNat : Int)] 5)).heap.size := by simp; omega
    rcases hown.2 with ⟨_, h0⟩ | ⟨g', cap', cur, rfl, hb', hh, hn, hc, hss, ht⟩
    · omega
    · refine hk _ _ ⟨g', cap', cur, (0, 0), by simp, Nat.le_trans hb1 hb', hh, by simpa using hss, by simp; omega, ?_, .inl rfl⟩ ((HB.alloc hbase _).grown hg' hb1 (fun j e => by cases e)) hgw
      have e1 : byteCells (l ++ [b]) = byteCells l ++ [.int .u8 (b.toNat : Int)] := by rw [byteCells_append]; rfl
      rw [e1]
      simpa using ht
end Go.Proofs.YtegmmefijihdeaaDoor.Rowb
namespace Go.Proofs
open Go.Shelf
def Tryd.lays156_ren : Go.Shelf.Ren := ⟨fun | 156 => 51 | 165 => 69 | 166 => 70 | 169 => 72 | 240 => 97 | 241 => 98 | 276 => 106 | 277 => 107 | n => n, fun | 31 => 25 | 9 => 9 | 3 => 3 | 4 => 4 | 0 => 0 | 20 => 20 | 72 => 92 | 76 => 96 | 70 => 90 | 37 => 60 | 75 => 95 | 127 => 133 | 164 => 140 | 5 => 5 | 80 => 99 | n => n, fun | n => n⟩
theorem Tryd.lays156 : Go.Proofs.Lays.n156 Tryd.prog Tryd.lays156_ren := {
  mixed := by kernel_rfl
  f156 := Tryd.func51.trans (congrArg some (by kernel_rfl))
  f165 := Tryd.func69.trans (congrArg some (by kernel_rfl))
  f166 := Tryd.func70.trans (congrArg some (by kernel_rfl))
  f169 := Tryd.func72.trans (congrArg some (by kernel_rfl))
  f240 := Tryd.func97.trans (congrArg some (by kernel_rfl))
  f241 := Tryd.func98.trans (congrArg some (by kernel_rfl))
  f276 := Tryd.func106.trans (congrArg some (by kernel_rfl))
  f277 := Tryd.func107.trans (congrArg some (by kernel_rfl))
  t0 := Tryd.underlying0
  a0 := Tryd.isAgg0
  z0 := Tryd.sizeOf0
  v0 := Tryd.zeroValue0
  t3 := Tryd.underlying3
  a3 := Tryd.isAgg3
  z3 := Tryd.sizeOf3
  v3 := Tryd.zeroValue3
  t4 := Tryd.underlying4
  a4 := Tryd.isAgg4
  z4 := Tryd.sizeOf4
  v4 := Tryd.zeroValue4
  t9 := Tryd.underlying9
  a9 := Tryd.isAgg9
  z9 := Tryd.sizeOf9
  v9 := Tryd.zeroValue9
  t20 := Tryd.underlying20
  a20 := Tryd.isAgg20
  z20 := Tryd.sizeOf20
  v20 := Tryd.zeroValue20
  t31 := Tryd.underlying25
  a31 := Tryd.isAgg25
  z31 := Tryd.sizeOf25
  v31 := Tryd.zeroValue25
  t37 := Tryd.underlying60
  a37 := Tryd.isAgg60
  z37 := Tryd.sizeOf60
  v37 := Tryd.zeroValue60
  t70 := Tryd.underlying90
  a70 := Tryd.isAgg90
  z70 := Tryd.sizeOf90
  v70 := Tryd.zeroValue90
  t72 := Tryd.underlying92
  a72 := Tryd.isAgg92
  z72 := Tryd.sizeOf92
  v72 := Tryd.zeroValue92
  t75 := Tryd.underlying95
  a75 := Tryd.isAgg95
  z75 := Tryd.sizeOf95
  v75 := Tryd.zeroValue95
  t76 := Tryd.underlying96
  a76 := Tryd.isAgg96
  z76 := Tryd.sizeOf96
  v76 := Tryd.zeroValue96
  t127 := Tryd.underlying133
  a127 := Tryd.isAgg133
  z127 := Tryd.sizeOf133
  v127 := Tryd.zeroValue133
  t164 := Tryd.underlying140
  a164 := Tryd.isAgg140
  z164 := Tryd.sizeOf140
  v164 := Tryd.zeroValue140 }
theorem Tryd.Builder_Extra_156 : Builder.Extra Tryd.prog Tryd.lays156_ren := {
  sizeBuilder := by kernel_rfl
  liesBuilder := by kernel_rfl
  t5 := Tryd.underlying5
  a5 := Tryd.isAgg5
  z5 := Tryd.sizeOf5
  v5 := Tryd.zeroValue5
  infoByte := by kernel_rfl
  cellsByte := by kernel_rfl
  sizeByte := by kernel_rfl
  neB5 := by decide }
open Go.RowKit in
/-- No element: the empty string; the world is as it was. (Whatever the slice's address and capacity: a nil slice too.) (LAID: no walk: one application.) -/
theorem Tryd.strings_Join_none (a : Option Addr) (c : Nat) (sep : ByteArray) (w : World) :
    Calls Tryd.prog 51 #[.slice a 0 c, .string sep] w fun e w' => e = .returned (.string ⟨#[]⟩) ∧ w' = w := Any.strings_Join_none Tryd.lays156 Tryd.Builder_Extra_156 a c sep w
open Go.RowKit in
/-- strings.Join: "Join concatenates the elements of its first argument to create a single string. The separator string sep is placed between elements in the resulting string.": HOWEVER MANY ELEMENTS. Below the heap's end the world is as it was. (LAID: no walk: one application.) -/
theorem Tryd.strings_Join (bk o c : Nat) (xs : List ByteArray) (sep : ByteArray) (w : World) (hcells : ∀ (j : Nat) x, xs[j]? = some x → w.cell? ⟨bk, o + j, none⟩ = some (.string x)) (hbk : bk < w.heap.size) (hN : xs.length ≤ 140737488355328) (hcap : xs.length ≤ c) (hlen : (Lib.join (xs.map (·.data.toList)) sep.data.toList).length ≤ 140737488355328) :
    Calls Tryd.prog 51 #[.slice (some ⟨bk, o, none⟩) xs.length c, .string sep] w fun e w' => e = .returned (.string ⟨(Lib.join (xs.map (·.data.toList)) sep.data.toList).toArray⟩) ∧ Below w.heap.size w w' := Any.strings_Join Tryd.lays156 Tryd.Builder_Extra_156 bk o c xs sep w hcells hbk hN hcap hlen
def Tryd.lays160_ren : Go.Shelf.Ren := ⟨fun | 160 => 52 | 232 => 74 | 231 => 73 | 227 => 75 | 234 => 77 | 233 => 76 | 236 => 79 | 235 => 78 | 228 => 99 | 271 => 102 | 151 => 101 | 197 => 100 | 120 => 110 | 152 => 109 | 260 => 108 | 137 => 111 | 119 => 112 | 224 => 113 | 225 => 114 | 217 => 115 | 266 => 116 | n => n, fun | 9 => 9 | 4 => 4 | 3 => 3 | 5 => 5 | 117 => 103 | 116 => 102 | 0 => 0 | 124 => 106 | 21 => 21 | 105 => 135 | 46 => 67 | 119 => 144 | 139 => 147 | 138 => 146 | n => n, fun | 3 => 1 | 4 => 2 | n => n⟩
theorem Tryd.lays160 : Go.Proofs.Lays.n160 Tryd.prog Tryd.lays160_ren := {
  mixed := by kernel_rfl
  f119 := Tryd.func112.trans (congrArg some (by kernel_rfl))
  f120 := Tryd.func110.trans (congrArg some (by kernel_rfl))
  f137 := Tryd.func111.trans (congrArg some (by kernel_rfl))
  f151 := Tryd.func101.trans (congrArg some (by kernel_rfl))
  f152 := Tryd.func109.trans (congrArg some (by kernel_rfl))
  f160 := Tryd.func52.trans (congrArg some (by kernel_rfl))
  f197 := Tryd.func100.trans (congrArg some (by kernel_rfl))
  f217 := Tryd.func115.trans (congrArg some (by kernel_rfl))
  f224 := Tryd.func113.trans (congrArg some (by kernel_rfl))
  f225 := Tryd.func114.trans (congrArg some (by kernel_rfl))
  f227 := Tryd.func75.trans (congrArg some (by kernel_rfl))
  f228 := Tryd.func99.trans (congrArg some (by kernel_rfl))
  f231 := Tryd.func73.trans (congrArg some (by kernel_rfl))
  f232 := Tryd.func74.trans (congrArg some (by kernel_rfl))
  f233 := Tryd.func76.trans (congrArg some (by kernel_rfl))
  f234 := Tryd.func77.trans (congrArg some (by kernel_rfl))
  f235 := Tryd.func78.trans (congrArg some (by kernel_rfl))
  f236 := Tryd.func79.trans (congrArg some (by kernel_rfl))
  f260 := Tryd.func108.trans (congrArg some (by kernel_rfl))
  f266 := Tryd.func116.trans (congrArg some (by kernel_rfl))
  f271 := Tryd.func102.trans (congrArg some (by kernel_rfl))
  t0 := Tryd.underlying0
  a0 := Tryd.isAgg0
  z0 := Tryd.sizeOf0
  v0 := Tryd.zeroValue0
  t3 := Tryd.underlying3
  a3 := Tryd.isAgg3
  z3 := Tryd.sizeOf3
  v3 := Tryd.zeroValue3
  t4 := Tryd.underlying4
  a4 := Tryd.isAgg4
  z4 := Tryd.sizeOf4
  v4 := Tryd.zeroValue4
  t5 := Tryd.underlying5
  a5 := Tryd.isAgg5
  z5 := Tryd.sizeOf5
  v5 := Tryd.zeroValue5
  t9 := Tryd.underlying9
  a9 := Tryd.isAgg9
  z9 := Tryd.sizeOf9
  v9 := Tryd.zeroValue9
  t21 := Tryd.underlying21
  a21 := Tryd.isAgg21
  z21 := Tryd.sizeOf21
  v21 := Tryd.zeroValue21
  t46 := Tryd.underlying67
  a46 := Tryd.isAgg67
  z46 := Tryd.sizeOf67
  v46 := Tryd.zeroValue67
  t105 := Tryd.underlying135
  a105 := Tryd.isAgg135
  z105 := Tryd.sizeOf135
  v105 := Tryd.zeroValue135
  t116 := Tryd.underlying102
  a116 := Tryd.isAgg102
  z116 := Tryd.sizeOf102
  t117 := Tryd.underlying103
  a117 := Tryd.isAgg103
  z117 := Tryd.sizeOf103
  v117 := Tryd.zeroValue103
  t119 := Tryd.underlying144
  a119 := Tryd.isAgg144
  z119 := Tryd.sizeOf144
  t124 := Tryd.underlying106
  a124 := Tryd.isAgg106
  z124 := Tryd.sizeOf106
  v124 := Tryd.zeroValue106
  t138 := Tryd.underlying146
  a138 := Tryd.isAgg146
  z138 := Tryd.sizeOf146
  v138 := Tryd.zeroValue146
  t139 := Tryd.underlying147
  a139 := Tryd.isAgg147
  z139 := Tryd.sizeOf147
  v139 := Tryd.zeroValue147
  g3 := by kernel_rfl
  g4 := by kernel_rfl }
open Go.RowKit in
/-- strings.Trim: "Trim returns a slice of the string s with all leading and trailing Unicode code points contained in cutset removed.": AT A cutset OF ONE ASCII BYTE. THE WORLD BEHIND IT: as it was, or (where s is not empty) with ONE DRAW MORE off the tape: the statement 'return trimLeftByte(trimRightByte(s, c), c)' draws its order of evaluation. (LAID: no walk: one application.) -/
theorem Tryd.strings_Trim_one (s : ByteArray) (c : UInt8) (hc : c.toNat < 128) (w : World) (hs : s.size ≤ 9223372036854775807) :
    Calls Tryd.prog 52 #[.string s, .string ⟨#[c]⟩] w fun e w' => e = .returned (.string ⟨(Lib.trimB s.data.toList c).toArray⟩) ∧ (w' = w ∨ w' = w.drew) := Any.strings_Trim_one Tryd.lays160 s c hc w hs
def Tryd.lays105_ren : Go.Shelf.Ren := ⟨fun | 105 => 48 | 212 => 67 | 99 => 68 | 165 => 69 | 166 => 70 | 170 => 71 | 169 => 72 | 263 => 94 | 264 => 95 | 206 => 96 | 240 => 97 | 241 => 98 | 276 => 106 | 277 => 107 | n => n, fun | 9 => 9 | 3 => 3 | 4 => 4 | 20 => 20 | 0 => 0 | 46 => 67 | 109 => 87 | 5 => 5 | 72 => 92 | 76 => 96 | 51 => 127 | 146 => 128 | 53 => 130 | 148 => 131 | 70 => 90 | 37 => 60 | 75 => 95 | 127 => 133 | 164 => 140 | 80 => 99 | n => n, fun | n => n⟩
theorem Tryd.lays105 : Go.Proofs.Lays.n105 Tryd.prog Tryd.lays105_ren := {
  mixed := by kernel_rfl
  f99 := Tryd.func68.trans (congrArg some (by kernel_rfl))
  f105 := Tryd.func48.trans (congrArg some (by kernel_rfl))
  f165 := Tryd.func69.trans (congrArg some (by kernel_rfl))
  f166 := Tryd.func70.trans (congrArg some (by kernel_rfl))
  f169 := Tryd.func72.trans (congrArg some (by kernel_rfl))
  f170 := Tryd.func71.trans (congrArg some (by kernel_rfl))
  f206 := Tryd.func96.trans (congrArg some (by kernel_rfl))
  f212 := Tryd.func67.trans (congrArg some (by kernel_rfl))
  f240 := Tryd.func97.trans (congrArg some (by kernel_rfl))
  f241 := Tryd.func98.trans (congrArg some (by kernel_rfl))
  f263 := Tryd.func94.trans (congrArg some (by kernel_rfl))
  f264 := Tryd.func95.trans (congrArg some (by kernel_rfl))
  f276 := Tryd.func106.trans (congrArg some (by kernel_rfl))
  f277 := Tryd.func107.trans (congrArg some (by kernel_rfl))
  t0 := Tryd.underlying0
  a0 := Tryd.isAgg0
  z0 := Tryd.sizeOf0
  v0 := Tryd.zeroValue0
  t3 := Tryd.underlying3
  a3 := Tryd.isAgg3
  z3 := Tryd.sizeOf3
  v3 := Tryd.zeroValue3
  t4 := Tryd.underlying4
  a4 := Tryd.isAgg4
  z4 := Tryd.sizeOf4
  v4 := Tryd.zeroValue4
  t5 := Tryd.underlying5
  a5 := Tryd.isAgg5
  z5 := Tryd.sizeOf5
  v5 := Tryd.zeroValue5
  t9 := Tryd.underlying9
  a9 := Tryd.isAgg9
  z9 := Tryd.sizeOf9
  v9 := Tryd.zeroValue9
  t20 := Tryd.underlying20
  a20 := Tryd.isAgg20
  z20 := Tryd.sizeOf20
  v20 := Tryd.zeroValue20
  t37 := Tryd.underlying60
  a37 := Tryd.isAgg60
  z37 := Tryd.sizeOf60
  v37 := Tryd.zeroValue60
  t46 := Tryd.underlying67
  a46 := Tryd.isAgg67
  z46 := Tryd.sizeOf67
  v46 := Tryd.zeroValue67
  t51 := Tryd.underlying127
  a51 := Tryd.isAgg127
  z51 := Tryd.sizeOf127
  v51 := Tryd.zeroValue127
  t53 := Tryd.underlying130
  a53 := Tryd.isAgg130
  z53 := Tryd.sizeOf130
  v53 := Tryd.zeroValue130
  t70 := Tryd.underlying90
  a70 := Tryd.isAgg90
  z70 := Tryd.sizeOf90
  v70 := Tryd.zeroValue90
  t72 := Tryd.underlying92
  a72 := Tryd.isAgg92
  z72 := Tryd.sizeOf92
  v72 := Tryd.zeroValue92
  t75 := Tryd.underlying95
  a75 := Tryd.isAgg95
  z75 := Tryd.sizeOf95
  v75 := Tryd.zeroValue95
  t76 := Tryd.underlying96
  a76 := Tryd.isAgg96
  z76 := Tryd.sizeOf96
  v76 := Tryd.zeroValue96
  t109 := Tryd.underlying87
  a109 := Tryd.isAgg87
  z109 := Tryd.sizeOf87
  v109 := Tryd.zeroValue87
  t127 := Tryd.underlying133
  a127 := Tryd.isAgg133
  z127 := Tryd.sizeOf133
  v127 := Tryd.zeroValue133
  t146 := Tryd.underlying128
  a146 := Tryd.isAgg128
  z146 := Tryd.sizeOf128
  v146 := Tryd.zeroValue128
  t148 := Tryd.underlying131
  a148 := Tryd.isAgg131
  z148 := Tryd.sizeOf131
  v148 := Tryd.zeroValue131
  t164 := Tryd.underlying140
  a164 := Tryd.isAgg140
  z164 := Tryd.sizeOf140
  v164 := Tryd.zeroValue140 }
theorem Tryd.Builder_Extra_105 : Builder.Extra Tryd.prog Tryd.lays105_ren := {
  sizeBuilder := by kernel_rfl
  liesBuilder := by kernel_rfl
  t5 := Tryd.underlying5
  a5 := Tryd.isAgg5
  z5 := Tryd.sizeOf5
  v5 := Tryd.zeroValue5
  infoByte := by kernel_rfl
  cellsByte := by kernel_rfl
  sizeByte := by kernel_rfl
  neB5 := by decide }
open Go.RowKit Go.Lib in
/-- **strings.Repeat: count ≥ 0, the result within one allocation: count copies of s.** (LAID: no walk: one application.) -/
theorem Tryd.strings_Repeat (s : ByteArray) (c : Nat) (w : World) (hc : c ≤ 9223372036854775807) (hlen : s.size * c ≤ 140737488355328) :
    Calls Tryd.prog 48 #[.string s, .int .i64 c] w fun e w' => e = .returned (.string ⟨(Lib.repeatL s.data.toList c).toArray⟩) ∧ Below w.heap.size w w' := Any.strings_Repeat Tryd.lays105 Tryd.Builder_Extra_105 s c w hc hlen
def Tryd.laysSlJ14_ren : Go.Shelf.Ren := ⟨fun | 14 => 104 | 15 => 107 | n => n, fun | 26 => 107 | 22 => 60 | 3 => 3 | 4 => 4 | 0 => 0 | 9 => 9 | 20 => 20 | 5 => 5 | n => n, fun | n => n⟩
theorem Tryd.laysSlJ14 : Go.Proofs.SlLaysJ.n14 Tryd.prog Tryd.laysSlJ14_ren := {
  mixed := by kernel_rfl
  f14 := Tryd.func104.trans (congrArg some (by kernel_rfl))
  f15 := Tryd.func107.trans (congrArg some (by kernel_rfl))
  t0 := Tryd.underlying0
  a0 := Tryd.isAgg0
  z0 := Tryd.sizeOf0
  v0 := Tryd.zeroValue0
  t3 := Tryd.underlying3
  a3 := Tryd.isAgg3
  z3 := Tryd.sizeOf3
  v3 := Tryd.zeroValue3
  t4 := Tryd.underlying4
  a4 := Tryd.isAgg4
  z4 := Tryd.sizeOf4
  v4 := Tryd.zeroValue4
  t9 := Tryd.underlying9
  a9 := Tryd.isAgg9
  z9 := Tryd.sizeOf9
  v9 := Tryd.zeroValue9
  t20 := Tryd.underlying20
  a20 := Tryd.isAgg20
  z20 := Tryd.sizeOf20
  v20 := Tryd.zeroValue20
  t22 := Tryd.underlying60
  a22 := Tryd.isAgg60
  z22 := Tryd.sizeOf60
  v22 := Tryd.zeroValue60
  t26 := Tryd.underlying107
  a26 := Tryd.isAgg107
  z26 := Tryd.sizeOf107
  v26 := Tryd.zeroValue107
  t5 := Tryd.underlying5
  z5 := Tryd.sizeOf5
  i5 := by kernel_rfl }
open Go.RowKit Go.Lib in
theorem Tryd.bytes_Join_many (b o n c : Nat) (vs : List Value) (ls : List (List UInt8)) (sv : Value) (sep : List UInt8) (w : World) (hn : ls.length = n) (h2 : 2 ≤ n) (hP : Lib.PartsAt w ⟨b, o, none⟩ vs ls) (hcap : n ≤ c) (hS : Lib.HoldsBytes w sv sep) (hn47 : n ≤ 140737488355328) (hlen : Lib.lens ls + sep.length * (n - 1) ≤ 140737488355328) :
    Calls Tryd.prog 104 #[.slice (some ⟨b, o, none⟩) n c, sv] w fun e w' => ∃ v', e = .returned v' ∧ Lib.FreshBytes w.heap.size w' v' (Lib.join ls sep) ∧ Below w.heap.size w w' := Any.bytes_Join_many Tryd.laysSlJ14 b o n c vs ls sv sep w hn h2 hP hcap hS hn47 hlen
open Go.RowKit Go.Lib in
/-- bytes.Join of ONE part, of one byte or more: 'append([]byte(nil), s[0]...)': a new []byte of its bytes; sep is not looked at. (LAID: no walk: one application.) -/
theorem Tryd.bytes_Join_one (b o c : Nat) (ad0 : Addr) (c0 : Nat) (l0 : List UInt8) (sv : Value) (w : World) (hcell : w.cell? ⟨b, o, none⟩ = some (.slice (some ad0) l0.length c0)) (hc : ∀ (i : Nat) x, l0[i]? = some x → w.cell? (ad0.add i) = some (.int .u8 (x.toNat : Int))) (h0 : 0 < l0.length) (hs : l0.length ≤ 140737488355328) :
    Calls Tryd.prog 104 #[.slice (some ⟨b, o, none⟩) 1 c, sv] w fun e w' => ∃ v', e = .returned v' ∧ Lib.FreshBytes w.heap.size w' v' l0 ∧ Below w.heap.size w w' := Any.bytes_Join_one Tryd.laysSlJ14 b o c ad0 c0 l0 sv w hcell hc h0 hs
open Go.RowKit Go.Lib in
/-- bytes.Join of ONE part of no byte (nil or not): 'append([]byte(nil), s[0]...)' IS nil; the world is as it was. (LAID: no walk: one application.) -/
theorem Tryd.bytes_Join_one_empty (b o c : Nat) (p0 : Option Addr) (c0 : Nat) (sv : Value) (w : World) (hcell : w.cell? ⟨b, o, none⟩ = some (.slice p0 0 c0)) :
    Calls Tryd.prog 104 #[.slice (some ⟨b, o, none⟩) 1 c, sv] w fun e w' => e = .returned (.slice none 0 0) ∧ w' = w := Any.bytes_Join_one_empty Tryd.laysSlJ14 b o c p0 c0 sv w hcell
end Go.Proofs
namespace Go.Proofs.YtegmmefijihdeaaDoor.Grd
open Go.RowKit Go.Proofs.YtegmmefijihdeaaDoorW.PrintWords Go.Proofs.YtegmmefijihdeaaDoorW.PrintLast Go.Proofs.YtegmmefijihdeaaDoorW.PrintMore Go.Proofs.YtegmmefijihdeaaDoor.Gf Go.Proofs.YtegmmefijihdeaaDoor.Rowb Go.Proofs.YtegmmefijihdeaaDoor.Fld
open Go.Lib (byteCells byteCells_length)
set_option linter.unusedVariables false
set_option linter.unusedSimpArgs false
def rowV (p : Nat × Nat) (l : List UInt8) : Value := .slice (some ⟨p.1, 0, none⟩) l.length p.2
/-- A grid: the rows' blocks (and room) ps, its rows L. -/
structure GridAt (w : World) (base : Nat) (v : Value) (ps : List (Nat × Nat)) (L : Grid) : Prop where
  outer : w.ownsRow base 60 1 v L.length (List.zipWith rowV ps L)
  len : ps.length = L.length
  row : ∀ (i : Nat) (p : Nat × Nat) (l : List UInt8), ps[i]? = some p → L[i]? = some l → base ≤ p.1 ∧ l.length ≤ p.2 ∧ RowS w p.1 l
  nodup : (ps.map (·.1)).Nodup
theorem own_block_type {w : World} {base : Nat} {e t : TypeId} {size n g : Nat} {v : Value} {xs : List Value} (h : w.ownsRow base e size v n xs) {cs : Array Value} (hg : w.heap[g]? = some (.cells cs t (0, 0))) (hne : e ≠ t) : some g ≠ v.ownBlock := own_ne h hg hne
theorem row_ne_own {w : World} {base n g : Nat} {l : List UInt8} {v : Value} {xs : List Value} (h : RowS w g l) (ho : w.ownsRow base 60 1 v n xs) : some g ≠ v.ownBlock := by
  obtain ⟨sp, fr, h, _⟩ := h
  rcases ho.2 with ⟨rfl, _⟩ | ⟨g', cap, cur, rfl, _, hh, _⟩
  · simp [Value.ownBlock]
  · intro e
    have e' : g = g' := by injection e
    subst e'
    rw [h] at hh
    injection hh with hh
    injection hh with _ hh _
    exact absurd hh (by decide)
theorem GridAt.below {w w' : World} {base : Nat} {v : Value} {ps : List (Nat × Nat)} {L : Grid} (h : GridAt w base v ps L) (hb : Below w.heap.size w w') : GridAt w' base v ps L :=
  ⟨pw_own_below h.outer hb, h.len, fun i p l h1 h2 => ⟨(h.row i p l h1 h2).1, (h.row i p l h1 h2).2.1, (h.row i p l h1 h2).2.2.below hb⟩, h.nodup⟩
theorem GridAt.lower {w : World} {base base' : Nat} {v : Value} {ps : List (Nat × Nat)} {L : Grid} (h : GridAt w base v ps L) (hb : base' ≤ base) : GridAt w base' v ps L :=
  ⟨⟨h.outer.1, h.outer.2.imp_right (fun ⟨g, cap, cur, h1, h2, h3⟩ => ⟨g, cap, cur, h1, Nat.le_trans hb h2, h3⟩)⟩, h.len, fun i p l h1 h2 => ⟨Nat.le_trans hb (h.row i p l h1 h2).1, (h.row i p l h1 h2).2⟩, h.nodup⟩
theorem zip_row {ps : List (Nat × Nat)} {L : Grid} (hl : ps.length = L.length) (i : Nat) (hi : i < L.length) : (List.zipWith rowV ps L)[i]? = some (rowV (ps[i]'(by omega)) L[i]) := by
  rw [List.getElem?_zipWith, List.getElem?_eq_getElem (by omega), List.getElem?_eq_getElem hi]
/-! one -/
def unitRow (n i : Nat) : List UInt8 := (List.range n).map fun j => if i = j then 1 else 0
theorem unit_set (n i : Nat) (hi : i < n) : (zeros n).set i 1 = unitRow n i := by
  apply List.ext_getElem
  · simp [zeros, unitRow]
  · intro j h1 h2
    rw [List.getElem_set]
    simp [zeros, unitRow]
theorem one_eq (n : Nat) : oneG n = (List.range n).map (unitRow n) := rfl
def nilV : Value := .slice none 0 0
/-- The outer row behind i rounds. -/
def oneOuter (b n i : Nat) : Array Value := ((List.range n).map fun j => if j < i then .slice (some ⟨b + 1 + j, 0, none⟩) n n else nilV).toArray
theorem oneOuter_at (b n i j : Nat) (hj : j < n) : (oneOuter b n i)[j]? = some (if j < i then .slice (some ⟨b + 1 + j, 0, none⟩) n n else nilV) := by
  unfold oneOuter
  rw [List.getElem?_toArray]
  simp [hj]
theorem oneOuter_step (b n i : Nat) (hi : i < n) : (oneOuter b n i).setIfInBounds i (.slice (some ⟨b + 1 + i, 0, none⟩) n n) = oneOuter b n (i + 1) := by
  apply Array.ext_getElem?
  intro j
  by_cases hj : j < n
  · rw [Array.getElem?_setIfInBounds, oneOuter_at b n i j hj, oneOuter_at b n (i + 1) j hj]
    by_cases e : i = j
    · subst e
      rw [if_pos rfl, if_pos (by unfold oneOuter; simpa using hi), if_pos (by omega)]
    · rw [if_neg e]
      by_cases h : j < i
      · rw [if_pos h, if_pos (by omega)]
      · rw [if_neg h, if_neg (by omega)]
  · rw [Array.getElem?_eq_none (by simp [oneOuter]; omega), Array.getElem?_eq_none (by simp [oneOuter]; omega)]
theorem info_row : (Tryd.prog.info? 60).map (fun i => (i.zero, i.size, i.bytes)) = some (some (.slice none 0 0), 1, 24) := by kernel_rfl
theorem run_make_rows (n : Nat) (hn : n ≤ 255) (b : Nat) (w : World) : (Instr.makeSlice 108 (.int .i64 (n : Int)) (.int .i64 (n : Int))).run Tryd.prog w = .ok (.slice (some ⟨w.heap.size, 0, none⟩) n n) (w.alloc (.cells (oneOuter b n 0) 60)) := by
  have := run_make_row' (P := Tryd.prog) 108 60 (.slice none 0 0) 24 Tryd.underlying108 info_row rfl .i64 .i64 n (by omega) (by omega) w
  have e : madeCells #[(Value.slice none 0 0)] n = oneOuter b n 0 := by
    apply Array.ext_getElem?
    intro j
    by_cases hj : j < n
    · rw [oneOuter_at b n 0 j hj, if_neg (by omega)]
      simp [madeCells, hj, Nat.mod_one, nilV]
    · rw [Array.getElem?_eq_none (by simp [madeCells]; omega), Array.getElem?_eq_none (by simp [oneOuter]; omega)]
  rw [e] at this
  exact this
theorem one_grid {W : World} {b n : Nat} (hn : n ≤ 255) (hb : W.heap[b]? = some (.cells (oneOuter b n n) 60 (0, 0))) (hr : ∀ j, j < n → RowB W (b + 1 + j) (unitRow n j)) :
    GridAt W b (.slice (some ⟨b, 0, none⟩) n n) ((List.range n).map fun j => (b + 1 + j, n)) (oneG n) := by
  have hlen : (oneG n).length = n := by simp [oneG]
  refine ⟨⟨by simp [hlen], .inr ⟨b, n, _, by rw [hlen], Nat.le_refl _, hb, by omega, by unfold maxLen; omega, by simp [oneOuter], ?_⟩⟩, by simp [oneG], fun i p l h1 h2 => ?_, ?_⟩
  · apply List.ext_getElem?
    intro j
    unfold oneOuter oneG
    rw [List.getElem?_zipWith]
    by_cases hj : j < n
    · simp [hj, rowV]
    · simp [hj]
  · have hi : i < n := by
      have := (List.getElem?_eq_some_iff.1 h2).1
      omega
    simp [hi] at h1
    simp [oneG, hi] at h2
    subst h1 h2
    exact ⟨by simp; omega, by simp, RowS.of (hr i hi)⟩
  · rw [List.map_map]
    refine nodup_map_of (fun a _ c _ e => ?_) (nodup_range n)
    simp at e
    exact e
def IsOne (n : Nat) (w : World) (e : Ending) (w' : World) : Prop := ∃ v ps, e = .returned v ∧ GridAt w' w.heap.size v ps (oneG n) ∧ (∀ p : Nat × Nat, p ∈ ps → p.2 = n) ∧ Below w.heap.size w w'
set_option maxRecDepth 100000 in
set_option maxHeartbeats 1000000 in
theorem one_walk (w : World) (n : Nat) (hn : n ≤ 255) : Calls Tryd.prog 80 #[.int .i64 (n : Int)] w (IsOne n w) := by
  have hmk := run_make_rows n hn w.heap.size
  have hmb := run_make_bytes n (by omega)
  go_enter Tryd.func80, Tryd.ntmps80
  go_wp2
  go_loopw [4, 9] (fun x i W => ∃ k : Nat, k ≤ n ∧ i = .int .i64 (k : Int) ∧ W.heap.size = w.heap.size + 1 + k ∧ W.heap[w.heap.size]? = some (.cells (oneOuter w.heap.size n k) 60 (0, 0)) ∧ (∀ j, j < k → RowB W (w.heap.size + 1 + j) (unitRow n j)) ∧ Below w.heap.size w W) (fun _ i _ => n - (intOf i).toNat)
  case atStart => exact ⟨0, by omega, rfl, by simp, blk_new _ _, fun j hj => by omega, (Below.refl _ _).alloc (Nat.le_refl _) _⟩
  case round =>
    obtain ⟨k, hk, rfl, hs, hb, hr, hB⟩ := hrel
    by_cases hlt : k < n
    · obtain ⟨W1, hW1⟩ : ∃ W1, W1 = wr.alloc (.cells (byteCells (zeros n)).toArray 5) := ⟨_, rfl⟩
      have hz : W1.heap.size = w.heap.size + 1 + (k + 1) := by rw [hW1]; simp; omega
      have hb1 : W1.heap[w.heap.size]? = some (.cells (oneOuter w.heap.size n k) 60 (0, 0)) := by rw [hW1]; exact blk_alloc hb _
      have hn1 : RowB W1 (w.heap.size + 1 + k) (zeros n) := by rw [hW1, ← hs]; exact blk_new _ _
      have hr1 : ∀ j, j < k → RowB W1 (w.heap.size + 1 + j) (unitRow n j) := fun j hj => by rw [hW1]; exact blk_alloc (hr j hj) _
      have hB1 : Below w.heap.size w W1 := by rw [hW1]; exact hB.alloc (by omega) _
      have hmk1 : (Instr.makeSlice 60 (.int .i64 (n : Int)) (.int .i64 (n : Int))).run Tryd.prog wr = .ok (.slice (some ⟨w.heap.size + 1 + k, 0, none⟩) n n) W1 := by rw [hmb, hW1, hs]
      have c0 : W1.cell? ⟨w.heap.size, k, none⟩ = some nilV := (blk_cell hb1 k).trans (by rw [oneOuter_at _ _ _ _ hlt, if_neg (by omega)])
      have f0 := blk_frozen hb1 k
      have c1 := hn1.cell k (by rw [zeros_len]; exact hlt)
      have f1 := hn1.frozen k
      have HN := Aside0.mk (And.intro hn1 (And.intro hr1 (And.intro hb1 (And.intro hB1 hz))))
      clear hW1 hmk hmb hb hr hB hn1 hr1 hb1 hB1 hs hz
      go_wp2
      obtain ⟨hn1, hr1, hb1, hB1, hz⟩ := HN.out
      have hb2 : ((W1.setCell ⟨w.heap.size, k, none⟩ (.slice (some ⟨w.heap.size + 1 + k, 0, none⟩) n n)).setCell ⟨w.heap.size + 1 + k, k, none⟩ (.int .u8 1)).heap[w.heap.size]? = some (.cells (oneOuter w.heap.size n (k + 1)) 60 (0, 0)) :=
        blk_far (blk_put hb1 k _ (oneOuter_step _ _ _ hlt)) (by show w.heap.size ≠ w.heap.size + 1 + k; omega) _
      have hrow : ∀ j, j < k + 1 → RowB ((W1.setCell ⟨w.heap.size, k, none⟩ (.slice (some ⟨w.heap.size + 1 + k, 0, none⟩) n n)).setCell ⟨w.heap.size + 1 + k, k, none⟩ (.int .u8 1)) (w.heap.size + 1 + j) (unitRow n j) := by
        intro j hj
        by_cases e : j = k
        · subst e
          rw [← unit_set n j hlt]
          exact (hn1.far (p := ⟨w.heap.size, j, none⟩) (by show w.heap.size + 1 + j ≠ w.heap.size; omega) _).put j 1
        · exact ((hr1 j (by omega)).far (p := ⟨w.heap.size, k, none⟩) (by show w.heap.size + 1 + j ≠ w.heap.size; omega) _).far (by show w.heap.size + 1 + j ≠ w.heap.size + 1 + k; omega) _
      have hB2 : Below w.heap.size w ((W1.setCell ⟨w.heap.size, k, none⟩ (.slice (some ⟨w.heap.size + 1 + k, 0, none⟩) n n)).setCell ⟨w.heap.size + 1 + k, k, none⟩ (.int .u8 1)) :=
        (hB1.setCell (Nat.le_refl _) _).setCell (by show w.heap.size ≤ w.heap.size + 1 + k; omega) _
      go_roundw
      case rel => exact ⟨k + 1, by omega, by go_num, by simp; omega, hb2, hrow, hB2⟩
      case measure => simp [intOf]; omega
    · obtain rfl : k = n := by omega
      have HG := Aside0.mk (one_grid hn hb hr)
      have HB := Aside0.mk hB
      clear hb hr hB hmk hmb
      go_wp2
      go_ret
      exact ⟨_, _, rfl, HG.out, fun p hp => by obtain ⟨j, _, rfl⟩ := List.mem_map.1 hp; rfl, HB.out⟩
/-! The matrix of a grid. -/
theorem GridAt.form {w : World} {base : Nat} {v : Value} {ps : List (Nat × Nat)} {L : Grid} (h : GridAt w base v ps L) (hp : 0 < L.length) :
    ∃ g cap cur, v = .slice (some ⟨g, 0, none⟩) L.length cap ∧ base ≤ g ∧ w.heap[g]? = some (.cells cur 60 (0, 0)) ∧ L.length ≤ cap ∧ ∀ i (hi : i < L.length), w.cell? ⟨g, i, none⟩ = some (rowV (ps[i]'(by have := h.len; omega)) L[i]) := by
  rcases h.outer.2 with ⟨_, h0⟩ | ⟨g, cap, cur, hv, hb, hh, hn, hc, hs, ht⟩
  · omega
  · refine ⟨g, cap, cur, hv, hb, hh, hn, fun i hi => ?_⟩
    have h1 := zip_row h.len i hi
    rw [← ht, List.getElem?_take] at h1
    rw [if_pos (by omega)] at h1
    rw [blk_cell hh i, ← Array.getElem?_toList]
    exact h1
theorem lens_same {c : Nat} : ∀ L : Grid, (∀ r, r ∈ L → r.length = c) → Lib.lens L = L.length * c
  | [], _ => by simp [Lib.lens]
  | r :: L, h => by
    have ih := lens_same L (fun x hx => h x (List.mem_cons_of_mem _ hx))
    have h1 := h r List.mem_cons_self
    unfold Lib.lens at ih ⊢
    rw [List.map_cons, List.sum_cons, ih, h1, List.length_cons, Nat.succ_mul, Nat.add_comm]
theorem join_flat (L : Grid) : Lib.join L [] = L.flatten := by
  cases L with
  | nil => rfl
  | cons x r =>
    rw [Lib.join_cons]
    unfold Lib.joinTail
    simp
theorem add_off (b i : Nat) : (⟨b, 0, none⟩ : Addr).add i = ⟨b, i, none⟩ := by unfold Addr.add; split <;> simp_all
def Joined (W : World) (L : Grid) (e : Ending) (w' : World) : Prop := ∃ v', e = .returned v' ∧ (convert 60 9 v').run Tryd.prog w' = .ok (.string ⟨L.flatten.toArray⟩) w' ∧ Below W.heap.size W w'
theorem fresh_text {B : Nat} {w' : World} {v' : Value} {l : List UInt8} (h : Lib.FreshBytes B w' v' l) : (convert 60 9 v').run Tryd.prog w' = .ok (.string ⟨l.toArray⟩) w' := by
  obtain ⟨g, cap, zs, rfl, _, hc, _, hz, hb, hl, hcell, _⟩ := h
  refine run_convert_bytes_back (P := Tryd.prog) w' 60 9 5 ⟨g, 0, none⟩ cap l Tryd.underlying60 Tryd.underlying5 Tryd.underlying9 (fun j hj => ?_)
  rw [add_off, hcell j (by omega)]
  have hj' : j < zs.length := by omega
  have : l[j] = UInt8.ofNat (zs[j]).toNat := by
    have e : l[j]? = some (UInt8.ofNat (zs[j]).toNat) := by
      rw [← hl]
      unfold Lib.bytesOf
      rw [List.getElem?_map, List.getElem?_take, if_pos hj, List.getElem?_eq_getElem hj']
      rfl
    rw [List.getElem?_eq_getElem hj] at e
    injection e
  have hr := hb zs[j] (List.getElem_mem hj')
  rw [this, UInt8.toNat_ofNat', Nat.mod_eq_of_lt (by omega)]
  rw [List.getD_eq_getElem?_getD, List.getElem?_eq_getElem hj']
  simp only [Option.getD_some]
  congr 2
  omega
theorem join_grid {W : World} {base g cap c : Nat} {ps : List (Nat × Nat)} {L : Grid} (h : GridAt W base (.slice (some ⟨g, 0, none⟩) L.length cap) ps L) (hr : ∀ r, r ∈ L → r.length = c) (hc0 : 0 < c) (hc : c ≤ 255) (h1 : 1 ≤ L.length) (h2 : L.length ≤ 255) :
    Calls Tryd.prog 104 #[.slice (some ⟨g, 0, none⟩) L.length cap, .slice none 0 0] W (Joined W L) := by
  obtain ⟨g', cap', cur, hv, _, _, hle, hcell⟩ := h.form h1
  injection hv with hv1 _ hv2
  injection hv1 with hv1
  injection hv1 with hv1
  subst hv1 hv2
  have hrow := fun i (hi : i < L.length) => h.row i _ _ (List.getElem?_eq_getElem (by have := h.len; omega)) (List.getElem?_eq_getElem hi)
  by_cases e : L.length = 1
  · obtain ⟨l, rfl⟩ := List.length_eq_one_iff.1 e
    have hl := hr l List.mem_cons_self
    have hb := hrow 0 (by simp)
    have := Tryd.bytes_Join_one g 0 cap ⟨(ps[0]'(by have := h.len; simp at this; omega)).1, 0, none⟩ (ps[0]'(by have := h.len; simp at this; omega)).2 l (.slice none 0 0) W (hcell 0 (by simp)) (fun i x hx => by
      obtain ⟨hi, rfl⟩ := List.getElem?_eq_some_iff.1 hx
      rw [add_off]
      exact hb.2.2.cell i hi) (by omega) (by omega)
    exact this.mono fun e w' ⟨v', he, hf, hB⟩ => ⟨v', he, by simpa using fresh_text hf, hB⟩
  · have := Tryd.bytes_Join_many g 0 L.length cap (List.zipWith rowV ps L) L (.slice none 0 0) [] W rfl (by omega) ⟨by rw [List.length_zipWith, h.len, Nat.min_self], fun i v hi => by
        have hlt : i < L.length := by
          have := (List.getElem?_eq_some_iff.1 hi).1
          rw [List.length_zipWith, h.len, Nat.min_self] at this
          exact this
        rw [zip_row h.len i hlt] at hi
        injection hi with hi
        subst hi
        rw [add_off]
        exact hcell i hlt, fun i v l hi hl => by
        have hlt := (List.getElem?_eq_some_iff.1 hl).1
        rw [zip_row h.len i hlt] at hi
        injection hi with hi
        subst hi
        obtain ⟨_, rfl⟩ := List.getElem?_eq_some_iff.1 hl
        exact ⟨_, _, rfl, (fun h => by cases h), fun a ha j x hx => by
          injection ha with ha
          subst ha
          obtain ⟨hj, rfl⟩ := List.getElem?_eq_some_iff.1 hx
          rw [add_off]
          exact (hrow i hlt).2.2.cell j hj⟩⟩ hle ⟨none, 0, rfl, fun _ => rfl, fun a ha => by cases ha⟩ (by omega) (by
        rw [lens_same L hr]
        have := Nat.mul_le_mul h2 hc
        simp
        omega)
    rw [join_flat] at this
    exact this.mono fun e w' ⟨v', he, hf, hB⟩ => ⟨v', he, fresh_text hf, hB⟩
def matV (r c : Nat) (s : List UInt8) : Value := .agg #[.int .i64 (r : Int), .int .i64 (c : Int), .string ⟨s.toArray⟩]
set_option maxRecDepth 100000 in
set_option maxHeartbeats 1000000 in
theorem matrix_walk {w : World} {base c : Nat} {v : Value} {ps : List (Nat × Nat)} {L : Grid} (h : GridAt w base v ps L) (hr : ∀ r, r ∈ L → r.length = c) (hc0 : 0 < c) (hc : c ≤ 255) (h1 : 1 ≤ L.length) (h2 : L.length ≤ 255) :
    Calls Tryd.prog 82 #[v] w fun e w' => e = .returned (matV L.length c L.flatten) ∧ Below w.heap.size w w' := by
  obtain ⟨g, cap, cur, rfl, hbg, hh, hle, hcell⟩ := h.form h1
  have c0 := hcell 0 h1
  have hl0 : L[0].length = c := hr _ (List.getElem_mem h1)
  unfold rowV at c0
  rw [hl0] at c0
  have HJ : Aside0 (∀ W, Below w.heap.size w W → Calls Tryd.prog 104 #[.slice (some ⟨g, 0, none⟩) L.length cap, .slice none 0 0] W (Joined W L)) := ⟨fun W hB => join_grid (h.below hB) hr hc0 hc h1 h2⟩
  have hlt : g < w.heap.size := blk_lt hh
  generalize (ps[0]'(by have := h.len; omega)) = p0 at *
  clear hcell hr hh hbg h hl0
  generalize L.length = n at *
  obtain ⟨b1, b2⟩ := p0
  go_enter Tryd.func82, Tryd.ntmps82
  go_wp2
  have hb0 : (w.alloc (.cells #[.int .i64 0, .int .i64 0, .string ⟨#[]⟩] 74)).drew.heap[w.heap.size]? = some (.cells #[.int .i64 0, .int .i64 0, .string ⟨#[]⟩] 74 (0, 0)) := blk_new _ _
  have s0 : (w.alloc (.cells #[.int .i64 0, .int .i64 0, .string ⟨#[]⟩] 74)).drew.cell? ⟨g, 0, none⟩ = some (.slice (some ⟨b1, 0, none⟩) c b2) := ((below_drew1 ((Below.refl _ _).alloc (Nat.le_refl _) _) : Below w.heap.size w _).cell (p := ⟨g, 0, none⟩) hlt).trans c0
  have HB0 : Aside0 (Below w.heap.size w (w.alloc (.cells #[.int .i64 0, .int .i64 0, .string ⟨#[]⟩] 74)).drew) := ⟨below_drew1 ((Below.refl _ _).alloc (Nat.le_refl _) _)⟩
  have HC0 := Aside0.mk hb0
  clear hb0
  have i1 : (0 : Int) < (n : Int) := by omega
  have i2 : 0 < n := h1
  have hne := World.new_ne w ⟨g, 0, none⟩ c0
  go_region_law (first
    | (go_simp; go_at_call 104; refine (HJ.out _ HB0.out).mono ?_; rintro e w1 ⟨v', rfl, hconv, hb1⟩; have HB1 : Aside0 (Below w.heap.size w w1) := ⟨HB0.out.trans (hb1.mono HB0.out.size)⟩; have HC1 := Aside0.mk (blk_below HC0.out hb1); have s1 := (hb1.cell (p := ⟨g, 0, none⟩) (World.block_lt_of_cell? _ _ s0)).trans s0; have d0 := blk_cell HC1.out 0; have d1 := blk_cell HC1.out 1; have d2 := blk_cell HC1.out 2; have f0 := blk_frozen HC1.out 0; have f1 := blk_frozen HC1.out 1; have f2 := blk_frozen HC1.out 2; clear hb1))
  go_wp2
  all_goals
    refine bodyPost_ret (results_cell_row rfl _ _ w.heap.size 74 _ (0, 0) _ rfl (blk_put (blk_put (blk_put HC1.out 0 _ rfl) 1 _ rfl) 2 _ rfl) Tryd.underlying74 rfl (by kernel_rfl)) rfl ?_
    exact ⟨rfl, ((HB1.out.setCell (Nat.le_refl _) _).setCell (Nat.le_refl _) _).setCell (Nat.le_refl _) _⟩
end Go.Proofs.YtegmmefijihdeaaDoor.Grd
namespace Go.Proofs.YtegmmefijihdeaaDoor.Grd
open Go.RowKit Go.Proofs.YtegmmefijihdeaaDoorW.PrintWords Go.Proofs.YtegmmefijihdeaaDoorW.PrintLast Go.Proofs.YtegmmefijihdeaaDoorW.PrintMore Go.Proofs.YtegmmefijihdeaaDoor.Gf Go.Proofs.YtegmmefijihdeaaDoor.Rowb Go.Proofs.YtegmmefijihdeaaDoor.Fld
open Go.Lib (byteCells byteCells_length)
set_option linter.unusedVariables false
set_option linter.unusedSimpArgs false
theorem GridAt.snoc {W w1 : World} {base b cap : Nat} {v v1 : Value} {ps : List (Nat × Nat)} {L : Grid} {l : List UInt8} (h : GridAt W base v ps L) (hb : base ≤ b) (hc : l.length ≤ cap) (hrow : RowS W b l) (hnew : ∀ p : Nat × Nat, p ∈ ps → p.1 ≠ b)
    (ho : w1.ownsRow base 60 1 v1 (L.length + 1) (List.zipWith rowV ps L ++ [rowV (b, cap) l])) (hg : W.grownBy w1 v.ownBlock) : GridAt w1 base v1 (ps ++ [(b, cap)]) (L ++ [l]) := by
  refine ⟨?_, by rw [List.length_append, List.length_append, h.len]; rfl, fun i p r h1 h2 => ?_, ?_⟩
  · rw [List.length_append, List.zipWith_append h.len]
    exact ho
  · by_cases hi : i < L.length
    · rw [List.getElem?_append_left (by rw [h.len]; exact hi)] at h1
      rw [List.getElem?_append_left hi] at h2
      obtain ⟨q1, q2, q3⟩ := h.row i p r h1 h2
      exact ⟨q1, q2, q3.grown hg (row_ne_own q3 h.outer)⟩
    · rw [List.getElem?_append_right (by rw [h.len]; omega), h.len] at h1
      rw [List.getElem?_append_right (by omega)] at h2
      have e : i - L.length = 0 := by
        have := (List.getElem?_eq_some_iff.1 h2).1
        simp at this
        omega
      rw [e] at h1 h2
      simp only [List.getElem?_cons_zero, Option.some.injEq] at h1 h2
      subst h1 h2
      exact ⟨hb, hc, hrow.grown hg (row_ne_own hrow h.outer)⟩
  · rw [List.map_append, List.nodup_append]
    refine ⟨h.nodup, by simp, fun a ha c hcm => ?_⟩
    obtain ⟨p, hp, rfl⟩ := List.mem_map.1 ha
    simp only [List.map_cons, List.map_nil, List.mem_singleton] at hcm
    subst hcm
    exact hnew p hp
theorem GridAt.lt {W : World} {base : Nat} {v : Value} {ps : List (Nat × Nat)} {L : Grid} (h : GridAt W base v ps L) (p : Nat × Nat) (hp : p ∈ ps) : p.1 < W.heap.size := by
  obtain ⟨i, hi, rfl⟩ := List.getElem_of_mem hp
  exact (h.row i _ _ (List.getElem?_eq_getElem hi) (List.getElem?_eq_getElem (by have := h.len; omega))).2.2.lt
def genRow (k r : Nat) : List UInt8 := (List.range k).map (genAt k r)
def genG (k m : Nat) : Grid := (List.range (k + m)).map (genRow k)
theorem genRow_len (k r : Nat) : (genRow k r).length = k := by simp [genRow]
theorem genG_len (k m : Nat) : (genG k m).length = k + m := by simp [genG]
theorem genG_zero (k : Nat) : oneG k = genG k 0 := by
  unfold oneG genG genRow genAt
  refine List.map_congr_left (fun i hi => List.map_congr_left (fun j _ => ?_))
  rw [if_pos (List.mem_range.1 hi)]
theorem genG_succ (k m : Nat) : genG k (m + 1) = genG k m ++ [genRow k (k + m)] := by
  unfold genG
  rw [← Nat.add_assoc, List.range_succ, List.map_append]
  rfl
/-- A row behind j rounds. -/
def genPart (k r j : Nat) : List UInt8 := (List.range j).map (genAt k r) ++ zeros (k - j)
theorem genPart_len (k r j : Nat) (h : j ≤ k) : (genPart k r j).length = k := by simp [genPart, zeros]; omega
theorem genPart_zero (k r : Nat) : genPart k r 0 = zeros k := by simp [genPart]
theorem genPart_full (k r : Nat) : genPart k r k = genRow k r := by simp [genPart, genRow, zeros]
theorem genPart_set (k r j : Nat) (h : j < k) : (genPart k r j).set j (genAt k r j) = genPart k r (j + 1) := by
  unfold genPart
  rw [List.set_append_right _ _ (by simp), List.range_succ, List.map_append]
  have e : zeros (k - j) = 0 :: zeros (k - (j + 1)) := by
    unfold zeros
    rw [show k - j = (k - (j + 1)) + 1 by omega, List.replicate_succ]
  rw [e]
  simp
theorem inv_at {W : World} {p q : Nat} (h : FieldAt W p) (hq : q < 256) (h0 : q ≠ 0) : Calls Tryd.prog 81 #[.pointer (some ⟨p, 0, none⟩), .int .u8 (q : Int)] W fun e w' => e = .returned (.tuple #[.int .u8 ((ginv (UInt8.ofNat q)).toNat : Int), .int .i64 0]) ∧ Drawn0 W w' := by
  have e : (UInt8.ofNat q).toNat = q := by rw [UInt8.toNat_ofNat']; exact Nat.mod_eq_of_lt hq
  have := inv_walk h (UInt8.ofNat q) (fun e2 => h0 (by rw [e2] at e; exact e.symm))
  rwa [e] at this
theorem genAt_inv (k i j : Nat) : genAt k (k + i) j = ginv (UInt8.ofNat ((k + i) ^^^ j)) := by unfold genAt; rw [if_neg (by omega)]
theorem xor_pos {k i j : Nat} (h : j < k) : (k + i) ^^^ j ≠ 0 := fun e => by
  have : (k + i) ^^^ j ^^^ j = 0 ^^^ j := by rw [e]
  rw [Nat.xor_assoc, Nat.xor_self, Nat.xor_zero, Nat.zero_xor] at this
  omega
def GenIs (k m : Nat) (w : World) (e : Ending) (w' : World) : Prop := e = .returned (.tuple #[matV (k + m) k (genG k m).flatten, .int .i64 0]) ∧ Below w.heap.size w w'
set_option maxRecDepth 100000 in
set_option maxHeartbeats 2000000 in
theorem gen_walk (w : World) (k m : Nat) (h1 : 1 ≤ k) (h2 : k + m ≤ 255) : Calls Tryd.prog 55 #[.int .i64 (k : Int), .int .i64 (m : Int)] w (GenIs k m w) := by
  have hmb := run_make_bytes k (by omega)
  have d1 : decide ((k : Int) < 1) = false := by simp; omega
  have d2 : decide ((255 : Int) < (k : Int)) = false := by simp; omega
  have d3 : decide ((m : Int) < 0) = false := by simp
  have d4 : decide ((255 : Int) - (k : Int) < (m : Int)) = false := by simp; omega
  go_enter Tryd.func55, Tryd.ntmps55
  go_wp2_with fail
  refine (new_walk _).mono ?_
  rintro e w1 ⟨rfl, hf1, hb1⟩
  have HB1 : Aside0 (Below w.heap.size w w1) := ⟨((Below.refl w.heap.size w).alloc (Nat.le_refl _) _).trans (hb1.mono (by simp))⟩
  have hres : Aside0 (w1.heap[w.heap.size]? = some (.cells #[.int .i64 0, .int .i64 0, .string ⟨#[]⟩] 74 (0, 0))) := ⟨blk_below (blk_new _ _) hb1⟩
  generalize (w.alloc (Obj.cells #[Value.int IntKind.i64 0, Value.int IntKind.i64 0, Value.string ⟨#[]⟩] 74)).heap.size = p at *
  have HF1 := Aside0.mk hf1
  clear hb1 hf1
  go_wp2_with fail
  refine (one_walk w1 k (by omega)).mono ?_
  rintro e w2 ⟨v2, ps2, rfl, hg2, hp2, hb2⟩
  have hg2' : GridAt w2 w.heap.size v2 ps2 (genG k 0) := by rw [← genG_zero]; exact hg2.lower HB1.out.size
  have HG2 := Aside0.mk (And.intro hg2' hp2)
  have HF2 := Aside0.mk (HF1.out.below hb2)
  have HB2 : Aside0 (Below w.heap.size w w2) := ⟨HB1.out.trans (hb2.mono HB1.out.size)⟩
  have HR2 : Aside0 (w2.heap[w.heap.size]? = some (.cells #[.int .i64 0, .int .i64 0, .string ⟨#[]⟩] 74 (0, 0))) := ⟨blk_below hres.out hb2⟩
  clear hg2 hg2' hp2 hb2 HF1 HB1 hres
  go_wp2
  go_loopw [7, 32] (fun v i W => ∃ (n : Nat) (ps : List (Nat × Nat)), n ≤ m ∧ i = .int .i64 (n : Int) ∧ Aside0 (GridAt W w.heap.size v ps (genG k n) ∧ ∀ p : Nat × Nat, p ∈ ps → p.2 = k) ∧ Aside0 (FieldAt W p) ∧ Aside0 (Below w.heap.size w W) ∧ Aside0 (W.heap[w.heap.size]? = some (.cells #[.int .i64 0, .int .i64 0, .string ⟨#[]⟩] 74 (0, 0)))) (fun _ i _ => m - (intOf i).toNat)
  case atStart => exact ⟨0, ps2, by omega, rfl, HG2, HF2, HB2, HR2⟩
  case round =>
    obtain ⟨n, ps, hn, rfl, HG, HF, HB, HR⟩ := hrel
    clear HG2 HF2 HB2 HR2
    generalize wr = wo at *
    generalize u7 = v at *
    by_cases hlt : n < m
    · obtain ⟨W1, hW1⟩ : ∃ W1, W1 = wo.alloc (.cells (byteCells (zeros k)).toArray 5) := ⟨_, rfl⟩
      obtain ⟨b, hbd⟩ : ∃ b, wo.heap.size = b := ⟨_, rfl⟩
      have hmk1 : (Instr.makeSlice 60 (.int .i64 (k : Int)) (.int .i64 (k : Int))).run Tryd.prog wo = .ok (.slice (some ⟨b, 0, none⟩) k k) W1 := by rw [hmb, hW1, hbd]
      have HN1 : Aside0 (RowB W1 b (genPart k (k + n) 0)) := ⟨by rw [genPart_zero, hW1, ← hbd]; exact blk_new _ _⟩
      have HW1 : Aside0 (Below wo.heap.size wo W1) := ⟨by rw [hW1]; exact below_alloc (Below.refl _ _) _⟩
      have HBD := Aside0.mk hbd
      clear hW1 hmb hbd
      go_wp2
      go_loopw [10, 39] (fun _ j W => ∃ q : Nat, q ≤ k ∧ j = .int .i64 (q : Int) ∧ Aside0 (RowB W b (genPart k (k + n) q)) ∧ Aside0 (Below wo.heap.size wo W)) (fun _ j _ => k - (intOf j).toNat)
      case atStart => exact ⟨0, by omega, rfl, HN1, HW1⟩
      case round =>
        obtain ⟨q, hq, rfl, HP, HW⟩ := hrel
        by_cases hlq : q < k
        · have hfw : FieldAt wr p := HF.out.below HW.out
          have hx := xor_i64 (k + n) q 8 (by omega) (by omega) (by omega)
          have hxl := xor_lt (a := k + n) (b := q) (by omega) (by omega)
          have HI := Aside0.mk (inv_at (q := (k + n) ^^^ q) hfw hxl (xor_pos hlq))
          rw [← genAt_inv] at HI
          have HST : Aside0 (∀ nd, RowB ((wr.drewN nd).setCell ⟨b, q, none⟩ (.int .u8 ((genAt k (k + n) q).toNat : Int))) b (genPart k (k + n) (q + 1))) := ⟨fun nd => by
            have := RowB.put (w := wr.drewN nd) HP.out q (genAt k (k + n) q)
            rwa [genPart_set _ _ _ hlq] at this⟩
          have c0 := HP.out.cell q (by rw [genPart_len _ _ _ hq]; exact hlq)
          have f0 := HP.out.frozen q
          have hbs : wo.heap.size ≤ b := by rw [HBD.out]; exact Nat.le_refl _
          generalize genAt k (k + n) q = y at *
          generalize (k + n) ^^^ q = z at *
          have hx' : bits .xor .i64 ((k : Int) + (n : Int)) (q : Int) = (z : Int) := by rw [← hx]; push_cast; rfl
          clear hx hfw
          go_wp2_with fail
          refine HI.out.mono ?_
          rintro e w5 ⟨rfl, ⟨nd, rfl⟩⟩
          go_wp2
          go_roundw
          case rel => exact ⟨q + 1, by omega, by go_num, ⟨HST.out nd⟩, ⟨(pw_below_drewN HW.out nd).setCell hbs _⟩⟩
          case measure => simp [intOf]; omega
        · obtain rfl : q = k := by omega
          rw [genPart_full] at HP
          have HBW : Aside0 (Below w.heap.size w wr) := ⟨HB.out.trans (HW.out.mono HB.out.size)⟩
          have HGW := Aside0.mk (HG.out.1.below HW.out)
          have HFW := Aside0.mk (HF.out.below HW.out)
          have HRW := Aside0.mk (blk_below HR.out HW.out)
          have HNB : Aside0 (∀ x : Nat × Nat, x ∈ ps → x.1 ≠ b) := ⟨fun x hx e => by
            have := HG.out.1.lt x hx
            have := HBD.out
            omega⟩
          have HGE : Aside0 (w.heap.size ≤ b ∧ b < wr.heap.size) := ⟨by have := HB.out.size; have := HBD.out; omega, HP.out.lt⟩
          have HP2 := Aside0.mk HG.out.2
          have HLR := Aside0.mk (genRow_len q (q + n))
          have HLG := Aside0.mk (genG_len q n)
          have HSU := Aside0.mk (genG_succ q n)
          have HRV : Aside0 (rowV (b, q) (genRow q (q + n)) = .slice (some ⟨b, 0, none⟩) q q) := ⟨by unfold rowV; rw [HLR.out]⟩
          clear HW HB HF HR HN1 HW1 HG hmk1 HBD
          generalize genRow q (q + n) = row at *
          go_wp2_with (first | ((with_reducible refine gate_builtin (b := .append) (xs := #[.tmp 57, .tmp 59]) rfl ?_); at_builtin; refine print_append_cells w.heap.size rfl (.tmp 57) (.tmp 59) 108 60 (.slice none 0 0) 1 24 rfl Tryd.underlying108 info_row rfl (by decide) (by decide) v (genG q n).length (List.zipWith rowV ps (genG q n)) [.slice (some ⟨b, 0, none⟩) q q] rfl rfl rfl (by simp [Value.oneCell']) HGW.out.outer HBW.out HBW.out.size (by rw [HLG.out]; omega) ?_; intro v1 w5 ho5 hb5 hg5 hat5; have HG5 := Aside0.mk (HGW.out.snoc HGE.out.1 (by rw [HLR.out]; exact Nat.le_refl _) (RowS.of HP.out) HNB.out (by rw [HRV.out]; exact ho5) hg5); have HB5 := Aside0.mk hb5; have HF5 : Aside0 (FieldAt w5 p) := ⟨blk_grown HFW.out hg5 (own_ne HGW.out.outer HFW.out (by decide))⟩; have HR5 := Aside0.mk (blk_grown HRW.out hg5 (own_ne HGW.out.outer HRW.out (by decide))); clear ho5 hb5 hg5 hat5))
          go_roundw
          case rel => exact ⟨n + 1, ps ++ [(b, q)], by omega, by go_num, ⟨by rw [HSU.out]; exact HG5.out, fun x hx => by
            rcases List.mem_append.1 hx with hx | hx
            · exact HP2.out x hx
            · rw [List.mem_singleton.1 hx]⟩, HF5, HB5, HR5⟩
          case measure => simp [intOf]; omega
    · obtain rfl : n = m := by omega
      have hM := matrix_walk (c := k) HG.out.1 (fun r hr => by obtain ⟨x, _, rfl⟩ := List.mem_map.1 hr; exact genRow_len k x) (by omega) (by omega) (by rw [genG_len]; omega) (by rw [genG_len]; omega)
      rw [genG_len] at hM
      have HM := Aside0.mk hM
      clear hM HG HF hmb
      go_wp2_with fail
      refine HM.out.mono ?_
      rintro e w6 ⟨rfl, hb6⟩
      have HB6 : Aside0 (Below w.heap.size w w6) := ⟨HB.out.trans (hb6.mono HB.out.size)⟩
      have HC1 := Aside0.mk (blk_below HR.out hb6)
      have s0 := blk_cell HC1.out 0
      have s1 := blk_cell HC1.out 1
      have s2 := blk_cell HC1.out 2
      have f0 := blk_frozen HC1.out 0
      have f1 := blk_frozen HC1.out 1
      have f2 := blk_frozen HC1.out 2
      clear hb6 HB HR
      unfold matV
      go_wp2
      refine bodyPost_ret (results_list (rs := [.cell 4 74, .tmp 5]) rfl (by simp) (Vals.cell w.heap.size 74 _ (0, 0) _ rfl (blk_put (blk_put (blk_put HC1.out 0 _ rfl) 1 _ rfl) 2 _ rfl) Tryd.underlying74 rfl (by kernel_rfl) (Vals.tmp Vals.nil))) rfl ?_
      exact ⟨rfl, ((HB6.out.setCell (Nat.le_refl _) _).setCell (Nat.le_refl _) _).setCell (Nat.le_refl _) _⟩
end Go.Proofs.YtegmmefijihdeaaDoor.Grd
namespace Go.Proofs.YtegmmefijihdeaaDoor.Mk
open Go.RowKit
theorem bytesLess_or_eq : ∀ (a b : List UInt8), (Op.bytesLess a b || a == b) = !Op.bytesLess b a
  | [], [] => by simp [Op.bytesLess]
  | [], b :: y => by simp [Op.bytesLess]
  | a :: x, [] => by simp [Op.bytesLess]
  | a :: x, b :: y => by
    have ih := bytesLess_or_eq x y
    simp only [Op.bytesLess]
    by_cases h : a = b
    · subst h
      have h1 : decide (a < a) = false := by simp
      simp only [h1, Bool.false_or, beq_self_eq_true, Bool.true_and]
      rw [← ih]
      simp
    · have h2 : (a == b) = false := by simpa using h
      have h3 : (b == a) = false := by simpa using fun e => h e.symm
      have h4 : (a :: x == b :: y) = false := by simp [h]
      rw [h2, h3, h4]
      simp only [Bool.false_and, Bool.or_false]
      by_cases h5 : a < b
      · have h6 : ¬ b < a := by intro h7; exact absurd (UInt8.lt_trans h5 h7) (UInt8.lt_irrefl _)
        simp [h5, h6]
      · have h6 : b < a := by
          rcases UInt8.lt_or_lt_of_ne h with h7 | h7
          · exact absurd h7 h5
          · exact h7
        simp [h5, h6]
theorem str_leq (t : TypeId) (a b : ByteArray) : binOp .leq t (.string a) (.string b) = pure (.bool (!(Op.bytesLess b.toList a.toList))) := by
  simp [binOp, Op.stringOp, bytesLess_or_eq]
theorem str_gtr (t : TypeId) (a b : ByteArray) : binOp .gtr t (.string a) (.string b) = pure (.bool (Op.bytesLess b.toList a.toList)) := by
  have h := bytesLess_or_eq a.toList b.toList
  simp only [binOp, Op.stringOp, h, Bool.not_not]
theorem str_geq (t : TypeId) (a b : ByteArray) : binOp .geq t (.string a) (.string b) = pure (.bool (!(Op.bytesLess a.toList b.toList))) := by
  simp [binOp, Op.stringOp]
end Go.Proofs.YtegmmefijihdeaaDoor.Mk
namespace Go.Proofs.YtegmmefijihdeaaDoor.PS
open Go.RowKit Go.Proofs.YtegmmefijihdeaaDoorW.PrintWords Go.Proofs.YtegmmefijihdeaaDoorW.PrintLast Go.Proofs.YtegmmefijihdeaaDoorW.PrintMore
attribute [local go_sem] Mk.str_leq Mk.str_gtr Mk.str_geq max2_int min2_int max_two min_two max_three min_three max_four min_four   -- for this text's walks alone
set_option linter.unusedVariables false
set_option linter.unusedSimpArgs false



def errW : Option Int → Value
 | none => .nilIface
 | some c => .iface 0 (.int .i64 c)
theorem errW_none : errW none = .nilIface := rfl
theorem errW_some (c : Int) : errW (some c) = .iface 0 (.int .i64 c) := rfl

theorem info3 : (Tryd.prog.info? 3).map (fun i => (i.zero, i.size, i.bytes)) = some (some (.int .i64 0), 1, 8) := by kernel_rfl
theorem info5 : (Tryd.prog.info? 5).map (fun i => (i.zero, i.size, i.bytes)) = some (some (.int .u8 0), 1, 1) := by kernel_rfl
theorem info9 : (Tryd.prog.info? 9).map (fun i => (i.zero, i.size, i.bytes)) = some (some (.string ⟨#[]⟩), 1, 16) := by kernel_rfl
theorem info62 : (Tryd.prog.info? 62).map (fun i => (i.zero, i.size, i.bytes)) = some (some (.agg #[(.int .i64 0), (.string ⟨#[]⟩)]), 2, 24) := by kernel_rfl
-- the values' own types
/-! #### struct type 62 -/
structure S62 where
 f0 : Int
 f1 : ByteArray
def z62 : S62 := ⟨(0 : Int), (⟨#[]⟩ : ByteArray)⟩
def k62 : Kd S62 := Kd.iso (Kd.pair (Kd.int .i64) Kd.string) (fun x : S62 => (x.f0, x.f1))
theorem k62_open {w : World} {x : S62} {cs : List Value} (h : k62.K w x cs) : cs = [.int .i64 x.f0, .string x.f1] := by
 obtain ⟨_, _, rfl, rfl, rfl⟩ := h
 exact rfl
theorem k62_openM {w : World} {base : Nat} {ok : Nat → Prop} {x : S62} {cs : List Value} (h : k62.M w base ok x cs) : cs = [.int .i64 x.f0, .string x.f1] := by
 obtain ⟨_, _, rfl, rfl, rfl⟩ := h
 exact rfl
theorem k62_mk (w : World) (x : S62)  : k62.K w x [.int .i64 x.f0, .string x.f1] := ⟨[.int .i64 x.f0], [.string x.f1], rfl, rfl, rfl⟩
theorem k62_mkM (w : World) (base : Nat) (ok : Nat → Prop) (x : S62)  : k62.M w base ok x [.int .i64 x.f0, .string x.f1] := ⟨[.int .i64 x.f0], [.string x.f1], rfl, rfl, rfl⟩
def rd_T62 (xs : List S62) (i : Int) : S62 := xs.getD i.toNat z62
theorem at_T62 {w : World} {A : Option Addr} {n : Nat} {xs : List S62} (h : Kd.C k62 w A n xs) (i : Int) (h0 : 0 ≤ i) (h1 : i < n) : ∃ ad , A = some ad ∧ w.cell? (ad.add (i.toNat * 2)) = some (.int .i64 (rd_T62 xs i).f0) ∧ w.cell? ⟨(ad.add (i.toNat * 2)).block, (ad.add (i.toNat * 2)).off + 1, none⟩ = some (.string (rd_T62 xs i).f1) := by
 obtain ⟨ad, c, e, _, hK, hc0⟩ := Kd.C_get h z62 i h0 h1
 have hc : ∀ j u, c[j]? = some u → w.cell? (ad.add (i.toNat * 2 + j)) = some u := hc0
 obtain rfl := k62_open hK
 exact ⟨ad, e, hc 0 _ rfl, by rw [← add_field _ _ 1 (by omega)]; exact hc 1 _ rfl⟩

end Go.Proofs.YtegmmefijihdeaaDoor.PS
namespace Go.Proofs.YtegmmefijihdeaaDoor.PS
open Go.RowKit Go.Proofs.YtegmmefijihdeaaDoorW.PrintWords Go.Proofs.YtegmmefijihdeaaDoorW.PrintLast Go.Proofs.YtegmmefijihdeaaDoorW.PrintMore
attribute [local go_sem] Mk.str_leq Mk.str_gtr Mk.str_geq max2_int min2_int max_two min_two max_three min_three max_four min_four   -- for this text's walks alone
set_option linter.unusedVariables false
set_option linter.unusedSimpArgs false

/-! ### stripe_code: function 47 -/
def stripe_code.f (a0 : Int) (a1 : Int) : Option (Bool) := if a0 ≥ 1 then (if a0 ≤ 255 then (if a1 ≥ 0 then (some (decide (a1 ≤ (wrap64 (255 - a0))))) else (some false)) else (some false)) else (some false)
set_option maxHeartbeats 8000000 in
set_option maxRecDepth 100000 in
theorem stripe_code.calls (a0 : Int) (a1 : Int) (r : Bool) (w : World) (h : stripe_code.f a0 a1 = some r) :
  Calls Tryd.prog 47 #[.int .i64 a0, .int .i64 a1] w fun e w' => e = .returned (.bool r) ∧ Drawn0 w w' := by
 have H : (if a0 ≥ 1 then (if a0 ≤ 255 then (if a1 ≥ 0 then (some (decide (a1 ≤ (wrap64 (255 - a0))))) else (some false)) else (some false)) else (some false)) = some r := h
 clear h
 by_cases c3 : a0 ≥ 1
 ·rw [if_pos c3] at H
  have c3b0 : decide (1 ≤ a0) = true := decide_eq_true c3
  clear c3
  by_cases c4 : a0 ≤ 255
  ·rw [if_pos c4] at H
   have c4b0 : decide (a0 ≤ 255) = true := decide_eq_true c4
   clear c4
   by_cases c5 : a1 ≥ 0
   ·rw [if_pos c5] at H
    have c5b0 : decide (0 ≤ a1) = true := decide_eq_true c5
    clear c5
    obtain rfl := Option.some.inj H
    go_enter Tryd.func47, Tryd.ntmps47
    go_wp2
    go_ret
    exact ⟨by first | rfl | (simp; done) | (simp [*]; done), by repeat (first | exact Drawn0.refl _ | apply Drawn0.step)⟩
   ·rw [if_neg c5] at H
    have c5b0 : decide (0 ≤ a1) = false := decide_eq_false c5
    clear c5
    obtain rfl := Option.some.inj H
    go_enter Tryd.func47, Tryd.ntmps47
    go_wp2
    go_ret
    exact ⟨by first | rfl | (simp; done) | (simp [*]; done), by repeat (first | exact Drawn0.refl _ | apply Drawn0.step)⟩
  ·rw [if_neg c4] at H
   have c4b0 : decide (a0 ≤ 255) = false := decide_eq_false c4
   clear c4
   obtain rfl := Option.some.inj H
   go_enter Tryd.func47, Tryd.ntmps47
   go_wp2
   go_ret
   exact ⟨by first | rfl | (simp; done) | (simp [*]; done), by repeat (first | exact Drawn0.refl _ | apply Drawn0.step)⟩
 ·rw [if_neg c3] at H
  have c3b0 : decide (1 ≤ a0) = false := decide_eq_false c3
  clear c3
  obtain rfl := Option.some.inj H
  go_enter Tryd.func47, Tryd.ntmps47
  go_wp2
  go_ret
  exact ⟨by first | rfl | (simp; done) | (simp [*]; done), by repeat (first | exact Drawn0.refl _ | apply Drawn0.step)⟩

end Go.Proofs.YtegmmefijihdeaaDoor.PS
namespace Go.Proofs.YtegmmefijihdeaaDoor.PS
open Go.RowKit Go.Proofs.YtegmmefijihdeaaDoorW.PrintWords Go.Proofs.YtegmmefijihdeaaDoorW.PrintLast Go.Proofs.YtegmmefijihdeaaDoorW.PrintMore
attribute [local go_sem] Mk.str_leq Mk.str_gtr Mk.str_geq max2_int min2_int max_two min_two max_three min_three max_four min_four   -- for this text's walks alone
set_option linter.unusedVariables false
set_option linter.unusedSimpArgs false

/-! ### stripe_Size: function 15 -/
def stripe_Size.f (a0 : Int) (a1 : Int) : Option (Int × Int) := (stripe_code.f a0 0).bind fun t101 => (if t101 = true then (if a1 < 0 then (some (0, 1)) else (if a1 > 2048 then (some (0, 1)) else (if a0 = 0 then (none) else (some (wrap64 (Int.tdiv (wrap64 ((wrap64 ((wrap64 (4 + a1)) + a0)) - 1)) a0), 0))))) else (some (0, 1)))
set_option maxHeartbeats 8000000 in
set_option maxRecDepth 100000 in
theorem stripe_Size.calls (a0 : Int) (a1 : Int) (r1 : Int) (r2 : Int) (w : World) (h : stripe_Size.f a0 a1 = some (r1, r2)) :
  Calls Tryd.prog 15 #[.int .i64 a0, .int .i64 a1] w fun e w' => e = .returned (.tuple #[.int .i64 r1, .int .i64 r2]) ∧ Drawn0 w w' := by
 have H : ((stripe_code.f a0 0).bind fun t101 => (if t101 = true then (if a1 < 0 then (some (0, 1)) else (if a1 > 2048 then (some (0, 1)) else (if a0 = 0 then (none) else (some (wrap64 (Int.tdiv (wrap64 ((wrap64 ((wrap64 (4 + a1)) + a0)) - 1)) a0), 0))))) else (some (0, 1)))) = some (r1, r2) := h
 clear h
 replace H := Option.bind_eq_some_iff.mp H
 obtain ⟨t101, A30, H⟩ := H
 replace H : (if t101 = true then (if a1 < 0 then (some (0, 1)) else (if a1 > 2048 then (some (0, 1)) else (if a0 = 0 then (none) else (some (wrap64 (Int.tdiv (wrap64 ((wrap64 ((wrap64 (4 + a1)) + a0)) - 1)) a0), 0))))) else (some (0, 1))) = some (r1, r2) := H
 have A3 := Aside0.mk A30
 clear A30
 by_cases c4 : t101 = true
 ·subst c4
  have H1 : (if a1 < 0 then (some (0, 1)) else (if a1 > 2048 then (some (0, 1)) else (if a0 = 0 then (none) else (some (wrap64 (Int.tdiv (wrap64 ((wrap64 ((wrap64 (4 + a1)) + a0)) - 1)) a0), 0))))) = some (r1, r2) := by rw [if_pos rfl] at H; exact H
  clear H
  have H := H1
  clear H1
  by_cases c5 : a1 < 0
  ·rw [if_pos c5] at H
   have c5b0 : decide (a1 < 0) = true := decide_eq_true c5
   clear c5
   simp only [Option.some.injEq, Prod.mk.injEq] at H
   obtain ⟨rfl, rfl⟩ := H
   go_enter Tryd.func15, Tryd.ntmps15
   go_wp2_with (first | ((with_reducible refine gate_callee (f := 47) rfl ?_); refine goesL_ (some 7) rfl rfl Tryd.func47 (by kernel_rfl) rfl #[.int .i64 a0, .int .i64 0] rfl (by (try simp only [List.map_toArray, List.map_cons, List.map_nil]); first | done | rfl | (simp only [List.length_drop, List.length_take]; rfl)) ?_; (with_reducible refine (stripe_code.calls a0 0 true _ A3.out).mono ?_); rintro e w' ⟨rfl, ⟨nd, rfl⟩⟩; refine ⟨_, rfl, ?_⟩))
   go_ret2
   exact ⟨by first | rfl | (simp; done) | (simp [*]; done), by repeat (first | exact Drawn0.refl _ | apply Drawn0.step)⟩
  ·rw [if_neg c5] at H
   have c5b0 : decide (a1 < 0) = false := decide_eq_false c5
   clear c5
   by_cases c6 : a1 > 2048
   ·rw [if_pos c6] at H
    have c6b0 : decide (2048 < a1) = true := decide_eq_true c6
    clear c6
    simp only [Option.some.injEq, Prod.mk.injEq] at H
    obtain ⟨rfl, rfl⟩ := H
    go_enter Tryd.func15, Tryd.ntmps15
    go_wp2_with (first | ((with_reducible refine gate_callee (f := 47) rfl ?_); refine goesL_ (some 7) rfl rfl Tryd.func47 (by kernel_rfl) rfl #[.int .i64 a0, .int .i64 0] rfl (by (try simp only [List.map_toArray, List.map_cons, List.map_nil]); first | done | rfl | (simp only [List.length_drop, List.length_take]; rfl)) ?_; (with_reducible refine (stripe_code.calls a0 0 true _ A3.out).mono ?_); rintro e w' ⟨rfl, ⟨nd, rfl⟩⟩; refine ⟨_, rfl, ?_⟩))
    go_ret2
    exact ⟨by first | rfl | (simp; done) | (simp [*]; done), by repeat (first | exact Drawn0.refl _ | apply Drawn0.step)⟩
   ·rw [if_neg c6] at H
    have c6b0 : decide (2048 < a1) = false := decide_eq_false c6
    clear c6
    by_cases c7 : a0 = 0
    ·rw [if_pos c7] at H
     exact absurd H (by simp)
    ·rw [if_neg c7] at H
     have c7b0 : (a0 == 0) = false := beq_eq_false_iff_ne.mpr c7
     have c7b1 : (a0 != 0) = true := bne_iff_ne.mpr c7
     simp only [Option.some.injEq, Prod.mk.injEq] at H
     obtain ⟨rfl, rfl⟩ := H
     go_enter Tryd.func15, Tryd.ntmps15
     go_wp2_with (first | ((with_reducible refine gate_callee (f := 47) rfl ?_); refine goesL_ (some 7) rfl rfl Tryd.func47 (by kernel_rfl) rfl #[.int .i64 a0, .int .i64 0] rfl (by (try simp only [List.map_toArray, List.map_cons, List.map_nil]); first | done | rfl | (simp only [List.length_drop, List.length_take]; rfl)) ?_; (with_reducible refine (stripe_code.calls a0 0 true _ A3.out).mono ?_); rintro e w' ⟨rfl, ⟨nd, rfl⟩⟩; refine ⟨_, rfl, ?_⟩))
     go_ret2
     exact ⟨by first | rfl | (simp; done) | (simp [*]; done), by repeat (first | exact Drawn0.refl _ | apply Drawn0.step)⟩
 ·replace c4 := Bool.eq_false_iff.mpr c4
  subst c4
  have H1 : (some (0, 1)) = some (r1, r2) := by rw [if_neg (show ¬ (false = true) by decide)] at H; exact H
  clear H
  have H := H1
  clear H1
  simp only [Option.some.injEq, Prod.mk.injEq] at H
  obtain ⟨rfl, rfl⟩ := H
  go_enter Tryd.func15, Tryd.ntmps15
  go_wp2_with (first | ((with_reducible refine gate_callee (f := 47) rfl ?_); refine goesL_ (some 7) rfl rfl Tryd.func47 (by kernel_rfl) rfl #[.int .i64 a0, .int .i64 0] rfl (by (try simp only [List.map_toArray, List.map_cons, List.map_nil]); first | done | rfl | (simp only [List.length_drop, List.length_take]; rfl)) ?_; (with_reducible refine (stripe_code.calls a0 0 false _ A3.out).mono ?_); rintro e w' ⟨rfl, ⟨nd, rfl⟩⟩; refine ⟨_, rfl, ?_⟩))
  go_ret2
  exact ⟨by first | rfl | (simp; done) | (simp [*]; done), by repeat (first | exact Drawn0.refl _ | apply Drawn0.step)⟩

end Go.Proofs.YtegmmefijihdeaaDoor.PS
namespace Go.Proofs.YtegmmefijihdeaaDoor.PS
open Go.RowKit Go.Proofs.YtegmmefijihdeaaDoorW.PrintWords Go.Proofs.YtegmmefijihdeaaDoorW.PrintLast Go.Proofs.YtegmmefijihdeaaDoorW.PrintMore
attribute [local go_sem] Mk.str_leq Mk.str_gtr Mk.str_geq max2_int min2_int max_two min_two max_three min_three max_four min_four   -- for this text's walks alone
set_option linter.unusedVariables false
set_option linter.unusedSimpArgs false

/-! ### stripe_even: function 50 -/
def stripe_even.l0 : Nat → List ByteArray → List ByteArray → Int → Int → Option (Bool)
 | 0, _, _, _, _ => none
 | k + 1, x0, x5, x6, x7 => if x7 < x6 then (if 0 ≤ x7 then (if x7 < (x5.length : Int) then (if 0 < (x0.length : Int) then (if ((rdOf ByteArray.empty x5 x7).size : Int) = ((rdOf ByteArray.empty x0 0).size : Int) then (stripe_even.l0 k x0 x5 x6 (wrap64 (x7 + 1))) else (some false)) else (none)) else (none)) else (none)) else (some true)
def stripe_even.f (k : Nat) (l0 : List ByteArray) : Option (Bool) := stripe_even.l0 k l0 l0 (l0.length : Int) 0
theorem stripe_even.mono_l : ∀ k, (∀ y0 y1 y2 y3, LeO (stripe_even.l0 k y0 y1 y2 y3) (stripe_even.l0 (k + 1) y0 y1 y2 y3))
 | 0 => fun _ _ _ _ r h => by simp [stripe_even.l0] at h
 | k + 1 => by
  have ih0 := stripe_even.mono_l k
  ·intro y0 y1 y2 y3
   unfold stripe_even.l0
   repeat' first
   | (with_reducible exact ih0 _ _ _ _)
   | (with_reducible exact LeO.refl _)
   | (with_reducible exact LeO.none _)
   | (with_reducible refine LeO.ite ?_ ?_)
   | (with_reducible refine LeO.bind ?_ (fun _ => ?_))
   | exact ih0 _ _ _ _
   | exact LeO.none _
   | refine LeO.ite ?_ ?_
   | refine LeO.bind ?_ (fun _ => ?_)
theorem stripe_even.mono : ∀ a0 k, LeO (stripe_even.f k a0) (stripe_even.f (k + 1) a0) := by
 intro a0 k
 have ih0 := stripe_even.mono_l k
 unfold stripe_even.f
 repeat' first
   | (with_reducible exact ih0 _ _ _ _)
   | (with_reducible exact LeO.refl _)
   | (with_reducible exact LeO.none _)
   | (with_reducible refine LeO.ite ?_ ?_)
   | (with_reducible refine LeO.bind ?_ (fun _ => ?_))
   | exact ih0 _ _ _ _
   | exact LeO.none _
   | refine LeO.ite ?_ ?_
   | refine LeO.bind ?_ (fun _ => ?_)
set_option maxHeartbeats 8000000 in
set_option maxRecDepth 100000 in
theorem stripe_even.calls (k : Nat) (A0 : Option Addr) (c0 : Nat) (l0 : List ByteArray) (r : Bool) (w : World) (hr0 : Kd.C Kd.string w A0 l0.length l0) (hc0 : l0.length ≤ c0) (h : stripe_even.f k l0 = some r) :
  Calls Tryd.prog 50 #[.slice A0 l0.length c0] w fun e w' => e = .returned (.bool r) ∧ Drawn0 w w' := by
 have HR0 := Aside0.mk hr0
 have HC0 := Aside0.mk hc0
 clear hr0 hc0
 have H : (stripe_even.l0 k l0 l0 (l0.length : Int) 0) = some r := h
 clear h
 have H' := Aside0.mk H
 clear H
 go_enter Tryd.func50, Tryd.ntmps50
 go_wp2
 go_loopg [7] k (fun kq v7 w' => ∃ (x7_1 : Int), v7 = .int .i64 x7_1 ∧ Aside0 (stripe_even.l0 kq l0 l0 (l0.length : Int) x7_1 = some r) ∧ Aside0 (kq ≤ k) ∧ Drawn0 w w')
 case atStart => exact ⟨(0), (by first | rfl | (simp; done) | (simp [*]; done)), H', ⟨Nat.le_refl _⟩, by repeat (first | exact Drawn0.refl _ | apply Drawn0.step)⟩
 case round =>
  clear H'
  obtain ⟨x7_1, rfl, HA, HK1, ⟨m1, rfl⟩⟩ := hrel
  cases gk with
  | zero => exact absurd HA.out (by simp [stripe_even.l0])
  | succ k1 =>
   have H := HA.out
   clear HA
   simp only [stripe_even.l0] at H
   by_cases c2 : x7_1 < (l0.length : Int)
   ·rw [if_pos c2] at H
    have c2b0 : decide (x7_1 < (l0.length : Int)) = true := decide_eq_true c2
    clear c2
    by_cases c3 : 0 ≤ x7_1
    ·rw [if_pos c3] at H
     have c3b0 : decide (0 ≤ x7_1) = true := decide_eq_true c3
     clear c3
     by_cases c4 : x7_1 < (l0.length : Int)
     ·rw [if_pos c4] at H
      have c4b0 : decide (x7_1 < (l0.length : Int)) = true := decide_eq_true c4
      clear c4
      by_cases c5 : 0 < (l0.length : Int)
      ·rw [if_pos c5] at H
       have c5b0 : decide (0 < (l0.length : Int)) = true := decide_eq_true c5
       have c5b1 : decide (0 < l0.length) = true := decide_eq_true (by omega)
       clear c5
       by_cases c6 : ((rdOf ByteArray.empty l0 x7_1).size : Int) = ((rdOf ByteArray.empty l0 0).size : Int)
       ·rw [if_pos c6] at H
        have c6b0 : (((rdOf ByteArray.empty l0 x7_1).size : Int) == ((rdOf ByteArray.empty l0 0).size : Int)) = true := beq_iff_eq.mpr c6
        have c6b1 : (((rdOf ByteArray.empty l0 x7_1).size : Int) != ((rdOf ByteArray.empty l0 0).size : Int)) = false := bne_eq_false_iff_eq.mpr c6
        have c6b2 : ((rdOf ByteArray.empty l0 x7_1).size == (rdOf ByteArray.empty l0 0).size) = true := by first | simpa using c6 | (simp at c6 ⊢; omega)
        clear c6
        have H' := Aside0.mk H
        clear H
        have p120 : 0 ≤ (x7_1 : Int) := of_decide_eq_true (by first | (with_reducible assumption) | assumption)
        have q120 : x7_1 < (l0.length : Int) := of_decide_eq_true (by first | (with_reducible assumption) | assumption)
        obtain ⟨ad120, e120, hx120_0⟩ := Kd.at_string HR0.out x7_1 p120 q120
        cases e120
        replace p120 := eq_true p120
        replace q120 := eq_true q120
        have p121 : 0 ≤ (0 : Int) := (by omega)
        have q121 : 0 < (l0.length : Int) := of_decide_eq_true (by first | (with_reducible assumption) | assumption)
        obtain ⟨ad121, e121, hx121_0⟩ := Kd.at_string HR0.out 0 p121 q121
        obtain rfl : ad120 = ad121 := (by injection e121)
        have qi121 : (0 < l0.length) = True := eq_true (by omega)
        (try rw [show ((0 : Int)).toNat = 0 from rfl] at hx121_0)
        (try rw [Addr.add_zero'] at hx121_0)
        replace p121 := eq_true p121
        replace q121 := eq_true q121
        go_wp2
        go_roundg k1
        case measure => have := HK1.out; omega
        case rel => exact ⟨(wrap64 (x7_1 + 1)), (by first | rfl | (simp; done) | (simp [*]; done)), H', ⟨by have := HK1.out; omega⟩, by repeat (first | exact Drawn0.refl _ | apply Drawn0.step)⟩
       ·rw [if_neg c6] at H
        have c6b0 : (((rdOf ByteArray.empty l0 x7_1).size : Int) == ((rdOf ByteArray.empty l0 0).size : Int)) = false := beq_eq_false_iff_ne.mpr c6
        have c6b1 : (((rdOf ByteArray.empty l0 x7_1).size : Int) != ((rdOf ByteArray.empty l0 0).size : Int)) = true := bne_iff_ne.mpr c6
        have c6b2 : ((rdOf ByteArray.empty l0 x7_1).size == (rdOf ByteArray.empty l0 0).size) = false := by first | simpa using c6 | (simp at c6 ⊢; omega)
        obtain rfl := Option.some.inj H
        have p120 : 0 ≤ (x7_1 : Int) := of_decide_eq_true (by first | (with_reducible assumption) | assumption)
        have q120 : x7_1 < (l0.length : Int) := of_decide_eq_true (by first | (with_reducible assumption) | assumption)
        obtain ⟨ad120, e120, hx120_0⟩ := Kd.at_string HR0.out x7_1 p120 q120
        cases e120
        replace p120 := eq_true p120
        replace q120 := eq_true q120
        have p121 : 0 ≤ (0 : Int) := (by omega)
        have q121 : 0 < (l0.length : Int) := of_decide_eq_true (by first | (with_reducible assumption) | assumption)
        obtain ⟨ad121, e121, hx121_0⟩ := Kd.at_string HR0.out 0 p121 q121
        obtain rfl : ad120 = ad121 := (by injection e121)
        have qi121 : (0 < l0.length) = True := eq_true (by omega)
        (try rw [show ((0 : Int)).toNat = 0 from rfl] at hx121_0)
        (try rw [Addr.add_zero'] at hx121_0)
        replace p121 := eq_true p121
        replace q121 := eq_true q121
        go_wp2
        go_ret
        exact ⟨by first | rfl | (simp; done) | (simp [*]; done), by repeat (first | exact Drawn0.refl _ | apply Drawn0.step)⟩
      ·rw [if_neg c5] at H
       exact absurd H (by simp)
     ·rw [if_neg c4] at H
      exact absurd H (by simp)
    ·rw [if_neg c3] at H
     exact absurd H (by simp)
   ·rw [if_neg c2] at H
    have c2b0 : decide (x7_1 < (l0.length : Int)) = false := decide_eq_false c2
    clear c2
    obtain rfl := Option.some.inj H
    go_wp2
    go_ret
    exact ⟨by first | rfl | (simp; done) | (simp [*]; done), by repeat (first | exact Drawn0.refl _ | apply Drawn0.step)⟩

end Go.Proofs.YtegmmefijihdeaaDoor.PS
namespace Go.Proofs.YtegmmefijihdeaaDoor.PS
open Go.RowKit Go.Proofs.YtegmmefijihdeaaDoorW.PrintWords Go.Proofs.YtegmmefijihdeaaDoorW.PrintLast Go.Proofs.YtegmmefijihdeaaDoorW.PrintMore Go.Proofs.YtegmmefijihdeaaDoor.Gf Go.Proofs.YtegmmefijihdeaaDoor.Grd Go.Proofs.YtegmmefijihdeaaDoor.Rowb
set_option linter.unusedVariables false
set_option linter.unusedSimpArgs false
theorem pred_of {K k : Nat} (h : K + 1 ≤ k) : ∃ m, k = m + 1 ∧ K ≤ m := ⟨k - 1, by omega, by omega⟩
theorem w64_in (x : Int) (h0 : -9223372036854775808 ≤ x) (h1 : x ≤ 9223372036854775807) : wrap64 x = x := by unfold wrap64; omega
def codeB (k m : Int) : Bool := decide (1 ≤ k ∧ k ≤ 255 ∧ 0 ≤ m ∧ m ≤ 255 - k)
theorem code_f (k m : Int) : stripe_code.f k m = some (codeB k m) := by
  unfold stripe_code.f codeB
  by_cases h1 : k ≥ 1
  · rw [if_pos h1]
    by_cases h2 : k ≤ 255
    · rw [if_pos h2]
      by_cases h3 : m ≥ 0
      · rw [if_pos h3, w64_in _ (by omega) (by omega)]
        congr 1
        rw [decide_eq_decide]
        omega
      · rw [if_neg h3]
        congr 1
        symm
        rw [decide_eq_false_iff_not]
        omega
    · rw [if_neg h2]
      congr 1
      symm
      rw [decide_eq_false_iff_not]
      omega
  · rw [if_neg h1]
    congr 1
    symm
    rw [decide_eq_false_iff_not]
    omega
theorem codeB_nat {k m : Int} (h : codeB k m = true) : ∃ K M : Nat, k = (K : Int) ∧ m = (M : Int) ∧ 1 ≤ K ∧ K + M ≤ 255 := by
  unfold codeB at h
  have := of_decide_eq_true h
  exact ⟨k.toNat, m.toNat, by omega, by omega, by omega, by omega⟩
/-- A shard's length. -/
def sizeN (k long : Nat) : Nat := (4 + long + k - 1) / k
def sizeV (k long : Int) : Int × Int := if codeB k 0 = true ∧ 0 ≤ long ∧ long ≤ 2048 then ((sizeN k.toNat long.toNat : Int), 0) else (0, 1)
theorem size_f (k long : Int) : stripe_Size.f k long = some (sizeV k long) := by
  unfold stripe_Size.f sizeV
  rw [code_f, Option.bind_some]
  by_cases h : codeB k 0 = true
  · obtain ⟨K, M, rfl, hm, h1, h2⟩ := codeB_nat h
    rw [if_pos h]
    by_cases h3 : long < 0
    · rw [if_pos h3, if_neg (by omega)]
    · rw [if_neg h3]
      by_cases h4 : long > 2048
      · rw [if_pos h4, if_neg (by omega)]
      · rw [if_neg h4, if_neg (by omega), if_pos ⟨h, by omega, by omega⟩]
        obtain ⟨L, rfl⟩ : ∃ L : Nat, long = (L : Int) := ⟨long.toNat, by omega⟩
        have e1 : wrap64 ((wrap64 ((wrap64 (4 + (L : Int))) + (K : Int))) - 1) = ((4 + L + K - 1 : Nat) : Int) := by
          rw [w64_in (4 + (L : Int)) (by omega) (by omega), w64_in (4 + (L : Int) + (K : Int)) (by omega) (by omega), w64_in _ (by omega) (by omega)]
          omega
        have e2 : ((4 + L + K - 1 : Nat) : Int).tdiv (K : Int) = ((sizeN K L : Nat) : Int) := by
          rw [Int.tdiv_eq_ediv_of_nonneg (by omega)]
          unfold sizeN
          rw [Int.natCast_ediv]
        have e3 : sizeN K L ≤ 4 + L + K - 1 := Nat.div_le_self _ _
        rw [e1, e2, w64_in _ (by omega) (by omega)]
        simp
  · rw [if_neg h, if_neg (fun e => h e.1)]
/-- Are shards as long, all of them? -/
def evenB (l : List ByteArray) : Bool := l.all (fun s => s.size == (rdOf ByteArray.empty l 0).size)
theorem rdOf_nat (l : List ByteArray) (i : Nat) (h : i < l.length) : rdOf ByteArray.empty l (i : Int) = l[i] := by
  unfold rdOf
  simp [List.getElem?_eq_getElem h]
theorem even_from (l : List ByteArray) (hl : l.length ≤ 9223372036854775807) (d : Nat) : ∀ i, i + d = l.length → (∀ j, j < i → ∀ (h : j < l.length), (l[j].size == (rdOf ByteArray.empty l 0).size) = true) → Ev (fun k => stripe_even.l0 k l l (l.length : Int) (i : Int)) (evenB l) := by
  induction d with
  | zero =>
    intro i hi hb
    refine ⟨1, fun k hk => ?_⟩
    obtain ⟨m, rfl, _⟩ := pred_of (K := 0) hk
    show stripe_even.l0 (m + 1) l l (l.length : Int) (i : Int) = _
    simp only [stripe_even.l0]
    rw [if_neg (by omega)]
    congr 1
    symm
    unfold evenB
    rw [List.all_eq_true]
    intro s hs
    obtain ⟨j, hj, rfl⟩ := List.getElem_of_mem hs
    exact hb j (by omega) hj
  | succ d ih =>
    intro i hi hb
    have hil : i < l.length := by omega
    by_cases e : (l[i].size == (rdOf ByteArray.empty l 0).size) = true
    · obtain ⟨K, hK⟩ := ih (i + 1) (by omega) (fun j hj h => by
        by_cases e2 : j = i
        · subst e2; exact e
        · exact hb j (by omega) h)
      refine ⟨K + 1, fun k hk => ?_⟩
      obtain ⟨m, rfl, hm⟩ := pred_of hk
      show stripe_even.l0 (m + 1) l l (l.length : Int) (i : Int) = _
      simp only [stripe_even.l0]
      have e' : l[i].size = (rdOf ByteArray.empty l 0).size := by simpa using e
      rw [if_pos (by omega), if_pos (by omega), if_pos (by omega), if_pos (by omega), rdOf_nat l i hil, if_pos (by omega), w64_in _ (by omega) (by omega)]
      exact hK m hm
    · refine ⟨1, fun k hk => ?_⟩
      obtain ⟨m, rfl, _⟩ := pred_of (K := 0) hk
      show stripe_even.l0 (m + 1) l l (l.length : Int) (i : Int) = _
      simp only [stripe_even.l0]
      have e' : ¬ l[i].size = (rdOf ByteArray.empty l 0).size := by simpa using e
      rw [if_pos (by omega), if_pos (by omega), if_pos (by omega), if_pos (by omega), rdOf_nat l i hil, if_neg (by omega)]
      congr 1
      symm
      unfold evenB
      rw [List.all_eq_false]
      exact ⟨l[i], List.getElem_mem hil, e⟩
theorem even_f (l : List ByteArray) (hl : l.length ≤ 9223372036854775807) : Ev (fun k => stripe_even.f k l) (evenB l) := even_from l hl l.length 0 (by omega) (fun j hj => by omega)
theorem even_of {l : List ByteArray} (h : evenB l = true) : ∀ s, s ∈ l → s.size = (rdOf ByteArray.empty l 0).size := fun s hs => by
  have := List.all_eq_true.1 h s hs
  simpa using this
theorem even_walk (A0 : Option Addr) (c0 : Nat) (l : List ByteArray) (w : World) (hr0 : Kd.C Kd.string w A0 l.length l) (hc0 : l.length ≤ c0) :
    Calls Tryd.prog 50 #[.slice A0 l.length c0] w fun e w' => e = .returned (.bool (evenB l)) ∧ Drawn0 w w' := by
  obtain ⟨K, hK⟩ := even_f l (by have := Kd.C_max hr0; omega)
  exact stripe_even.calls K A0 c0 l _ w hr0 hc0 (hK K (Nat.le_refl _))
/-! The parity. -/
def dAt (data : List ByteArray) (j at_ : Nat) : UInt8 := (data.getD j ByteArray.empty).data.toList.getD at_ 0
/-- Row r of the code over q of the shards. -/
def accRow (k r n : Nat) (data : List ByteArray) (q : Nat) : List UInt8 := (List.range n).map fun at_ => xs (List.range q) fun j => gmul (genAt k r j) (dAt data j at_)
/-- .., of which t bytes have one shard more. -/
def mixRow (k r n : Nat) (data : List ByteArray) (q t : Nat) : List UInt8 := (List.range n).map fun at_ => xs (List.range (if at_ < t then q + 1 else q)) fun j => gmul (genAt k r j) (dAt data j at_)
theorem acc_len (k r n : Nat) (data : List ByteArray) (q : Nat) : (accRow k r n data q).length = n := by simp [accRow]
theorem mix_len (k r n : Nat) (data : List ByteArray) (q t : Nat) : (mixRow k r n data q t).length = n := by simp [mixRow]
theorem acc_zero (k r n : Nat) (data : List ByteArray) : accRow k r n data 0 = zeros n := by
  unfold accRow zeros
  apply List.ext_getElem
  · simp
  · intro i h1 h2
    simp [xs]
theorem mix_zero (k r n : Nat) (data : List ByteArray) (q : Nat) : mixRow k r n data q 0 = accRow k r n data q := by simp [mixRow, accRow]
theorem mix_full (k r n : Nat) (data : List ByteArray) (q : Nat) : mixRow k r n data q n = accRow k r n data (q + 1) := by
  unfold mixRow accRow
  refine List.map_congr_left (fun i hi => ?_)
  rw [if_pos (List.mem_range.1 hi)]
theorem xs_succ (q : Nat) (f : Nat → UInt8) : xs (List.range (q + 1)) f = xs (List.range q) f ^^^ f q := by
  rw [List.range_succ, xs_append, xs_cons]
  show _ ^^^ (f q ^^^ 0) = _
  rw [UInt8.xor_zero]
theorem mix_get (k r n : Nat) (data : List ByteArray) (q t i : Nat) (h : i < (mixRow k r n data q t).length) : (mixRow k r n data q t)[i] = xs (List.range (if i < t then q + 1 else q)) fun j => gmul (genAt k r j) (dAt data j i) := by simp [mixRow]
theorem mix_at (k r n : Nat) (data : List ByteArray) (q t : Nat) (h : t < n) : (mixRow k r n data q t)[t]'(by rw [mix_len]; exact h) = xs (List.range q) fun j => gmul (genAt k r j) (dAt data j t) := by
  rw [mix_get, if_neg (by omega)]
theorem mix_set (k r n : Nat) (data : List ByteArray) (q t : Nat) (h : t < n) : (mixRow k r n data q t).set t ((xs (List.range q) fun j => gmul (genAt k r j) (dAt data j t)) ^^^ gmul (genAt k r q) (dAt data q t)) = mixRow k r n data q (t + 1) := by
  apply List.ext_getElem
  · rw [List.length_set, mix_len, mix_len]
  · intro i h1 h2
    rw [List.getElem_set, mix_get, mix_get]
    by_cases e : t = i
    · subst e
      rw [if_pos rfl, if_pos (by omega), xs_succ]
    · rw [if_neg e]
      by_cases h3 : i < t
      · rw [if_pos h3, if_pos (by omega)]
      · rw [if_neg h3, if_neg (by omega)]
def txt (l : List UInt8) : ByteArray := ⟨l.toArray⟩
theorem txt_list (l : List UInt8) : (txt l).data.toList = l := by unfold txt; simp
theorem txt_size (l : List UInt8) : (txt l).size = l.length := by show (List.toArray l).size = _; simp
/-- The first r of the parity's shards. -/
def parL (k n : Nat) (data : List ByteArray) (r : Nat) : List ByteArray := (List.range r).map fun i => txt (accRow k (k + i) n data k)
theorem parL_succ (k n : Nat) (data : List ByteArray) (r : Nat) : parL k n data (r + 1) = parL k n data r ++ [txt (accRow k (k + r) n data k)] := by
  unfold parL
  rw [List.range_succ, List.map_append]
  rfl
theorem parL_len (k n : Nat) (data : List ByteArray) (r : Nat) : (parL k n data r).length = r := by simp [parL]
def parityV (k m : Int) (data : List ByteArray) : List ByteArray × Int :=
  if codeB k m = true then (if (data.length : Int) = k ∧ evenB data = true then (if (rdOf ByteArray.empty data 0).size ≤ 2052 then (parL k.toNat (rdOf ByteArray.empty data 0).size data m.toNat, 0) else ([], 2)) else ([], 4)) else ([], 1)
theorem gen_byte (k m r j : Nat) (hr : r < k + m) (hj : j < k) : (genG k m).flatten[r * k + j]? = some (genAt k r j) := by
  have key : ∀ (n : Nat), n ≤ k + m → ∀ r, r < n → ((List.range n).map (genRow k)).flatten[r * k + j]? = some (genAt k r j) ∧ ((List.range n).map (genRow k)).flatten.length = n * k := by
    intro n
    induction n with
    | zero => intro _ r hr; omega
    | succ n ih =>
      intro hn r hr
      have hlen : ((List.range n).map (genRow k)).flatten.length = n * k := by
        cases n with
        | zero => simp
        | succ p => exact (ih (by omega) 0 (by omega)).2
      rw [List.range_succ, List.map_append, List.flatten_append]
      have e2 : (List.map (genRow k) [n]).flatten = genRow k n := by simp
      rw [e2]
      refine ⟨?_, by rw [List.length_append, hlen, genRow_len, Nat.succ_mul]⟩
      by_cases e : r = n
      · subst e
        rw [List.getElem?_append_right (by rw [hlen]; omega), hlen, Nat.add_sub_cancel_left]
        unfold genRow
        simp [hj]
      · have hb : r * k + j < n * k := by
          have : (r + 1) * k ≤ n * k := Nat.mul_le_mul_right _ (by omega)
          rw [Nat.succ_mul] at this
          omega
        rw [List.getElem?_append_left (by rw [hlen]; exact hb)]
        exact (ih (by omega) r (by omega)).1
  exact (key (k + m) (Nat.le_refl _) r hr).1
end Go.Proofs.YtegmmefijihdeaaDoor.PS
namespace Go.Proofs.YtegmmefijihdeaaDoor.MapN
open Go.RowKit Go.Maps Go.WideMaps
set_option linter.unusedVariables false
/-- An element told as the very value. -/
def Rv (v : Value) : Option (DataW Value × List MemPlace) := some (.held v, [])
theorem keyed3 : Keyed Tryd.prog 3 := int_keyed Tryd.underlying3
theorem key3 {i : Int} (h : -9223372036854775808 ≤ i ∧ i ≤ 9223372036854775807) : keyOf Tryd.prog 3 (.int .i64 i) = some (.int .i64 i) := keyOf_int_mk Tryd.underlying3 (WalkArith.wf_i64 (by omega))
theorem zero3 (w : World) : (zeroValue 3).run Tryd.prog w = .ok (.int .i64 0) w := by kernel_rfl
/-- At most N entries; the keys there are those at which f is true. -/
def KeysAt (w : World) (b N : Nat) (f : Int → Bool) : Prop := ∃ D : DataW Value, w.ownsMap Tryd.prog 3 Rv b N D ∧ ∀ i, Maps.has D (.int .i64 i) = f i
section
variable {w w' : World} {b N : Nat} {f : Int → Bool}
theorem grownBy_of_below {w w1 : World} (h : Below w.heap.size w w1) (row : Option Nat) : w.grownBy w1 row := ⟨h.os, h.tape, h.output, h.size, fun i hi _ => h.block i hi⟩
theorem KeysAt.made (w : World) : KeysAt (w.alloc (.map #[] 0)) w.heap.size 0 (fun _ => false) := ⟨.map [], World.ownsMap_made _ _ _ _, fun _ => rfl⟩
theorem KeysAt.kept (h : KeysAt w b N f) {row : Option Nat} (hg : w.grownBy w' row) (hne : some b ≠ row) : KeysAt w' b N f := by
  obtain ⟨D, ho, h1⟩ := h
  exact ⟨D, ho.kept hg hne, h1⟩
theorem KeysAt.below (h : KeysAt w b N f) (hb : Below w.heap.size w w') : KeysAt w' b N f := h.kept (grownBy_of_below hb none) (by simp)
theorem KeysAt.lt (h : KeysAt w b N f) : b < w.heap.size := by
  obtain ⟨D, ho, _⟩ := h
  exact ho.lt
theorem KeysAt.congr (h : KeysAt w b N f) {g : Int → Bool} (e : ∀ i, f i = g i) : KeysAt w b N g := by
  obtain ⟨D, ho, h1⟩ := h
  exact ⟨D, ho, fun i => (h1 i).trans (e i)⟩
theorem KeysAt.ne (h : KeysAt w b N f) {a : Addr} {v : Value} (hc : w.cell? a = some v) : a.block ≠ b := by
  obtain ⟨D, ⟨es, clock, hb, _⟩, _⟩ := h
  intro e
  subst e
  simp [World.cell?, hb] at hc
/-- 'v, ok := m[i]' -/
theorem KeysAt.look {ops : Array Oper} {rest : List Oper} {o : Oper} {a : Act} {Q : Exit → Act → World → Prop} (h : KeysAt w b N f) (hg : o.guard = none) (m x : Operand) (hop : o.op = Op.lookup 82 m x true)
    (hm : a.eval m = .map (some b)) (i : Int) (hx : a.eval x = .int .i64 i) (hi : -9223372036854775808 ≤ i ∧ i ≤ 9223372036854775807)
    (hK : ∀ v, wpList Tryd.prog ops Q rest (a.put o.dst (.tuple #[v, .bool (f i)])) w) : wpList Tryd.prog ops Q (o :: rest) a w := by
  obtain ⟨D, ho, h1⟩ := h
  refine wpList_lookup_own_ok w hg m x 82 hop 3 3 keyed3 Tryd.underlying82 Rv (zero3 w) (.held (.int .i64 0)) [] rfl b N D hm ho _ (.int .i64 i) hx (key3 hi) (fun v ps hv => ?_)
  rw [h1 i]
  exact hK v
/-- 'm[i] = v' -/
theorem KeysAt.store {ops : Array Oper} {rest : List Oper} {o : Oper} {a : Act} {Q : Exit → Act → World → Prop} (h : KeysAt w b N f) (hg : o.guard = none) (m x y : Operand) (hop : o.op = Op.mapUpdate 82 m x y)
    (hn : N < maxLen) (hm : a.eval m = .map (some b)) (i : Int) (hx : a.eval x = .int .i64 i) (hi : -9223372036854775808 ≤ i ∧ i ≤ 9223372036854775807) (v : Value) (hy : a.eval y = v)
    (hK : ∀ w', KeysAt w' b (N + 1) (fun q => decide (q = i) || f q) → w.grownBy w' (some b) → wpList Tryd.prog ops Q rest (a.put o.dst undef) w') : wpList Tryd.prog ops Q (o :: rest) a w := by
  obtain ⟨D, ho, h1⟩ := h
  refine wpList_mapUpdate_own w hg m x y 82 hop 3 3 keyed3 Tryd.underlying82 Rv b N D hm ho hn _ v (.int .i64 i) hx hy (key3 hi) (.held v) [] rfl (fun w' ho' hg' => hK w' ⟨_, ho', fun q => ?_⟩ hg')
  by_cases e1 : q = i
  · rw [e1, has_put_same ho.isMap (show WideAt.IsKeyLit (Lit.int .i64 i) from trivial)]
    simp
  · rw [has_put_other (fun h => e1 (by injection h)), h1]
    simp [e1]
end
end Go.Proofs.YtegmmefijihdeaaDoor.MapN
namespace Go.Proofs.YtegmmefijihdeaaDoor.PS
open Go.RowKit Go.Proofs.YtegmmefijihdeaaDoorW.PrintWords Go.Proofs.YtegmmefijihdeaaDoorW.PrintLast Go.Proofs.YtegmmefijihdeaaDoorW.PrintMore
attribute [local go_sem] Mk.str_leq Mk.str_gtr Mk.str_geq max2_int min2_int max_two min_two max_three min_three max_four min_four   -- for this text's walks alone
set_option linter.unusedVariables false
set_option linter.unusedSimpArgs false

/-! ### corncribref03_Code: function 25 -/
def corncribref03_Code.f (a0 : Int) (a1 : Int) : Option (Bool) := if a0 ≥ 1 then (if a0 ≤ 255 then (if a1 ≥ 0 then (some (decide (a1 ≤ (wrap64 (255 - a0))))) else (some false)) else (some false)) else (some false)
set_option maxHeartbeats 8000000 in
set_option maxRecDepth 100000 in
theorem corncribref03_Code.calls (a0 : Int) (a1 : Int) (r : Bool) (w : World) (h : corncribref03_Code.f a0 a1 = some r) :
  Calls Tryd.prog 25 #[.int .i64 a0, .int .i64 a1] w fun e w' => e = .returned (.bool r) ∧ Drawn0 w w' := by
 have H : (if a0 ≥ 1 then (if a0 ≤ 255 then (if a1 ≥ 0 then (some (decide (a1 ≤ (wrap64 (255 - a0))))) else (some false)) else (some false)) else (some false)) = some r := h
 clear h
 by_cases c3 : a0 ≥ 1
 ·rw [if_pos c3] at H
  have c3b0 : decide (1 ≤ a0) = true := decide_eq_true c3
  clear c3
  by_cases c4 : a0 ≤ 255
  ·rw [if_pos c4] at H
   have c4b0 : decide (a0 ≤ 255) = true := decide_eq_true c4
   clear c4
   by_cases c5 : a1 ≥ 0
   ·rw [if_pos c5] at H
    have c5b0 : decide (0 ≤ a1) = true := decide_eq_true c5
    clear c5
    obtain rfl := Option.some.inj H
    go_enter Tryd.func25, Tryd.ntmps25
    go_wp2
    go_ret
    exact ⟨by first | rfl | (simp; done) | (simp [*]; done), by repeat (first | exact Drawn0.refl _ | apply Drawn0.step)⟩
   ·rw [if_neg c5] at H
    have c5b0 : decide (0 ≤ a1) = false := decide_eq_false c5
    clear c5
    obtain rfl := Option.some.inj H
    go_enter Tryd.func25, Tryd.ntmps25
    go_wp2
    go_ret
    exact ⟨by first | rfl | (simp; done) | (simp [*]; done), by repeat (first | exact Drawn0.refl _ | apply Drawn0.step)⟩
  ·rw [if_neg c4] at H
   have c4b0 : decide (a0 ≤ 255) = false := decide_eq_false c4
   clear c4
   obtain rfl := Option.some.inj H
   go_enter Tryd.func25, Tryd.ntmps25
   go_wp2
   go_ret
   exact ⟨by first | rfl | (simp; done) | (simp [*]; done), by repeat (first | exact Drawn0.refl _ | apply Drawn0.step)⟩
 ·rw [if_neg c3] at H
  have c3b0 : decide (1 ≤ a0) = false := decide_eq_false c3
  clear c3
  obtain rfl := Option.some.inj H
  go_enter Tryd.func25, Tryd.ntmps25
  go_wp2
  go_ret
  exact ⟨by first | rfl | (simp; done) | (simp [*]; done), by repeat (first | exact Drawn0.refl _ | apply Drawn0.step)⟩

end Go.Proofs.YtegmmefijihdeaaDoor.PS
namespace Go.Proofs.YtegmmefijihdeaaDoor.PS
open Go.RowKit Go.Proofs.YtegmmefijihdeaaDoorW.PrintWords Go.Proofs.YtegmmefijihdeaaDoorW.PrintLast Go.Proofs.YtegmmefijihdeaaDoorW.PrintMore
attribute [local go_sem] Mk.str_leq Mk.str_gtr Mk.str_geq max2_int min2_int max_two min_two max_three min_three max_four min_four   -- for this text's walks alone
set_option linter.unusedVariables false
set_option linter.unusedSimpArgs false

/-! ### corncribref04_Check: function 35 -/
mutual
def corncribref04_Check.l0 : Nat → Int → Int → List (S62) → Int → Option (Int × Int)
 | 0, _, _, _, _ => none
 | k + 1, x0, x1, x2, x8 => if x8 < (x2.length : Int) then (if 0 ≤ x8 then (if ((rd_T62 x2 x8).f0) < 0 then (corncribref04_Check.j1 k x0 x1 x2 x8 true) else (corncribref04_Check.j1 k x0 x1 x2 x8 (decide (((rd_T62 x2 x8).f0) ≥ (wrap64 (x0 + x1)))))) else (none)) else (if (x2.length : Int) < x0 then (some ((-1), 40)) else (some (0, 0)))
def corncribref04_Check.j1 : Nat → Int → Int → List (S62) → Int → Bool → Option (Int × Int)
 | 0, _, _, _, _, _ => none
 | k + 1, x0, x1, x2, x8, x36 => if x36 = true then (some (x8, 1)) else (corncribref04_Check.l1 k x0 x1 x2 x8 0)
def corncribref04_Check.l1 : Nat → Int → Int → List (S62) → Int → Int → Option (Int × Int)
 | 0, _, _, _, _, _ => none
 | k + 1, x0, x1, x2, x8, x9 => if x9 < x8 then (if 0 ≤ x9 then (if x9 < (x2.length : Int) then (if 0 ≤ x8 then (if x8 < (x2.length : Int) then (if ((rd_T62 x2 x9).f0) = ((rd_T62 x2 x8).f0) then (some (x8, 6)) else (corncribref04_Check.l1 k x0 x1 x2 x8 (wrap64 (x9 + 1)))) else (none)) else (none)) else (none)) else (none)) else (if 0 ≤ x8 then (if x8 < (x2.length : Int) then (if (((rd_T62 x2 x8).f1).size : Int) > 2052 then (some (x8, 2)) else (if 0 < (x2.length : Int) then (if (((rd_T62 x2 x8).f1).size : Int) = (((rd_T62 x2 0).f1).size : Int) then (corncribref04_Check.l0 k x0 x1 x2 (wrap64 (x8 + 1))) else (some (x8, 4))) else (none))) else (none)) else (none))
end
def corncribref04_Check.f (k : Nat) (a0 : Int) (a1 : Int) (l2 : List (S62)) : Option (Int × Int) := (corncribref03_Code.f a0 a1).bind fun t386 => (if t386 = true then (corncribref04_Check.l0 k a0 a1 l2 0) else (some ((-1), 1)))
theorem corncribref04_Check.mono_l : ∀ k, (∀ y0 y1 y2 y3, LeO (corncribref04_Check.l0 k y0 y1 y2 y3) (corncribref04_Check.l0 (k + 1) y0 y1 y2 y3)) ∧ (∀ y0 y1 y2 y3 y4, LeO (corncribref04_Check.j1 k y0 y1 y2 y3 y4) (corncribref04_Check.j1 (k + 1) y0 y1 y2 y3 y4)) ∧ (∀ y0 y1 y2 y3 y4, LeO (corncribref04_Check.l1 k y0 y1 y2 y3 y4) (corncribref04_Check.l1 (k + 1) y0 y1 y2 y3 y4))
 | 0 => ⟨fun _ _ _ _ r h => by simp [corncribref04_Check.l0] at h, fun _ _ _ _ _ r h => by simp [corncribref04_Check.j1] at h, fun _ _ _ _ _ r h => by simp [corncribref04_Check.l1] at h⟩
 | k + 1 => by
  obtain ⟨ih0, ih1, ih2⟩ := corncribref04_Check.mono_l k
  refine ⟨?_, ?_, ?_⟩
  ·intro y0 y1 y2 y3
   unfold corncribref04_Check.l0
   repeat' first
   | (with_reducible exact ih0 _ _ _ _)
   | (with_reducible exact ih1 _ _ _ _ _)
   | (with_reducible exact ih2 _ _ _ _ _)
   | (with_reducible exact LeO.refl _)
   | (with_reducible exact LeO.none _)
   | (with_reducible refine LeO.ite ?_ ?_)
   | (with_reducible refine LeO.bind ?_ (fun _ => ?_))
   | exact ih0 _ _ _ _
   | exact ih1 _ _ _ _ _
   | exact ih2 _ _ _ _ _
   | exact LeO.none _
   | refine LeO.ite ?_ ?_
   | refine LeO.bind ?_ (fun _ => ?_)
  ·intro y0 y1 y2 y3 y4
   unfold corncribref04_Check.j1
   repeat' first
   | (with_reducible exact ih0 _ _ _ _)
   | (with_reducible exact ih1 _ _ _ _ _)
   | (with_reducible exact ih2 _ _ _ _ _)
   | (with_reducible exact LeO.refl _)
   | (with_reducible exact LeO.none _)
   | (with_reducible refine LeO.ite ?_ ?_)
   | (with_reducible refine LeO.bind ?_ (fun _ => ?_))
   | exact ih0 _ _ _ _
   | exact ih1 _ _ _ _ _
   | exact ih2 _ _ _ _ _
   | exact LeO.none _
   | refine LeO.ite ?_ ?_
   | refine LeO.bind ?_ (fun _ => ?_)
  ·intro y0 y1 y2 y3 y4
   unfold corncribref04_Check.l1
   repeat' first
   | (with_reducible exact ih0 _ _ _ _)
   | (with_reducible exact ih1 _ _ _ _ _)
   | (with_reducible exact ih2 _ _ _ _ _)
   | (with_reducible exact LeO.refl _)
   | (with_reducible exact LeO.none _)
   | (with_reducible refine LeO.ite ?_ ?_)
   | (with_reducible refine LeO.bind ?_ (fun _ => ?_))
   | exact ih0 _ _ _ _
   | exact ih1 _ _ _ _ _
   | exact ih2 _ _ _ _ _
   | exact LeO.none _
   | refine LeO.ite ?_ ?_
   | refine LeO.bind ?_ (fun _ => ?_)
theorem corncribref04_Check.mono : ∀ a0 a1 a2 k, LeO (corncribref04_Check.f k a0 a1 a2) (corncribref04_Check.f (k + 1) a0 a1 a2) := by
 intro a0 a1 a2 k
 obtain ⟨ih0, ih1, ih2⟩ := corncribref04_Check.mono_l k
 unfold corncribref04_Check.f
 repeat' first
   | (with_reducible exact ih0 _ _ _ _)
   | (with_reducible exact ih1 _ _ _ _ _)
   | (with_reducible exact ih2 _ _ _ _ _)
   | (with_reducible exact LeO.refl _)
   | (with_reducible exact LeO.none _)
   | (with_reducible refine LeO.ite ?_ ?_)
   | (with_reducible refine LeO.bind ?_ (fun _ => ?_))
   | exact ih0 _ _ _ _
   | exact ih1 _ _ _ _ _
   | exact ih2 _ _ _ _ _
   | exact LeO.none _
   | refine LeO.ite ?_ ?_
   | refine LeO.bind ?_ (fun _ => ?_)
set_option maxHeartbeats 8000000 in
set_option maxRecDepth 100000 in
theorem corncribref04_Check.calls (k : Nat) (a0 : Int) (a1 : Int) (A2 : Option Addr) (c2 : Nat) (l2 : List (S62)) (r1 : Int) (r2 : Int) (w : World) (hr2 : Kd.C k62 w A2 l2.length l2) (hc2 : l2.length ≤ c2) (h : corncribref04_Check.f k a0 a1 l2 = some (r1, r2)) :
  Calls Tryd.prog 35 #[.int .i64 a0, .int .i64 a1, .slice A2 l2.length c2] w fun e w' => e = .returned (.tuple #[.int .i64 r1, .int .i64 r2]) ∧ Drawn0 w w' := by
 have HR2 := Aside0.mk hr2
 have HC2 := Aside0.mk hc2
 clear hr2 hc2
 have H : ((corncribref03_Code.f a0 a1).bind fun t386 => (if t386 = true then (corncribref04_Check.l0 k a0 a1 l2 0) else (some ((-1), 1)))) = some (r1, r2) := h
 clear h
 replace H := Option.bind_eq_some_iff.mp H
 obtain ⟨t386, A40, H⟩ := H
 replace H : (if t386 = true then (corncribref04_Check.l0 k a0 a1 l2 0) else (some ((-1), 1))) = some (r1, r2) := H
 have A4 := Aside0.mk A40
 clear A40
 by_cases c5 : t386 = true
 ·subst c5
  have H1 : (corncribref04_Check.l0 k a0 a1 l2 0) = some (r1, r2) := by rw [if_pos rfl] at H; exact H
  clear H
  have H := H1
  clear H1
  have H' := Aside0.mk H
  clear H
  go_enter Tryd.func35, Tryd.ntmps35
  go_wp2_with (first | (go_at_call 25; (with_reducible refine (corncribref03_Code.calls a0 a1 true _ A4.out).mono ?_); rintro e w' ⟨rfl, ⟨nd, rfl⟩⟩; (try first | exact ⟨rfl, _, World.drewN_drewN _ _ _⟩ | exact ⟨rfl, _, Eq.trans (World.drewN_drewN _ _ _) (congrArg (World.drewN _) (Nat.add_assoc _ _ _))⟩)))
  repeat (go_quiet (first | (go_at_call 25; (with_reducible refine (corncribref03_Code.calls a0 a1 true _ A4.out).mono ?_); rintro e w' ⟨rfl, ⟨nd, rfl⟩⟩; (try first | exact ⟨rfl, _, World.drewN_drewN _ _ _⟩ | exact ⟨rfl, _, Eq.trans (World.drewN_drewN _ _ _) (congrArg (World.drewN _) (Nat.add_assoc _ _ _))⟩))); try go_wp2_with (first | (go_at_call 25; (with_reducible refine (corncribref03_Code.calls a0 a1 true _ A4.out).mono ?_); rintro e w' ⟨rfl, ⟨nd, rfl⟩⟩; (try first | exact ⟨rfl, _, World.drewN_drewN _ _ _⟩ | exact ⟨rfl, _, Eq.trans (World.drewN_drewN _ _ _) (congrArg (World.drewN _) (Nat.add_assoc _ _ _))⟩))))
  go_loopg [8] k (fun kq v8 w' => ∃ (x8_1 : Int), v8 = .int .i64 x8_1 ∧ Aside0 (corncribref04_Check.l0 kq a0 a1 l2 x8_1 = some (r1, r2)) ∧ Aside0 (kq ≤ k) ∧ Drawn0 w w')
  case atStart => exact ⟨(0), (by first | rfl | (simp; done) | (simp [*]; done)), H', ⟨Nat.le_refl _⟩, by repeat (first | exact Drawn0.refl _ | apply Drawn0.step)⟩
  case round =>
   clear H'
   try clear c2
   try clear p2
   try clear c3
   try clear c5
   obtain ⟨x8_1, rfl, HA, HK1, ⟨m1, rfl⟩⟩ := hrel
   cases gk with
   | zero => exact absurd HA.out (by simp [corncribref04_Check.l0])
   | succ k1 =>
    have H := HA.out
    clear HA
    simp only [corncribref04_Check.l0] at H
    by_cases c6 : x8_1 < (l2.length : Int)
    ·rw [if_pos c6] at H
     have c6b0 : decide (x8_1 < (l2.length : Int)) = true := decide_eq_true c6
     clear c6
     have HC7 := Aside0.mk H
     clear H
     go_upto_region 6 with (fail)
     repeat (go_quiet (fail); go_upto_region 6 with (fail))
     go_cut [36] (fun v36 wc => ∃ (kq : Nat) (x36_6 : Bool), v36 = .bool x36_6 ∧ Aside0 (corncribref04_Check.j1 kq a0 a1 l2 x8_1 x36_6 = some (r1, r2)) ∧ Aside0 (kq ≤ k1) ∧ Drawn0 w wc)
     case first =>
      have H := HC7.out
      clear HC7
      by_cases c8 : 0 ≤ x8_1
      ·rw [if_pos c8] at H
       have c8b0 : decide (0 ≤ x8_1) = true := decide_eq_true c8
       clear c8
       (first | rw [c8b0] | (simp only [i64_w, i32_w]; rw [c8b0]) | skip)
       by_cases c9 : ((rd_T62 l2 x8_1).f0) < 0
       ·rw [if_pos c9] at H
        have c9b0 : decide (((rd_T62 l2 x8_1).f0) < 0) = true := decide_eq_true c9
        clear c9
        have H' := Aside0.mk H
        clear H
        have p387 : 0 ≤ (x8_1 : Int) := of_decide_eq_true (by first | (with_reducible assumption) | assumption)
        have q387 : x8_1 < (l2.length : Int) := of_decide_eq_true (by first | (with_reducible assumption) | assumption)
        obtain ⟨ad387, e387, hx387_0, hx387_1⟩ := at_T62 HR2.out x8_1 p387 q387
        cases e387
        replace p387 := eq_true p387
        replace q387 := eq_true q387
        go_wp2
        repeat (go_quiet (fail); try go_wp2)
        go_meet
        case rel => exact ⟨_, (true), (by first | rfl | (simp; done) | (simp [*]; done)), H', ⟨by have := HK1.out; first | omega | exact Nat.le_refl _⟩, by repeat (first | exact Drawn0.refl _ | apply Drawn0.step)⟩
       ·rw [if_neg c9] at H
        have c9b0 : decide (((rd_T62 l2 x8_1).f0) < 0) = false := decide_eq_false c9
        clear c9
        have H' := Aside0.mk H
        clear H
        have p387 : 0 ≤ (x8_1 : Int) := of_decide_eq_true (by first | (with_reducible assumption) | assumption)
        have q387 : x8_1 < (l2.length : Int) := of_decide_eq_true (by first | (with_reducible assumption) | assumption)
        obtain ⟨ad387, e387, hx387_0, hx387_1⟩ := at_T62 HR2.out x8_1 p387 q387
        cases e387
        replace p387 := eq_true p387
        replace q387 := eq_true q387
        have p388 : 0 ≤ (x8_1 : Int) := of_decide_eq_true (by first | (with_reducible assumption) | assumption)
        have q388 : x8_1 < (l2.length : Int) := of_decide_eq_true (by first | (with_reducible assumption) | assumption)
        obtain ⟨ad388, e388, hx388_0, hx388_1⟩ := at_T62 HR2.out x8_1 p388 q388
        obtain rfl : ad387 = ad388 := (by injection e388)
        replace p388 := eq_true p388
        replace q388 := eq_true q388
        go_wp2
        repeat (go_quiet (fail); try go_wp2)
        go_meet
        case rel => exact ⟨_, (decide (((rd_T62 l2 x8_1).f0) ≥ (wrap64 (a0 + a1)))), (by first | rfl | (simp; done) | (simp [*]; done)), H', ⟨by have := HK1.out; first | omega | exact Nat.le_refl _⟩, by repeat (first | exact Drawn0.refl _ | apply Drawn0.step)⟩
      ·rw [if_neg c8] at H
       exact absurd H (by simp)
     case rest =>
      clear HC7
      try clear c2
      try clear p2
      try clear c3
      try clear p3
      try clear q3
      try clear hx3
      try clear c5
      try clear c6
      try clear c6b0
      try clear p6
      try clear c8
      try clear c8b0
      try clear c9
      try clear c9b0
      try clear hx387_0
      try clear hx387_1
      try clear hx388_0
      try clear hx388_1
      try clear p2
      try clear p387
      try clear p388
      try clear q387
      try clear q388
      obtain ⟨kq, x36_6, rfl, HA, HJ6, ⟨mc6, rfl⟩⟩ := hcut
      cases kq with
      | zero => exact absurd HA.out (by simp [corncribref04_Check.j1])
      | succ kj6 =>
       have H := HA.out
       clear HA
       simp only [corncribref04_Check.j1] at H
       by_cases c10 : x36_6 = true
       ·subst c10
        have H1 : (some (x8_1, 1)) = some (r1, r2) := by rw [if_pos rfl] at H; exact H
        clear H
        have H := H1
        clear H1
        simp only [Option.some.injEq, Prod.mk.injEq] at H
        obtain ⟨rfl, rfl⟩ := H
        go_wp2
        repeat (go_quiet (fail); try go_wp2)
        go_ret2
        exact ⟨by first | rfl | (simp; done) | (simp [*]; done), by repeat (first | exact Drawn0.refl _ | apply Drawn0.step)⟩
       ·replace c10 := Bool.eq_false_iff.mpr c10
        subst c10
        have H1 : (corncribref04_Check.l1 kj6 a0 a1 l2 x8_1 0) = some (r1, r2) := by rw [if_neg (show ¬ (false = true) by decide)] at H; exact H
        clear H
        have H := H1
        clear H1
        have H' := Aside0.mk H
        clear H
        go_wp2
        repeat (go_quiet (fail); try go_wp2)
        go_loopg [9] kj6 (fun kq v9 w' => ∃ (x9_3 : Int), v9 = .int .i64 x9_3 ∧ Aside0 (corncribref04_Check.l1 kq a0 a1 l2 x8_1 x9_3 = some (r1, r2)) ∧ Aside0 (kq ≤ kj6) ∧ Drawn0 w w')
        case atStart => exact ⟨(0), (by first | rfl | (simp; done) | (simp [*]; done)), H', ⟨Nat.le_refl _⟩, by repeat (first | exact Drawn0.refl _ | apply Drawn0.step)⟩
        case round =>
         clear H'
         try clear c1
         try clear c2
         try clear p2
         try clear c3
         try clear p3
         try clear q3
         try clear hx3
         try clear c5
         try clear c6
         try clear c6b0
         try clear p6
         try clear c8
         try clear c8b0
         try clear c9
         try clear c9b0
         try clear c10
         try clear hx387_0
         try clear hx387_1
         try clear hx388_0
         try clear hx388_1
         try clear p2
         try clear p3
         try clear p387
         try clear p388
         try clear p6
         try clear q3
         try clear q387
         try clear q388
         obtain ⟨x9_3, rfl, HA, HK3, ⟨m3, rfl⟩⟩ := hrel
         cases gk with
         | zero => exact absurd HA.out (by simp [corncribref04_Check.l1])
         | succ k3 =>
          have H := HA.out
          clear HA
          simp only [corncribref04_Check.l1] at H
          by_cases c11 : x9_3 < x8_1
          ·rw [if_pos c11] at H
           have c11b0 : decide (x9_3 < x8_1) = true := decide_eq_true c11
           clear c11
           by_cases c12 : 0 ≤ x9_3
           ·rw [if_pos c12] at H
            have c12b0 : decide (0 ≤ x9_3) = true := decide_eq_true c12
            clear c12
            by_cases c13 : x9_3 < (l2.length : Int)
            ·rw [if_pos c13] at H
             have c13b0 : decide (x9_3 < (l2.length : Int)) = true := decide_eq_true c13
             clear c13
             by_cases c14 : 0 ≤ x8_1
             ·rw [if_pos c14] at H
              have c14b0 : decide (0 ≤ x8_1) = true := decide_eq_true c14
              clear c14
              by_cases c15 : x8_1 < (l2.length : Int)
              ·rw [if_pos c15] at H
               have c15b0 : decide (x8_1 < (l2.length : Int)) = true := decide_eq_true c15
               clear c15
               by_cases c16 : ((rd_T62 l2 x9_3).f0) = ((rd_T62 l2 x8_1).f0)
               ·rw [if_pos c16] at H
                have c16b0 : (((rd_T62 l2 x9_3).f0) == ((rd_T62 l2 x8_1).f0)) = true := beq_iff_eq.mpr c16
                have c16b1 : (((rd_T62 l2 x9_3).f0) != ((rd_T62 l2 x8_1).f0)) = false := bne_eq_false_iff_eq.mpr c16
                clear c16
                simp only [Option.some.injEq, Prod.mk.injEq] at H
                obtain ⟨rfl, rfl⟩ := H
                have p389 : 0 ≤ (x9_3 : Int) := of_decide_eq_true (by first | (with_reducible assumption) | assumption)
                have q389 : x9_3 < (l2.length : Int) := of_decide_eq_true (by first | (with_reducible assumption) | assumption)
                obtain ⟨ad389, e389, hx389_0, hx389_1⟩ := at_T62 HR2.out x9_3 p389 q389
                cases e389
                replace p389 := eq_true p389
                replace q389 := eq_true q389
                have p390 : 0 ≤ (x8_1 : Int) := of_decide_eq_true (by first | (with_reducible assumption) | assumption)
                have q390 : x8_1 < (l2.length : Int) := of_decide_eq_true (by first | (with_reducible assumption) | assumption)
                obtain ⟨ad390, e390, hx390_0, hx390_1⟩ := at_T62 HR2.out x8_1 p390 q390
                obtain rfl : ad389 = ad390 := (by injection e390)
                replace p390 := eq_true p390
                replace q390 := eq_true q390
                go_wp2
                repeat (go_quiet (fail); try go_wp2)
                go_ret2
                exact ⟨by first | rfl | (simp; done) | (simp [*]; done), by repeat (first | exact Drawn0.refl _ | apply Drawn0.step)⟩
               ·rw [if_neg c16] at H
                have c16b0 : (((rd_T62 l2 x9_3).f0) == ((rd_T62 l2 x8_1).f0)) = false := beq_eq_false_iff_ne.mpr c16
                have c16b1 : (((rd_T62 l2 x9_3).f0) != ((rd_T62 l2 x8_1).f0)) = true := bne_iff_ne.mpr c16
                have H' := Aside0.mk H
                clear H
                have p389 : 0 ≤ (x9_3 : Int) := of_decide_eq_true (by first | (with_reducible assumption) | assumption)
                have q389 : x9_3 < (l2.length : Int) := of_decide_eq_true (by first | (with_reducible assumption) | assumption)
                obtain ⟨ad389, e389, hx389_0, hx389_1⟩ := at_T62 HR2.out x9_3 p389 q389
                cases e389
                replace p389 := eq_true p389
                replace q389 := eq_true q389
                have p390 : 0 ≤ (x8_1 : Int) := of_decide_eq_true (by first | (with_reducible assumption) | assumption)
                have q390 : x8_1 < (l2.length : Int) := of_decide_eq_true (by first | (with_reducible assumption) | assumption)
                obtain ⟨ad390, e390, hx390_0, hx390_1⟩ := at_T62 HR2.out x8_1 p390 q390
                obtain rfl : ad389 = ad390 := (by injection e390)
                replace p390 := eq_true p390
                replace q390 := eq_true q390
                go_wp2
                repeat (go_quiet (fail); try go_wp2)
                go_roundg k3
                case measure => have := HK1.out; have := HJ6.out; have := HK3.out; omega
                case rel => exact ⟨(wrap64 (x9_3 + 1)), (by first | rfl | (simp; done) | (simp [*]; done)), H', ⟨by have := HK1.out; have := HJ6.out; have := HK3.out; omega⟩, by repeat (first | exact Drawn0.refl _ | apply Drawn0.step)⟩
              ·rw [if_neg c15] at H
               exact absurd H (by simp)
             ·rw [if_neg c14] at H
              exact absurd H (by simp)
            ·rw [if_neg c13] at H
             exact absurd H (by simp)
           ·rw [if_neg c12] at H
            exact absurd H (by simp)
          ·rw [if_neg c11] at H
           have c11b0 : decide (x9_3 < x8_1) = false := decide_eq_false c11
           clear c11
           by_cases c17 : 0 ≤ x8_1
           ·rw [if_pos c17] at H
            have c17b0 : decide (0 ≤ x8_1) = true := decide_eq_true c17
            clear c17
            by_cases c18 : x8_1 < (l2.length : Int)
            ·rw [if_pos c18] at H
             have c18b0 : decide (x8_1 < (l2.length : Int)) = true := decide_eq_true c18
             clear c18
             by_cases c19 : (((rd_T62 l2 x8_1).f1).size : Int) > 2052
             ·rw [if_pos c19] at H
              have c19b0 : decide (2052 < (((rd_T62 l2 x8_1).f1).size : Int)) = true := decide_eq_true c19
              have c19b1 : decide (2052 < ((rd_T62 l2 x8_1).f1).size) = true := decide_eq_true (by omega)
              clear c19
              simp only [Option.some.injEq, Prod.mk.injEq] at H
              obtain ⟨rfl, rfl⟩ := H
              have p391 : 0 ≤ (x8_1 : Int) := of_decide_eq_true (by first | (with_reducible assumption) | assumption)
              have q391 : x8_1 < (l2.length : Int) := of_decide_eq_true (by first | (with_reducible assumption) | assumption)
              obtain ⟨ad391, e391, hx391_0, hx391_1⟩ := at_T62 HR2.out x8_1 p391 q391
              cases e391
              replace p391 := eq_true p391
              replace q391 := eq_true q391
              go_wp2
              repeat (go_quiet (fail); try go_wp2)
              go_ret2
              exact ⟨by first | rfl | (simp; done) | (simp [*]; done), by repeat (first | exact Drawn0.refl _ | apply Drawn0.step)⟩
             ·rw [if_neg c19] at H
              have c19b0 : decide (2052 < (((rd_T62 l2 x8_1).f1).size : Int)) = false := decide_eq_false c19
              have c19b1 : decide (2052 < ((rd_T62 l2 x8_1).f1).size) = false := decide_eq_false (by omega)
              clear c19
              by_cases c20 : 0 < (l2.length : Int)
              ·rw [if_pos c20] at H
               have c20b0 : decide (0 < (l2.length : Int)) = true := decide_eq_true c20
               have c20b1 : decide (0 < l2.length) = true := decide_eq_true (by omega)
               clear c20
               by_cases c21 : (((rd_T62 l2 x8_1).f1).size : Int) = (((rd_T62 l2 0).f1).size : Int)
               ·rw [if_pos c21] at H
                have c21b0 : ((((rd_T62 l2 x8_1).f1).size : Int) == (((rd_T62 l2 0).f1).size : Int)) = true := beq_iff_eq.mpr c21
                have c21b1 : ((((rd_T62 l2 x8_1).f1).size : Int) != (((rd_T62 l2 0).f1).size : Int)) = false := bne_eq_false_iff_eq.mpr c21
                have c21b2 : (((rd_T62 l2 x8_1).f1).size == ((rd_T62 l2 0).f1).size) = true := by first | simpa using c21 | (simp at c21 ⊢; omega)
                clear c21
                have H' := Aside0.mk H
                clear H
                have p391 : 0 ≤ (x8_1 : Int) := of_decide_eq_true (by first | (with_reducible assumption) | assumption)
                have q391 : x8_1 < (l2.length : Int) := of_decide_eq_true (by first | (with_reducible assumption) | assumption)
                obtain ⟨ad391, e391, hx391_0, hx391_1⟩ := at_T62 HR2.out x8_1 p391 q391
                cases e391
                replace p391 := eq_true p391
                replace q391 := eq_true q391
                have p392 : 0 ≤ (x8_1 : Int) := of_decide_eq_true (by first | (with_reducible assumption) | assumption)
                have q392 : x8_1 < (l2.length : Int) := of_decide_eq_true (by first | (with_reducible assumption) | assumption)
                obtain ⟨ad392, e392, hx392_0, hx392_1⟩ := at_T62 HR2.out x8_1 p392 q392
                obtain rfl : ad391 = ad392 := (by injection e392)
                replace p392 := eq_true p392
                replace q392 := eq_true q392
                have p393 : 0 ≤ (0 : Int) := (by omega)
                have q393 : 0 < (l2.length : Int) := of_decide_eq_true (by first | (with_reducible assumption) | assumption)
                obtain ⟨ad393, e393, hx393_0, hx393_1⟩ := at_T62 HR2.out 0 p393 q393
                obtain rfl : ad391 = ad393 := (by injection e393)
                have qi393 : (0 < l2.length) = True := eq_true (by omega)
                (try rw [show ((0 : Int)).toNat = 0 from rfl] at hx393_0)
                (try rw [show 0 * 2 = 0 from rfl] at hx393_0)
                (try rw [Addr.add_zero'] at hx393_0)
                (try rw [show ((0 : Int)).toNat = 0 from rfl] at hx393_1)
                (try rw [show 0 * 2 = 0 from rfl] at hx393_1)
                (try rw [Addr.add_zero'] at hx393_1)
                replace p393 := eq_true p393
                replace q393 := eq_true q393
                go_wp2
                repeat (go_quiet (fail); try go_wp2)
                go_roundg k3
                case measure => have := HK1.out; have := HJ6.out; have := HK3.out; omega
                case rel => exact ⟨(wrap64 (x8_1 + 1)), (by first | rfl | (simp; done) | (simp [*]; done)), H', ⟨by have := HK1.out; have := HJ6.out; have := HK3.out; omega⟩, by repeat (first | exact Drawn0.refl _ | apply Drawn0.step)⟩
               ·rw [if_neg c21] at H
                have c21b0 : ((((rd_T62 l2 x8_1).f1).size : Int) == (((rd_T62 l2 0).f1).size : Int)) = false := beq_eq_false_iff_ne.mpr c21
                have c21b1 : ((((rd_T62 l2 x8_1).f1).size : Int) != (((rd_T62 l2 0).f1).size : Int)) = true := bne_iff_ne.mpr c21
                have c21b2 : (((rd_T62 l2 x8_1).f1).size == ((rd_T62 l2 0).f1).size) = false := by first | simpa using c21 | (simp at c21 ⊢; omega)
                simp only [Option.some.injEq, Prod.mk.injEq] at H
                obtain ⟨rfl, rfl⟩ := H
                have p391 : 0 ≤ (x8_1 : Int) := of_decide_eq_true (by first | (with_reducible assumption) | assumption)
                have q391 : x8_1 < (l2.length : Int) := of_decide_eq_true (by first | (with_reducible assumption) | assumption)
                obtain ⟨ad391, e391, hx391_0, hx391_1⟩ := at_T62 HR2.out x8_1 p391 q391
                cases e391
                replace p391 := eq_true p391
                replace q391 := eq_true q391
                have p392 : 0 ≤ (x8_1 : Int) := of_decide_eq_true (by first | (with_reducible assumption) | assumption)
                have q392 : x8_1 < (l2.length : Int) := of_decide_eq_true (by first | (with_reducible assumption) | assumption)
                obtain ⟨ad392, e392, hx392_0, hx392_1⟩ := at_T62 HR2.out x8_1 p392 q392
                obtain rfl : ad391 = ad392 := (by injection e392)
                replace p392 := eq_true p392
                replace q392 := eq_true q392
                have p393 : 0 ≤ (0 : Int) := (by omega)
                have q393 : 0 < (l2.length : Int) := of_decide_eq_true (by first | (with_reducible assumption) | assumption)
                obtain ⟨ad393, e393, hx393_0, hx393_1⟩ := at_T62 HR2.out 0 p393 q393
                obtain rfl : ad391 = ad393 := (by injection e393)
                have qi393 : (0 < l2.length) = True := eq_true (by omega)
                (try rw [show ((0 : Int)).toNat = 0 from rfl] at hx393_0)
                (try rw [show 0 * 2 = 0 from rfl] at hx393_0)
                (try rw [Addr.add_zero'] at hx393_0)
                (try rw [show ((0 : Int)).toNat = 0 from rfl] at hx393_1)
                (try rw [show 0 * 2 = 0 from rfl] at hx393_1)
                (try rw [Addr.add_zero'] at hx393_1)
                replace p393 := eq_true p393
                replace q393 := eq_true q393
                go_wp2
                repeat (go_quiet (fail); try go_wp2)
                go_ret2
                exact ⟨by first | rfl | (simp; done) | (simp [*]; done), by repeat (first | exact Drawn0.refl _ | apply Drawn0.step)⟩
              ·rw [if_neg c20] at H
               exact absurd H (by simp)
            ·rw [if_neg c18] at H
             exact absurd H (by simp)
           ·rw [if_neg c17] at H
            exact absurd H (by simp)
    ·rw [if_neg c6] at H
     have c6b0 : decide (x8_1 < (l2.length : Int)) = false := decide_eq_false c6
     clear c6
     by_cases c22 : (l2.length : Int) < a0
     ·rw [if_pos c22] at H
      have c22b0 : decide ((l2.length : Int) < a0) = true := decide_eq_true c22
      clear c22
      simp only [Option.some.injEq, Prod.mk.injEq] at H
      obtain ⟨rfl, rfl⟩ := H
      go_wp2
      repeat (go_quiet (fail); try go_wp2)
      go_ret2
      exact ⟨by first | rfl | (simp; done) | (simp [*]; done), by repeat (first | exact Drawn0.refl _ | apply Drawn0.step)⟩
     ·rw [if_neg c22] at H
      have c22b0 : decide ((l2.length : Int) < a0) = false := decide_eq_false c22
      clear c22
      simp only [Option.some.injEq, Prod.mk.injEq] at H
      obtain ⟨rfl, rfl⟩ := H
      go_wp2
      repeat (go_quiet (fail); try go_wp2)
      go_ret2
      exact ⟨by first | rfl | (simp; done) | (simp [*]; done), by repeat (first | exact Drawn0.refl _ | apply Drawn0.step)⟩
 ·replace c5 := Bool.eq_false_iff.mpr c5
  subst c5
  have H1 : (some ((-1), 1)) = some (r1, r2) := by rw [if_neg (show ¬ (false = true) by decide)] at H; exact H
  clear H
  have H := H1
  clear H1
  simp only [Option.some.injEq, Prod.mk.injEq] at H
  obtain ⟨rfl, rfl⟩ := H
  go_enter Tryd.func35, Tryd.ntmps35
  go_wp2_with (first | (go_at_call 25; (with_reducible refine (corncribref03_Code.calls a0 a1 false _ A4.out).mono ?_); rintro e w' ⟨rfl, ⟨nd, rfl⟩⟩; (try first | exact ⟨rfl, _, World.drewN_drewN _ _ _⟩ | exact ⟨rfl, _, Eq.trans (World.drewN_drewN _ _ _) (congrArg (World.drewN _) (Nat.add_assoc _ _ _))⟩)))
  repeat (go_quiet (first | (go_at_call 25; (with_reducible refine (corncribref03_Code.calls a0 a1 false _ A4.out).mono ?_); rintro e w' ⟨rfl, ⟨nd, rfl⟩⟩; (try first | exact ⟨rfl, _, World.drewN_drewN _ _ _⟩ | exact ⟨rfl, _, Eq.trans (World.drewN_drewN _ _ _) (congrArg (World.drewN _) (Nat.add_assoc _ _ _))⟩))); try go_wp2_with (first | (go_at_call 25; (with_reducible refine (corncribref03_Code.calls a0 a1 false _ A4.out).mono ?_); rintro e w' ⟨rfl, ⟨nd, rfl⟩⟩; (try first | exact ⟨rfl, _, World.drewN_drewN _ _ _⟩ | exact ⟨rfl, _, Eq.trans (World.drewN_drewN _ _ _) (congrArg (World.drewN _) (Nat.add_assoc _ _ _))⟩))))
  go_ret2
  exact ⟨by first | rfl | (simp; done) | (simp [*]; done), by repeat (first | exact Drawn0.refl _ | apply Drawn0.step)⟩

end Go.Proofs.YtegmmefijihdeaaDoor.PS
namespace Go.Proofs.YtegmmefijihdeaaDoor.PS
open Go.RowKit Go.Proofs.YtegmmefijihdeaaDoorW.PrintWords Go.Proofs.YtegmmefijihdeaaDoorW.PrintLast Go.Proofs.YtegmmefijihdeaaDoorW.PrintMore Go.Proofs.YtegmmefijihdeaaDoor.MapN
set_option linter.unusedVariables false
set_option linter.unusedSimpArgs false
def seenB (l : List S62) (i : Nat) (q : Int) : Bool := (List.range i).any fun j => decide ((rd_T62 l (j : Int)).f0 = q)
theorem seenB_succ (l : List S62) (i : Nat) (q : Int) : seenB l (i + 1) q = (decide (q = (rd_T62 l (i : Int)).f0) || seenB l i q) := by
  unfold seenB
  rw [List.range_succ, List.any_append, Bool.or_comm]
  simp [eq_comm]
/-- What is wrong with shard i; 0: nothing. -/
def errAt (k m : Int) (l : List S62) (i : Nat) : Int :=
  if (rd_T62 l (i : Int)).f0 < 0 ∨ k + m ≤ (rd_T62 l (i : Int)).f0 then 1 else if seenB l i (rd_T62 l (i : Int)).f0 = true then 6 else if 2052 < (rd_T62 l (i : Int)).f1.size then 2 else if (rd_T62 l (i : Int)).f1.size ≠ (rd_T62 l 0).f1.size then 4 else 0
def scanC (k m : Int) (l : List S62) : Nat → Nat → Int × Int
  | 0, _ => if (l.length : Int) < k then (-1, 40) else (0, 0)
  | d + 1, i => if errAt k m l i = 0 then scanC k m l d (i + 1) else ((i : Int), errAt k m l i)
def checkV (k m : Int) (l : List S62) : Int × Int := if codeB k m = true then scanC k m l l.length 0 else (-1, 1)
/-! The document's. -/
theorem refdup (k m : Int) (l : List S62) (i : Nat) (hi : i < l.length) (hl : l.length ≤ 9223372036854775807) (r : Int × Int)
    (hr : Ev (fun f => if (((rd_T62 l (i : Int)).f1).size : Int) > 2052 then (some ((i : Int), (2 : Int))) else (if 0 < (l.length : Int) then (if (((rd_T62 l (i : Int)).f1).size : Int) = (((rd_T62 l 0).f1).size : Int) then (corncribref04_Check.l0 f k m l (wrap64 ((i : Int) + 1))) else (some ((i : Int), 4))) else (none))) r) (d : Nat) :
    ∀ j, j + d = i → seenB l j (rd_T62 l (i : Int)).f0 = false → Ev (fun f => corncribref04_Check.l1 f k m l (i : Int) (j : Int)) (if seenB l i (rd_T62 l (i : Int)).f0 = true then ((i : Int), 6) else r) := by
  induction d with
  | zero =>
    intro j hj hs
    have e : j = i := by omega
    subst e
    rw [if_neg (by rw [hs]; decide)]
    refine Ev.step (fun f => ?_) hr
    simp only [corncribref04_Check.l1]
    rw [if_neg (by omega), if_pos (by omega), if_pos (by omega)]
  | succ d ih =>
    intro j hj hs
    by_cases e : (rd_T62 l (j : Int)).f0 = (rd_T62 l (i : Int)).f0
    · have ht : seenB l i (rd_T62 l (i : Int)).f0 = true := by
        unfold seenB
        rw [List.any_eq_true]
        exact ⟨j, List.mem_range.2 (by omega), by simpa using e⟩
      rw [if_pos ht]
      refine ⟨1, fun f hf => ?_⟩
      obtain ⟨g, rfl⟩ : ∃ g, f = g + 1 := ⟨f - 1, by omega⟩
      show corncribref04_Check.l1 (g + 1) k m l (i : Int) (j : Int) = _
      simp only [corncribref04_Check.l1]
      rw [if_pos (by omega), if_pos (by omega), if_pos (by omega), if_pos (by omega), if_pos (by omega), if_pos e]
    · refine Ev.step (f := fun f => corncribref04_Check.l1 f k m l (i : Int) ((j + 1 : Nat) : Int)) (fun f => ?_) (ih (j + 1) (by omega) ?_)
      · simp only [corncribref04_Check.l1]
        rw [if_pos (by omega), if_pos (by omega), if_pos (by omega), if_pos (by omega), if_pos (by omega), if_neg e, w64_in ((j : Int) + 1) (by omega) (by omega)]
        rfl
      · rw [seenB_succ, hs, Bool.or_false]
        exact decide_eq_false (fun h => e h.symm)
theorem refscan (k m : Int) (hc : codeB k m = true) (l : List S62) (hl : l.length < 9223372036854775807) (d : Nat) : ∀ i, i + d = l.length → Ev (fun f => corncribref04_Check.l0 f k m l (i : Int)) (scanC k m l d i) := by
  have hkm : wrap64 (k + m) = k + m := by
    unfold codeB at hc
    have := of_decide_eq_true hc
    exact w64_in _ (by omega) (by omega)
  induction d with
  | zero =>
    intro i hi
    refine ⟨1, fun f hf => ?_⟩
    obtain ⟨g, rfl⟩ : ∃ g, f = g + 1 := ⟨f - 1, by omega⟩
    show corncribref04_Check.l0 (g + 1) k m l (i : Int) = _
    simp only [corncribref04_Check.l0]
    rw [if_neg (by omega)]
    unfold scanC
    by_cases h : (l.length : Int) < k
    · rw [if_pos h, if_pos h]
    · rw [if_neg h, if_neg h]
  | succ d ih =>
    intro i hi
    have hi' : i < l.length := by omega
    have key : ∀ b : Bool, b = decide ((rd_T62 l (i : Int)).f0 < 0 ∨ k + m ≤ (rd_T62 l (i : Int)).f0) → Ev (fun f => corncribref04_Check.j1 f k m l (i : Int) b) (scanC k m l (d + 1) i) := by
      intro b hb
      unfold scanC
      by_cases h1 : (rd_T62 l (i : Int)).f0 < 0 ∨ k + m ≤ (rd_T62 l (i : Int)).f0
      · have he : errAt k m l i = 1 := by unfold errAt; rw [if_pos h1]
        rw [he, if_neg (by decide)]
        rw [decide_eq_true h1] at hb
        subst hb
        refine ⟨1, fun f hf => ?_⟩
        obtain ⟨g, rfl⟩ : ∃ g, f = g + 1 := ⟨f - 1, by omega⟩
        show corncribref04_Check.j1 (g + 1) k m l (i : Int) true = _
        simp only [corncribref04_Check.j1]
        rw [if_pos trivial]
      · rw [decide_eq_false h1] at hb
        subst hb
        refine Ev.step (f := fun f => corncribref04_Check.l1 f k m l (i : Int) ((0 : Nat) : Int)) (fun f => ?_) ?_
        · simp only [corncribref04_Check.j1]
          rw [if_neg (by decide)]
          rfl
        · have he : errAt k m l i = if seenB l i (rd_T62 l (i : Int)).f0 = true then 6 else if 2052 < (rd_T62 l (i : Int)).f1.size then 2 else if (rd_T62 l (i : Int)).f1.size ≠ (rd_T62 l 0).f1.size then 4 else 0 := by
            unfold errAt
            rw [if_neg h1]
          have hE := refdup k m l i hi' (by omega) (if 2052 < (rd_T62 l (i : Int)).f1.size then ((i : Int), 2) else if (rd_T62 l (i : Int)).f1.size ≠ (rd_T62 l 0).f1.size then ((i : Int), 4) else scanC k m l d (i + 1)) (by
            by_cases h2 : 2052 < (rd_T62 l (i : Int)).f1.size
            · rw [if_pos h2]
              exact ⟨0, fun f _ => by show (if _ then _ else _) = _; rw [if_pos (by omega)]⟩
            · rw [if_neg h2]
              by_cases h3 : (rd_T62 l (i : Int)).f1.size ≠ (rd_T62 l 0).f1.size
              · rw [if_pos h3]
                exact ⟨0, fun f _ => by show (if _ then _ else _) = _; rw [if_neg (by omega), if_pos (by omega), if_neg (by omega)]⟩
              · rw [if_neg h3]
                refine Ev.congr (fun f => ?_) (ih (i + 1) (by omega))
                show (if _ then _ else _) = _
                rw [if_neg (by omega), if_pos (by omega), if_pos (by omega), w64_in ((i : Int) + 1) (by omega) (by omega)]
                rfl) i 0 (by omega) rfl
          rw [he]
          by_cases h2 : seenB l i (rd_T62 l (i : Int)).f0 = true
          · rw [if_pos h2] at hE ⊢
            rw [if_neg (by decide)]
            exact hE
          · rw [if_neg h2] at hE ⊢
            by_cases h3 : 2052 < (rd_T62 l (i : Int)).f1.size
            · rw [if_pos h3] at hE ⊢
              rw [if_neg (by decide)]
              exact hE
            · rw [if_neg h3] at hE ⊢
              by_cases h4 : (rd_T62 l (i : Int)).f1.size ≠ (rd_T62 l 0).f1.size
              · rw [if_pos h4] at hE ⊢
                rw [if_neg (by decide)]
                exact hE
              · rw [if_neg h4] at hE ⊢
                rw [if_pos rfl]
                exact hE
    by_cases h0 : (rd_T62 l (i : Int)).f0 < 0
    · refine Ev.step (fun f => ?_) (key true (decide_eq_true (.inl h0)).symm)
      simp only [corncribref04_Check.l0]
      rw [if_pos (by omega), if_pos (by omega), if_pos h0]
    · refine Ev.step (fun f => ?_) (key (decide ((rd_T62 l (i : Int)).f0 ≥ k + m)) (by rw [decide_eq_decide]; omega))
      simp only [corncribref04_Check.l0]
      rw [if_pos (by omega), if_pos (by omega), if_neg h0, hkm]
theorem refcheck_ev (k m : Int) (l : List S62) (hl : l.length < 9223372036854775807) : Ev (fun f => corncribref04_Check.f f k m l) (checkV k m l) := by
  unfold checkV
  cases hc : codeB k m with
  | true =>
    rw [if_pos rfl]
    refine Ev.congr (fun f => ?_) (refscan k m hc l hl l.length 0 (by omega))
    unfold corncribref04_Check.f
    rw [show corncribref03_Code.f k m = some true from (code_f k m).trans (by rw [hc]), Option.bind_some, if_pos rfl]
    rfl
  | false =>
    rw [if_neg (by decide)]
    refine ⟨0, fun f _ => ?_⟩
    show corncribref04_Check.f f k m l = _
    unfold corncribref04_Check.f
    rw [show corncribref03_Code.f k m = some false from (code_f k m).trans (by rw [hc]), Option.bind_some, if_neg (by decide)]
/-! The walk. -/
theorem wfL_get {l : List S62} (h : ∀ x, x ∈ l → -9223372036854775808 ≤ x.f0 ∧ x.f0 ≤ 9223372036854775807) (i : Nat) (hi : i < l.length) : -9223372036854775808 ≤ (rd_T62 l (i : Int)).f0 ∧ (rd_T62 l (i : Int)).f0 ≤ 9223372036854775807 := by
  have : rd_T62 l (i : Int) = l[i] := by
    unfold rd_T62
    rw [Int.toNat_natCast, List.getD_eq_getElem?_getD, List.getElem?_eq_getElem hi]
    rfl
  rw [this]
  exact h _ (List.getElem_mem hi)
theorem below_over {b : Nat} {w W W' : World} (h : Below w.heap.size w W) (hg : W.grownBy W' (some b)) (hb : w.heap.size ≤ b) : Below w.heap.size w W' :=
  h.trans ⟨hg.os, hg.tape, hg.output, hg.size, fun k hk => hg.block k (Nat.lt_of_lt_of_le hk h.size) (fun e => by injection e; omega)⟩
def ChkIs (k m : Int) (l : List S62) (w : World) (e : Ending) (w' : World) : Prop := e = .returned (.tuple #[.int .i64 (checkV k m l).1, .int .i64 (checkV k m l).2]) ∧ Below w.heap.size w w'
section
variable (K M : Nat) (h1 : 1 ≤ K) (h2 : K + M ≤ 255) (A2 : Option Addr) (c2 : Nat) (l : List S62) (w : World) (hr : Kd.C k62 w A2 l.length l) (hc : l.length ≤ c2) (hwf : ∀ x, x ∈ l → -9223372036854775808 ≤ x.f0 ∧ x.f0 ≤ 9223372036854775807)
include h1 h2 hr hc hwf
set_option maxRecDepth 100000 in
set_option maxHeartbeats 4000000 in
theorem chk_main : Calls Tryd.prog 34 #[.int .i64 (K : Int), .int .i64 (M : Int), .slice A2 l.length c2] w (ChkIs (K : Int) (M : Int) l w) := by
  have HV : Aside0 (checkV (K : Int) (M : Int) l = scanC (K : Int) (M : Int) l l.length 0) := ⟨by
    unfold checkV
    rw [if_pos]
    unfold codeB
    exact decide_eq_true (by omega)⟩
  have d1 : decide ((K : Int) < 1) = false := by simp; omega
  have d2 : decide ((255 : Int) < (K : Int)) = false := by simp; omega
  have d3 : decide ((M : Int) < 0) = false := by simp
  have d4 : decide ((255 : Int) - (K : Int) < (M : Int)) = false := by simp; omega
  have HR := Aside0.mk hr
  have HC := Aside0.mk hc
  have HW := Aside0.mk hwf
  have hlm := Kd.C_max hr
  have HLM := Aside0.mk hlm
  clear hr hc hwf hlm
  have hmm := @run_makeMap Tryd.prog
  go_enter Tryd.func34, Tryd.ntmps34
  go_wp2
  have HK0 : Aside0 (KeysAt (w.alloc (.map #[] 0)) w.heap.size 0 (seenB l 0)) := ⟨(KeysAt.made w).congr (fun _ => rfl)⟩
  have HB0 : Aside0 (Below w.heap.size w (w.alloc (.map #[] 0))) := ⟨below_alloc (Below.refl _ _) _⟩
  go_loopw [32] (fun v W => ∃ i : Nat, i ≤ l.length ∧ v = .int .i64 (i : Int) ∧ Aside0 (scanC (K : Int) (M : Int) l l.length 0 = scanC (K : Int) (M : Int) l (l.length - i) i) ∧ Aside0 (KeysAt W w.heap.size i (seenB l i)) ∧ Aside0 (Below w.heap.size w W)) (fun v _ => l.length - (intOf v).toNat)
  case atStart => exact ⟨0, by omega, rfl, ⟨rfl⟩, HK0, HB0⟩
  case round =>
    obtain ⟨i, hi, rfl, HS, HK, HB⟩ := hrel
    clear HK0 HB0
    by_cases hlt : i < l.length
    · have hCW := Kd.C_below HR.out HB.out
      obtain ⟨ad, hA, hx0, hx1⟩ := at_T62 hCW (i : Int) (by omega) (by omega)
      obtain ⟨ad', hA', hy0, hy1⟩ := at_T62 hCW 0 (by omega) (by omega)
      subst hA
      obtain rfl : ad = ad' := by injection hA'
      rw [Int.toNat_natCast] at hx0 hx1
      rw [show ((0 : Int)).toNat * 2 = 0 from rfl, Addr.add_zero'] at hy0 hy1
      have HX := Aside0.mk (wfL_get HW.out i hlt)
      have HST : Aside0 (scanC (K : Int) (M : Int) l (l.length - i) i = if errAt (K : Int) (M : Int) l i = 0 then scanC (K : Int) (M : Int) l (l.length - (i + 1)) (i + 1) else ((i : Int), errAt (K : Int) (M : Int) l i)) := ⟨by
        rw [show l.length - i = (l.length - (i + 1)) + 1 by omega]
        rfl⟩
      have HEA : Aside0 (errAt (K : Int) (M : Int) l i = if (rd_T62 l (i : Int)).f0 < 0 ∨ (K : Int) + (M : Int) ≤ (rd_T62 l (i : Int)).f0 then 1 else if seenB l i (rd_T62 l (i : Int)).f0 = true then 6 else if 2052 < (rd_T62 l (i : Int)).f1.size then 2 else if (rd_T62 l (i : Int)).f1.size ≠ (rd_T62 l 0).f1.size then 4 else 0) := ⟨rfl⟩
      have HSS := Aside0.mk (fun q => seenB_succ l i q)
      have hy1b := World.block_lt_of_cell? _ _ hy1
      have HFAR : Aside0 (∀ (W : World) (g : Nat) (u v : Value), Below wr.heap.size wr W → wr.heap.size ≤ g → ((W.setCell ⟨g, 0, none⟩ u).setCell ⟨g, 1, none⟩ v).cell? ⟨ad.block, ad.off + 1, none⟩ = some (.string (rd_T62 l 0).f1)) := ⟨fun W g u v hb hg => by
        have hlt' : ad.block < wr.heap.size := hy1b
        rw [cell_far (p := ⟨g, 1, none⟩) (by show ad.block ≠ g; omega), cell_far (p := ⟨g, 0, none⟩) (by show ad.block ≠ g; omega)]
        exact pw_cell_below hb hy1⟩
      generalize rd_T62 l 0 = s0 at *
      generalize rd_T62 l (i : Int) = si at *
      obtain ⟨x, s⟩ := si
      simp only at hx0 hx1 HX HEA HSS
      have i0 : (0 : Int) < (l.length : Int) := by omega
      have i1 : 0 < l.length := by omega
      have dlt : decide ((i : Int) < (l.length : Int)) = true := decide_eq_true (by omega)
      have HKK : Aside0 (∀ (W : World) (g : Nat) (u v : Value), Below wr.heap.size wr W → wr.heap.size ≤ g → KeysAt ((W.setCell ⟨g, 0, none⟩ u).setCell ⟨g, 1, none⟩ v) w.heap.size i (seenB l i)) := ⟨fun W g u v hb hg => HK.out.below ((hb.setCell hg _).setCell hg _)⟩
      have HMX : Aside0 (i < maxLen) := ⟨by have := HLM.out; have : maxLen = 9223372036854775807 := rfl; omega⟩
      clear hCW hy0 hy1 hy1b
      by_cases e1 : x < 0 ∨ (K : Int) + (M : Int) ≤ x
      · rw [if_pos e1] at HEA
        have HRES : Aside0 (checkV (K : Int) (M : Int) l = ((i : Int), 1)) := ⟨by rw [HV.out, HS.out, HST.out, HEA.out, if_neg (by decide)]⟩
        rcases e1 with e1 | e1
        · have q1 : decide (x < 0) = true := decide_eq_true e1
          clear e1
          go_wp2_with (first
          | ((with_reducible refine gate_dst (N := 10) rfl ?_); refine box_event ?hg (N := 10) ?hd (cs := #[.int .i64 0, .string (⟨#[]⟩ : ByteArray)]) (t := 62) ?hr ?_; (case hd => rfl); (case hg => rfl); (case hr => first | (go_simp; done) | (go_simp; rfl)); intro gb hgb w3 hbox hb3; have HBB : Aside0 (Below w.heap.size w w3) := ⟨below_step HB.out hb3⟩; have HGE : Aside0 (w.heap.size ≤ gb) := ⟨by rw [hgb]; exact HB.out.size⟩; have zz := HFAR.out w3 gb (.int .i64 x) (.string s) hb3 (by rw [hgb]; exact Nat.le_refl _); have HBX := Aside0.mk hbox; have HB3 := Aside0.mk hb3; have HGB := Aside0.mk hgb; clear hbox hb3 hgb; have z0 : w3.cell? ⟨gb, 0, none⟩ = some (.int .i64 0) := (blk_cell HBX.out 0).trans rfl; have z1 : w3.cell? ⟨gb, 1, none⟩ = some (.string (⟨#[]⟩ : ByteArray)) := (blk_cell HBX.out 1).trans rfl; have f0 := blk_frozen HBX.out 0; have f1 := blk_frozen HBX.out 1)
          | (at_lookup; refine KeysAt.look (HKK.out _ _ _ _ HB3.out (by rw [HGB.out]; exact Nat.le_refl _)) rfl _ _ rfl rfl x rfl HX.out ?_; intro v5)
          | (at_mapUpdate; refine KeysAt.store (HKK.out _ _ _ _ HB3.out (by rw [HGB.out]; exact Nat.le_refl _)) rfl _ _ _ rfl HMX.out rfl x rfl HX.out _ rfl ?_; intro w9 hk9 hg9; have HK9 := Aside0.mk hk9; have HG9 := Aside0.mk hg9; clear hk9 hg9))
          go_ret2
          unfold ChkIs
          rw [HRES.out]
          exact ⟨rfl, by repeat (first | exact HBB.out | refine Below.setCell ?_ HGE.out _ | apply below_drew1 | apply pw_below_drewN)⟩
        · have q1 : decide (x < 0) = false := decide_eq_false (by omega)
          have q2 : decide ((K : Int) + (M : Int) ≤ x) = true := decide_eq_true e1
          clear e1
          go_wp2_with (first
          | ((with_reducible refine gate_dst (N := 10) rfl ?_); refine box_event ?hg (N := 10) ?hd (cs := #[.int .i64 0, .string (⟨#[]⟩ : ByteArray)]) (t := 62) ?hr ?_; (case hd => rfl); (case hg => rfl); (case hr => first | (go_simp; done) | (go_simp; rfl)); intro gb hgb w3 hbox hb3; have HBB : Aside0 (Below w.heap.size w w3) := ⟨below_step HB.out hb3⟩; have HGE : Aside0 (w.heap.size ≤ gb) := ⟨by rw [hgb]; exact HB.out.size⟩; have zz := HFAR.out w3 gb (.int .i64 x) (.string s) hb3 (by rw [hgb]; exact Nat.le_refl _); have HBX := Aside0.mk hbox; have HB3 := Aside0.mk hb3; have HGB := Aside0.mk hgb; clear hbox hb3 hgb; have z0 : w3.cell? ⟨gb, 0, none⟩ = some (.int .i64 0) := (blk_cell HBX.out 0).trans rfl; have z1 : w3.cell? ⟨gb, 1, none⟩ = some (.string (⟨#[]⟩ : ByteArray)) := (blk_cell HBX.out 1).trans rfl; have f0 := blk_frozen HBX.out 0; have f1 := blk_frozen HBX.out 1)
          | (at_lookup; refine KeysAt.look (HKK.out _ _ _ _ HB3.out (by rw [HGB.out]; exact Nat.le_refl _)) rfl _ _ rfl rfl x rfl HX.out ?_; intro v5)
          | (at_mapUpdate; refine KeysAt.store (HKK.out _ _ _ _ HB3.out (by rw [HGB.out]; exact Nat.le_refl _)) rfl _ _ _ rfl HMX.out rfl x rfl HX.out _ rfl ?_; intro w9 hk9 hg9; have HK9 := Aside0.mk hk9; have HG9 := Aside0.mk hg9; clear hk9 hg9))
          go_ret2
          unfold ChkIs
          rw [HRES.out]
          exact ⟨rfl, by repeat (first | exact HBB.out | refine Below.setCell ?_ HGE.out _ | apply below_drew1 | apply pw_below_drewN)⟩
      · rw [if_neg e1] at HEA
        have q1 : decide (x < 0) = false := decide_eq_false (by omega)
        have q2 : decide ((K : Int) + (M : Int) ≤ x) = false := decide_eq_false (by omega)
        clear e1
        cases hsx : seenB l i x with
        | true =>
          rw [if_pos hsx] at HEA
          have HRES : Aside0 (checkV (K : Int) (M : Int) l = ((i : Int), 6)) := ⟨by rw [HV.out, HS.out, HST.out, HEA.out, if_neg (by decide)]⟩
          go_wp2_with (first
          | ((with_reducible refine gate_dst (N := 10) rfl ?_); refine box_event ?hg (N := 10) ?hd (cs := #[.int .i64 0, .string (⟨#[]⟩ : ByteArray)]) (t := 62) ?hr ?_; (case hd => rfl); (case hg => rfl); (case hr => first | (go_simp; done) | (go_simp; rfl)); intro gb hgb w3 hbox hb3; have HBB : Aside0 (Below w.heap.size w w3) := ⟨below_step HB.out hb3⟩; have HGE : Aside0 (w.heap.size ≤ gb) := ⟨by rw [hgb]; exact HB.out.size⟩; have zz := HFAR.out w3 gb (.int .i64 x) (.string s) hb3 (by rw [hgb]; exact Nat.le_refl _); have HBX := Aside0.mk hbox; have HB3 := Aside0.mk hb3; have HGB := Aside0.mk hgb; clear hbox hb3 hgb; have z0 : w3.cell? ⟨gb, 0, none⟩ = some (.int .i64 0) := (blk_cell HBX.out 0).trans rfl; have z1 : w3.cell? ⟨gb, 1, none⟩ = some (.string (⟨#[]⟩ : ByteArray)) := (blk_cell HBX.out 1).trans rfl; have f0 := blk_frozen HBX.out 0; have f1 := blk_frozen HBX.out 1)
          | (at_lookup; refine KeysAt.look (HKK.out _ _ _ _ HB3.out (by rw [HGB.out]; exact Nat.le_refl _)) rfl _ _ rfl rfl x rfl HX.out ?_; intro v5)
          | (at_mapUpdate; refine KeysAt.store (HKK.out _ _ _ _ HB3.out (by rw [HGB.out]; exact Nat.le_refl _)) rfl _ _ _ rfl HMX.out rfl x rfl HX.out _ rfl ?_; intro w9 hk9 hg9; have HK9 := Aside0.mk hk9; have HG9 := Aside0.mk hg9; clear hk9 hg9))
          go_ret2
          unfold ChkIs
          rw [HRES.out]
          exact ⟨rfl, by repeat (first | exact HBB.out | refine Below.setCell ?_ HGE.out _ | apply below_drew1 | apply pw_below_drewN)⟩
        | false =>
          rw [if_neg (by rw [hsx]; decide)] at HEA
          by_cases e3 : 2052 < s.size
          · rw [if_pos e3] at HEA
            have HRES : Aside0 (checkV (K : Int) (M : Int) l = ((i : Int), 2)) := ⟨by rw [HV.out, HS.out, HST.out, HEA.out, if_neg (by decide)]⟩
            have q3 : decide ((2052 : Int) < (s.size : Int)) = true := decide_eq_true (by omega)
            clear e3
            go_wp2_with (first
          | ((with_reducible refine gate_dst (N := 10) rfl ?_); refine box_event ?hg (N := 10) ?hd (cs := #[.int .i64 0, .string (⟨#[]⟩ : ByteArray)]) (t := 62) ?hr ?_; (case hd => rfl); (case hg => rfl); (case hr => first | (go_simp; done) | (go_simp; rfl)); intro gb hgb w3 hbox hb3; have HBB : Aside0 (Below w.heap.size w w3) := ⟨below_step HB.out hb3⟩; have HGE : Aside0 (w.heap.size ≤ gb) := ⟨by rw [hgb]; exact HB.out.size⟩; have zz := HFAR.out w3 gb (.int .i64 x) (.string s) hb3 (by rw [hgb]; exact Nat.le_refl _); have HBX := Aside0.mk hbox; have HB3 := Aside0.mk hb3; have HGB := Aside0.mk hgb; clear hbox hb3 hgb; have z0 : w3.cell? ⟨gb, 0, none⟩ = some (.int .i64 0) := (blk_cell HBX.out 0).trans rfl; have z1 : w3.cell? ⟨gb, 1, none⟩ = some (.string (⟨#[]⟩ : ByteArray)) := (blk_cell HBX.out 1).trans rfl; have f0 := blk_frozen HBX.out 0; have f1 := blk_frozen HBX.out 1)
          | (at_lookup; refine KeysAt.look (HKK.out _ _ _ _ HB3.out (by rw [HGB.out]; exact Nat.le_refl _)) rfl _ _ rfl rfl x rfl HX.out ?_; intro v5)
          | (at_mapUpdate; refine KeysAt.store (HKK.out _ _ _ _ HB3.out (by rw [HGB.out]; exact Nat.le_refl _)) rfl _ _ _ rfl HMX.out rfl x rfl HX.out _ rfl ?_; intro w9 hk9 hg9; have HK9 := Aside0.mk hk9; have HG9 := Aside0.mk hg9; clear hk9 hg9))
            go_ret2
            unfold ChkIs
            rw [HRES.out]
            exact ⟨rfl, by repeat (first | exact HBB.out | refine Below.setCell ?_ HGE.out _ | apply below_drew1 | apply pw_below_drewN)⟩
          · rw [if_neg e3] at HEA
            have q3 : decide ((2052 : Int) < (s.size : Int)) = false := decide_eq_false (by omega)
            clear e3
            by_cases e4 : s.size ≠ s0.f1.size
            · rw [if_pos e4] at HEA
              have HRES : Aside0 (checkV (K : Int) (M : Int) l = ((i : Int), 4)) := ⟨by rw [HV.out, HS.out, HST.out, HEA.out, if_neg (by decide)]⟩
              have q4 : ((s.size : Int) != (s0.f1.size : Int)) = true := by simp; omega
              clear e4
              go_wp2_with (first
          | ((with_reducible refine gate_dst (N := 10) rfl ?_); refine box_event ?hg (N := 10) ?hd (cs := #[.int .i64 0, .string (⟨#[]⟩ : ByteArray)]) (t := 62) ?hr ?_; (case hd => rfl); (case hg => rfl); (case hr => first | (go_simp; done) | (go_simp; rfl)); intro gb hgb w3 hbox hb3; have HBB : Aside0 (Below w.heap.size w w3) := ⟨below_step HB.out hb3⟩; have HGE : Aside0 (w.heap.size ≤ gb) := ⟨by rw [hgb]; exact HB.out.size⟩; have zz := HFAR.out w3 gb (.int .i64 x) (.string s) hb3 (by rw [hgb]; exact Nat.le_refl _); have HBX := Aside0.mk hbox; have HB3 := Aside0.mk hb3; have HGB := Aside0.mk hgb; clear hbox hb3 hgb; have z0 : w3.cell? ⟨gb, 0, none⟩ = some (.int .i64 0) := (blk_cell HBX.out 0).trans rfl; have z1 : w3.cell? ⟨gb, 1, none⟩ = some (.string (⟨#[]⟩ : ByteArray)) := (blk_cell HBX.out 1).trans rfl; have f0 := blk_frozen HBX.out 0; have f1 := blk_frozen HBX.out 1)
          | (at_lookup; refine KeysAt.look (HKK.out _ _ _ _ HB3.out (by rw [HGB.out]; exact Nat.le_refl _)) rfl _ _ rfl rfl x rfl HX.out ?_; intro v5)
          | (at_mapUpdate; refine KeysAt.store (HKK.out _ _ _ _ HB3.out (by rw [HGB.out]; exact Nat.le_refl _)) rfl _ _ _ rfl HMX.out rfl x rfl HX.out _ rfl ?_; intro w9 hk9 hg9; have HK9 := Aside0.mk hk9; have HG9 := Aside0.mk hg9; clear hk9 hg9))
              go_quiet (fail)
              go_wp2
              go_ret2
              unfold ChkIs
              rw [HRES.out]
              exact ⟨rfl, by repeat (first | exact HBB.out | refine Below.setCell ?_ HGE.out _ | apply below_drew1 | apply pw_below_drewN)⟩
            · rw [if_neg e4] at HEA
              have q4 : ((s.size : Int) != (s0.f1.size : Int)) = false := by
                have : s.size = s0.f1.size := Decidable.not_not.1 e4
                rw [this]
                simp
              clear e4
              rw [HEA.out, if_pos rfl] at HST
              have hlm := HLM.out
              go_wp2_with (first
          | ((with_reducible refine gate_dst (N := 10) rfl ?_); refine box_event ?hg (N := 10) ?hd (cs := #[.int .i64 0, .string (⟨#[]⟩ : ByteArray)]) (t := 62) ?hr ?_; (case hd => rfl); (case hg => rfl); (case hr => first | (go_simp; done) | (go_simp; rfl)); intro gb hgb w3 hbox hb3; have HBB : Aside0 (Below w.heap.size w w3) := ⟨below_step HB.out hb3⟩; have HGE : Aside0 (w.heap.size ≤ gb) := ⟨by rw [hgb]; exact HB.out.size⟩; have zz := HFAR.out w3 gb (.int .i64 x) (.string s) hb3 (by rw [hgb]; exact Nat.le_refl _); have HBX := Aside0.mk hbox; have HB3 := Aside0.mk hb3; have HGB := Aside0.mk hgb; clear hbox hb3 hgb; have z0 : w3.cell? ⟨gb, 0, none⟩ = some (.int .i64 0) := (blk_cell HBX.out 0).trans rfl; have z1 : w3.cell? ⟨gb, 1, none⟩ = some (.string (⟨#[]⟩ : ByteArray)) := (blk_cell HBX.out 1).trans rfl; have f0 := blk_frozen HBX.out 0; have f1 := blk_frozen HBX.out 1)
          | (at_lookup; refine KeysAt.look (HKK.out _ _ _ _ HB3.out (by rw [HGB.out]; exact Nat.le_refl _)) rfl _ _ rfl rfl x rfl HX.out ?_; intro v5)
          | (at_mapUpdate; refine KeysAt.store (HKK.out _ _ _ _ HB3.out (by rw [HGB.out]; exact Nat.le_refl _)) rfl _ _ _ rfl HMX.out rfl x rfl HX.out _ rfl ?_; intro w9 hk9 hg9; have HK9 := Aside0.mk hk9; have HG9 := Aside0.mk hg9; clear hk9 hg9))
              go_quiet (fail)
              go_wp2_with (first
          | ((with_reducible refine gate_dst (N := 10) rfl ?_); refine box_event ?hg (N := 10) ?hd (cs := #[.int .i64 0, .string (⟨#[]⟩ : ByteArray)]) (t := 62) ?hr ?_; (case hd => rfl); (case hg => rfl); (case hr => first | (go_simp; done) | (go_simp; rfl)); intro gb hgb w3 hbox hb3; have HBB : Aside0 (Below w.heap.size w w3) := ⟨below_step HB.out hb3⟩; have HGE : Aside0 (w.heap.size ≤ gb) := ⟨by rw [hgb]; exact HB.out.size⟩; have zz := HFAR.out w3 gb (.int .i64 x) (.string s) hb3 (by rw [hgb]; exact Nat.le_refl _); have HBX := Aside0.mk hbox; have HB3 := Aside0.mk hb3; have HGB := Aside0.mk hgb; clear hbox hb3 hgb; have z0 : w3.cell? ⟨gb, 0, none⟩ = some (.int .i64 0) := (blk_cell HBX.out 0).trans rfl; have z1 : w3.cell? ⟨gb, 1, none⟩ = some (.string (⟨#[]⟩ : ByteArray)) := (blk_cell HBX.out 1).trans rfl; have f0 := blk_frozen HBX.out 0; have f1 := blk_frozen HBX.out 1)
          | (at_lookup; refine KeysAt.look (HKK.out _ _ _ _ HB3.out (by rw [HGB.out]; exact Nat.le_refl _)) rfl _ _ rfl rfl x rfl HX.out ?_; intro v5)
          | (at_mapUpdate; refine KeysAt.store (HKK.out _ _ _ _ HB3.out (by rw [HGB.out]; exact Nat.le_refl _)) rfl _ _ _ rfl HMX.out rfl x rfl HX.out _ rfl ?_; intro w9 hk9 hg9; have HK9 := Aside0.mk hk9; have HG9 := Aside0.mk hg9; clear hk9 hg9))
              go_roundw
              case rel => exact ⟨i + 1, by omega, by go_num, ⟨HS.out.trans HST.out⟩, ⟨HK9.out.congr (fun q => (HSS.out q).symm)⟩, ⟨below_over (by repeat (first | exact HBB.out | refine Below.setCell ?_ HGE.out _ | apply below_drew1 | apply pw_below_drewN)) HG9.out (Nat.le_refl _)⟩⟩
              case measure => simp [intOf]; omega
    · have hil : i = l.length := by omega
      have HSC : Aside0 (scanC (K : Int) (M : Int) l (l.length - i) i = if (l.length : Int) < (K : Int) then (-1, 40) else (0, 0)) := ⟨by
        rw [hil, Nat.sub_self]
        rfl⟩
      have dlt : decide ((i : Int) < (l.length : Int)) = false := decide_eq_false (by omega)
      clear hil
      by_cases e1 : (l.length : Int) < (K : Int)
      · have HRES : Aside0 (checkV (K : Int) (M : Int) l = (-1, 40)) := ⟨by rw [HV.out, HS.out, HSC.out, if_pos e1]⟩
        have q1 : decide ((l.length : Int) < (K : Int)) = true := decide_eq_true e1
        have q1n : l.length < K := by omega
        clear e1
        go_wp2
        go_ret2
        unfold ChkIs
        rw [HRES.out]
        exact ⟨rfl, HB.out⟩
      · have HRES : Aside0 (checkV (K : Int) (M : Int) l = (0, 0)) := ⟨by rw [HV.out, HS.out, HSC.out, if_neg e1]⟩
        have q1 : decide ((l.length : Int) < (K : Int)) = false := decide_eq_false e1
        have q1n : ¬ l.length < K := by omega
        clear e1
        go_wp2
        go_ret2
        unfold ChkIs
        rw [HRES.out]
        exact ⟨rfl, HB.out⟩
end
section
variable (k m : Int) (A2 : Option Addr) (c2 : Nat) (l : List S62) (w : World) (hr : Kd.C k62 w A2 l.length l) (hc : l.length ≤ c2) (hwf : ∀ x, x ∈ l → -9223372036854775808 ≤ x.f0 ∧ x.f0 ≤ 9223372036854775807)
include hr hc hwf
set_option maxRecDepth 100000 in
set_option maxHeartbeats 4000000 in
theorem chk_walk : Calls Tryd.prog 34 #[.int .i64 k, .int .i64 m, .slice A2 l.length c2] w (ChkIs k m l w) := by
  cases hcb : codeB k m with
  | true =>
    obtain ⟨K, M, rfl, rfl, h1, h2⟩ := codeB_nat hcb
    exact chk_main K M h1 h2 A2 c2 l w hr hc hwf
  | false =>
    have HRES : Aside0 (checkV k m l = (-1, 1)) := ⟨by unfold checkV; rw [hcb, if_neg (by decide)]⟩
    have hn : ¬ (1 ≤ k ∧ k ≤ 255 ∧ 0 ≤ m ∧ m ≤ 255 - k) := by unfold codeB at hcb; exact of_decide_eq_false hcb
    clear hr hc hwf hcb
    by_cases e1 : k < 1
    · have d1 : decide (k < 1) = true := decide_eq_true e1
      clear hn e1
      go_enter Tryd.func34, Tryd.ntmps34
      go_wp2
      go_ret2
      unfold ChkIs
      rw [HRES.out]
      exact ⟨rfl, Below.refl _ _⟩
    · have d1 : decide (k < 1) = false := decide_eq_false e1
      by_cases e2 : 255 < k
      · have d2 : decide (255 < k) = true := decide_eq_true e2
        clear hn e1 e2
        go_enter Tryd.func34, Tryd.ntmps34
        go_wp2
        go_ret2
        unfold ChkIs
        rw [HRES.out]
        exact ⟨rfl, Below.refl _ _⟩
      · have d2 : decide (255 < k) = false := decide_eq_false e2
        by_cases e3 : m < 0
        · have d3 : decide (m < 0) = true := decide_eq_true e3
          clear hn e1 e2 e3
          go_enter Tryd.func34, Tryd.ntmps34
          go_wp2
          go_ret2
          unfold ChkIs
          rw [HRES.out]
          exact ⟨rfl, Below.refl _ _⟩
        · have d3 : decide (m < 0) = false := decide_eq_false e3
          have d4 : decide ((255 : Int) - k < m) = true := decide_eq_true (by omega)
          have d5 : (255 : Int) - k < m := by omega
          clear hn
          go_enter Tryd.func34, Tryd.ntmps34
          go_wp2
          go_ret2
          unfold ChkIs
          rw [HRES.out]
          exact ⟨rfl, Below.refl _ _⟩
end
def numsOk (l : List S62) : Bool := l.all fun x => decide (-9223372036854775808 ≤ x.f0 ∧ x.f0 ≤ 9223372036854775807)
theorem numsOk_of {l : List S62} (h : numsOk l = true) : ∀ x, x ∈ l → -9223372036854775808 ≤ x.f0 ∧ x.f0 ≤ 9223372036854775807 := fun x hx => of_decide_eq_true (List.all_eq_true.1 h x hx)
theorem numsOk_mk {l : List S62} (h : ∀ x, x ∈ l → -9223372036854775808 ≤ x.f0 ∧ x.f0 ≤ 9223372036854775807) : numsOk l = true := List.all_eq_true.2 fun x hx => decide_eq_true (h x hx)
def mend_Check.f (a0 : Int) (a1 : Int) (l2 : List (S62)) : Option (Int × Int) := if numsOk l2 = true then some (checkV a0 a1 l2) else none
theorem mend_Check.calls (a0 : Int) (a1 : Int) (A2 : Option Addr) (c2 : Nat) (l2 : List (S62)) (r1 : Int) (r2 : Int) (w : World) (hr2 : Kd.C k62 w A2 l2.length l2) (hc2 : l2.length ≤ c2) (h : mend_Check.f a0 a1 l2 = some (r1, r2)) :
    Calls Tryd.prog 34 #[.int .i64 a0, .int .i64 a1, .slice A2 l2.length c2] w fun e w' => e = .returned (.tuple #[.int .i64 r1, .int .i64 r2]) ∧ Below w.heap.size w w' := by
  unfold mend_Check.f at h
  by_cases hw : numsOk l2 = true
  · rw [if_pos hw] at h
    have e := Option.some.inj h
    have := chk_walk a0 a1 A2 c2 l2 w hr2 hc2 (numsOk_of hw)
    unfold ChkIs at this
    rw [e] at this
    exact this
  · rw [if_neg hw] at h
    cases h
end Go.Proofs.YtegmmefijihdeaaDoor.PS
namespace Go.Proofs.YtegmmefijihdeaaDoor.PS
open Go.RowKit Go.Proofs.YtegmmefijihdeaaDoorW.PrintWords Go.Proofs.YtegmmefijihdeaaDoorW.PrintLast Go.Proofs.YtegmmefijihdeaaDoorW.PrintMore
attribute [local go_sem] Mk.str_leq Mk.str_gtr Mk.str_geq max2_int min2_int max_two min_two max_three min_three max_four min_four   -- for this text's walks alone
set_option linter.unusedVariables false
set_option linter.unusedSimpArgs false

/-! ### corncribbook_SameTexts: function 19 -/
def corncribbook_SameTexts.l0 : Nat → List ByteArray → List ByteArray → Int → Option (Bool)
 | 0, _, _, _ => none
 | k + 1, x0, x1, x5 => if x5 < (x0.length : Int) then (if 0 ≤ x5 then (if x5 < (x1.length : Int) then (if (rdOf ByteArray.empty x0 x5).toList = (rdOf ByteArray.empty x1 x5).toList then (corncribbook_SameTexts.l0 k x0 x1 (wrap64 (x5 + 1))) else (some false)) else (none)) else (none)) else (some true)
def corncribbook_SameTexts.f (k : Nat) (l0 : List ByteArray) (l1 : List ByteArray) : Option (Bool) := if (l0.length : Int) = (l1.length : Int) then (corncribbook_SameTexts.l0 k l0 l1 0) else (some false)
theorem corncribbook_SameTexts.mono_l : ∀ k, (∀ y0 y1 y2, LeO (corncribbook_SameTexts.l0 k y0 y1 y2) (corncribbook_SameTexts.l0 (k + 1) y0 y1 y2))
 | 0 => fun _ _ _ r h => by simp [corncribbook_SameTexts.l0] at h
 | k + 1 => by
  have ih0 := corncribbook_SameTexts.mono_l k
  ·intro y0 y1 y2
   unfold corncribbook_SameTexts.l0
   repeat' first
   | (with_reducible exact ih0 _ _ _)
   | (with_reducible exact LeO.refl _)
   | (with_reducible exact LeO.none _)
   | (with_reducible refine LeO.ite ?_ ?_)
   | (with_reducible refine LeO.bind ?_ (fun _ => ?_))
   | exact ih0 _ _ _
   | exact LeO.none _
   | refine LeO.ite ?_ ?_
   | refine LeO.bind ?_ (fun _ => ?_)
theorem corncribbook_SameTexts.mono : ∀ a0 a1 k, LeO (corncribbook_SameTexts.f k a0 a1) (corncribbook_SameTexts.f (k + 1) a0 a1) := by
 intro a0 a1 k
 have ih0 := corncribbook_SameTexts.mono_l k
 unfold corncribbook_SameTexts.f
 repeat' first
   | (with_reducible exact ih0 _ _ _)
   | (with_reducible exact LeO.refl _)
   | (with_reducible exact LeO.none _)
   | (with_reducible refine LeO.ite ?_ ?_)
   | (with_reducible refine LeO.bind ?_ (fun _ => ?_))
   | exact ih0 _ _ _
   | exact LeO.none _
   | refine LeO.ite ?_ ?_
   | refine LeO.bind ?_ (fun _ => ?_)
set_option maxHeartbeats 8000000 in
set_option maxRecDepth 100000 in
theorem corncribbook_SameTexts.calls (k : Nat) (A0 : Option Addr) (c0 : Nat) (l0 : List ByteArray) (A1 : Option Addr) (c1 : Nat) (l1 : List ByteArray) (r : Bool) (w : World) (hr0 : Kd.C Kd.string w A0 l0.length l0) (hc0 : l0.length ≤ c0) (hr1 : Kd.C Kd.string w A1 l1.length l1) (hc1 : l1.length ≤ c1) (h : corncribbook_SameTexts.f k l0 l1 = some r) :
  Calls Tryd.prog 19 #[.slice A0 l0.length c0, .slice A1 l1.length c1] w fun e w' => e = .returned (.bool r) ∧ Drawn0 w w' := by
 have HR0 := Aside0.mk hr0
 have HC0 := Aside0.mk hc0
 clear hr0 hc0
 have HR1 := Aside0.mk hr1
 have HC1 := Aside0.mk hc1
 clear hr1 hc1
 have H : (if (l0.length : Int) = (l1.length : Int) then (corncribbook_SameTexts.l0 k l0 l1 0) else (some false)) = some r := h
 clear h
 by_cases c3 : (l0.length : Int) = (l1.length : Int)
 ·rw [if_pos c3] at H
  have c3b0 : ((l0.length : Int) == (l1.length : Int)) = true := beq_iff_eq.mpr c3
  have c3b1 : ((l0.length : Int) != (l1.length : Int)) = false := bne_eq_false_iff_eq.mpr c3
  have c3b2 : (l0.length == l1.length) = true := by first | simpa using c3 | (simp at c3 ⊢; omega)
  clear c3
  have H' := Aside0.mk H
  clear H
  go_enter Tryd.func19, Tryd.ntmps19
  go_wp2
  repeat (go_quiet (fail); try go_wp2)
  go_loopg [5] k (fun kq v5 w' => ∃ (x5_1 : Int), v5 = .int .i64 x5_1 ∧ Aside0 (corncribbook_SameTexts.l0 kq l0 l1 x5_1 = some r) ∧ Aside0 (kq ≤ k) ∧ Drawn0 w w')
  case atStart => exact ⟨(0), (by first | rfl | (simp; done) | (simp [*]; done)), H', ⟨Nat.le_refl _⟩, by repeat (first | exact Drawn0.refl _ | apply Drawn0.step)⟩
  case round =>
   clear H'
   try clear c1
   try clear p2
   try clear c3
   try clear c3b0
   try clear c3b1
   try clear c3b2
   obtain ⟨x5_1, rfl, HA, HK1, ⟨m1, rfl⟩⟩ := hrel
   cases gk with
   | zero => exact absurd HA.out (by simp [corncribbook_SameTexts.l0])
   | succ k1 =>
    have H := HA.out
    clear HA
    simp only [corncribbook_SameTexts.l0] at H
    by_cases c4 : x5_1 < (l0.length : Int)
    ·rw [if_pos c4] at H
     have c4b0 : decide (x5_1 < (l0.length : Int)) = true := decide_eq_true c4
     clear c4
     by_cases c5 : 0 ≤ x5_1
     ·rw [if_pos c5] at H
      have c5b0 : decide (0 ≤ x5_1) = true := decide_eq_true c5
      clear c5
      by_cases c6 : x5_1 < (l1.length : Int)
      ·rw [if_pos c6] at H
       have c6b0 : decide (x5_1 < (l1.length : Int)) = true := decide_eq_true c6
       clear c6
       by_cases c7 : (rdOf ByteArray.empty l0 x5_1).toList = (rdOf ByteArray.empty l1 x5_1).toList
       ·rw [if_pos c7] at H
        have c7b0 : ((rdOf ByteArray.empty l0 x5_1).toList == (rdOf ByteArray.empty l1 x5_1).toList) = true := beq_iff_eq.mpr c7
        have c7b1 : ((rdOf ByteArray.empty l0 x5_1).toList != (rdOf ByteArray.empty l1 x5_1).toList) = false := bne_eq_false_iff_eq.mpr c7
        clear c7
        have H' := Aside0.mk H
        clear H
        have p118 : 0 ≤ (x5_1 : Int) := of_decide_eq_true (by first | (with_reducible assumption) | assumption)
        have q118 : x5_1 < (l0.length : Int) := of_decide_eq_true (by first | (with_reducible assumption) | assumption)
        obtain ⟨ad118, e118, hx118_0⟩ := Kd.at_string HR0.out x5_1 p118 q118
        cases e118
        replace p118 := eq_true p118
        replace q118 := eq_true q118
        have p119 : 0 ≤ (x5_1 : Int) := of_decide_eq_true (by first | (with_reducible assumption) | assumption)
        have q119 : x5_1 < (l1.length : Int) := of_decide_eq_true (by first | (with_reducible assumption) | assumption)
        obtain ⟨ad119, e119, hx119_0⟩ := Kd.at_string HR1.out x5_1 p119 q119
        cases e119
        replace p119 := eq_true p119
        replace q119 := eq_true q119
        go_wp2
        repeat (go_quiet (fail); try go_wp2)
        go_roundg k1
        case measure => have := HK1.out; omega
        case rel => exact ⟨(wrap64 (x5_1 + 1)), (by first | rfl | (simp; done) | (simp [*]; done)), H', ⟨by have := HK1.out; omega⟩, by repeat (first | exact Drawn0.refl _ | apply Drawn0.step)⟩
       ·rw [if_neg c7] at H
        have c7b0 : ((rdOf ByteArray.empty l0 x5_1).toList == (rdOf ByteArray.empty l1 x5_1).toList) = false := beq_eq_false_iff_ne.mpr c7
        have c7b1 : ((rdOf ByteArray.empty l0 x5_1).toList != (rdOf ByteArray.empty l1 x5_1).toList) = true := bne_iff_ne.mpr c7
        obtain rfl := Option.some.inj H
        have p118 : 0 ≤ (x5_1 : Int) := of_decide_eq_true (by first | (with_reducible assumption) | assumption)
        have q118 : x5_1 < (l0.length : Int) := of_decide_eq_true (by first | (with_reducible assumption) | assumption)
        obtain ⟨ad118, e118, hx118_0⟩ := Kd.at_string HR0.out x5_1 p118 q118
        cases e118
        replace p118 := eq_true p118
        replace q118 := eq_true q118
        have p119 : 0 ≤ (x5_1 : Int) := of_decide_eq_true (by first | (with_reducible assumption) | assumption)
        have q119 : x5_1 < (l1.length : Int) := of_decide_eq_true (by first | (with_reducible assumption) | assumption)
        obtain ⟨ad119, e119, hx119_0⟩ := Kd.at_string HR1.out x5_1 p119 q119
        cases e119
        replace p119 := eq_true p119
        replace q119 := eq_true q119
        go_wp2
        repeat (go_quiet (fail); try go_wp2)
        go_ret
        exact ⟨by first | rfl | (simp; done) | (simp [*]; done), by repeat (first | exact Drawn0.refl _ | apply Drawn0.step)⟩
      ·rw [if_neg c6] at H
       exact absurd H (by simp)
     ·rw [if_neg c5] at H
      exact absurd H (by simp)
    ·rw [if_neg c4] at H
     have c4b0 : decide (x5_1 < (l0.length : Int)) = false := decide_eq_false c4
     clear c4
     obtain rfl := Option.some.inj H
     go_wp2
     repeat (go_quiet (fail); try go_wp2)
     go_ret
     exact ⟨by first | rfl | (simp; done) | (simp [*]; done), by repeat (first | exact Drawn0.refl _ | apply Drawn0.step)⟩
 ·rw [if_neg c3] at H
  have c3b0 : ((l0.length : Int) == (l1.length : Int)) = false := beq_eq_false_iff_ne.mpr c3
  have c3b1 : ((l0.length : Int) != (l1.length : Int)) = true := bne_iff_ne.mpr c3
  have c3b2 : (l0.length == l1.length) = false := by first | simpa using c3 | (simp at c3 ⊢; omega)
  obtain rfl := Option.some.inj H
  go_enter Tryd.func19, Tryd.ntmps19
  go_wp2
  repeat (go_quiet (fail); try go_wp2)
  go_ret
  exact ⟨by first | rfl | (simp; done) | (simp [*]; done), by repeat (first | exact Drawn0.refl _ | apply Drawn0.step)⟩

end Go.Proofs.YtegmmefijihdeaaDoor.PS
namespace Go.Proofs.YtegmmefijihdeaaDoor.PS
open Go.RowKit Go.Proofs.YtegmmefijihdeaaDoorW.PrintWords Go.Proofs.YtegmmefijihdeaaDoorW.PrintLast Go.Proofs.YtegmmefijihdeaaDoorW.PrintMore
attribute [local go_sem] Mk.str_leq Mk.str_gtr Mk.str_geq max2_int min2_int max_two min_two max_three min_three max_four min_four   -- for this text's walks alone
set_option linter.unusedVariables false
set_option linter.unusedSimpArgs false

/-! ### corncribbook_LendTexts: function 21 -/
def corncribbook_LendTexts.f (l0 : List ByteArray) : Option (List ByteArray) := (some (([] : List ByteArray) : List ByteArray)).bind fun y166 => (if y166.length + l0.length < 8796093022208 then ((some (y166 ++ l0 : List ByteArray)).bind fun y169 => (if y169.length < 8796093022208 then ((some (y169 ++ [(⟨#[109, 97, 114, 107]⟩ : ByteArray)] : List ByteArray)).bind fun y172 => (if 0 ≤ (l0.length : Int) then (if (l0.length : Int) ≤ (y172.length : Int) then (some (y172.take ((l0.length : Int) : Int).toNat)) else (none)) else (none))) else (none))) else (none))
set_option maxHeartbeats 8000000 in
set_option maxRecDepth 100000 in
theorem corncribbook_LendTexts.calls (A0 : Option Addr) (c0 : Nat) (l0 : List ByteArray) (r : List ByteArray) (w : World) (hr0 : Kd.C Kd.string w A0 l0.length l0) (hc0 : l0.length ≤ c0) (h : corncribbook_LendTexts.f l0 = some r) :
  Calls Tryd.prog 21 #[.slice A0 l0.length c0] w fun e w' => ∃ v0_ : Value, e = .returned (v0_) ∧ Kd.R Kd.string 9 w' w.heap.size (fun _ => True) v0_ r ∧ Below w.heap.size w w' := by
 have HR0 := Aside0.mk hr0
 have HC0 := Aside0.mk hc0
 clear hr0 hc0
 have HB := Aside0.mk (Below.refl w.heap.size w)
 have H : ((some (([] : List ByteArray) : List ByteArray)).bind fun y166 => (if y166.length + l0.length < 8796093022208 then ((some (y166 ++ l0 : List ByteArray)).bind fun y169 => (if y169.length < 8796093022208 then ((some (y169 ++ [(⟨#[109, 97, 114, 107]⟩ : ByteArray)] : List ByteArray)).bind fun y172 => (if 0 ≤ (l0.length : Int) then (if (l0.length : Int) ≤ (y172.length : Int) then (some (y172.take ((l0.length : Int) : Int).toNat)) else (none)) else (none))) else (none))) else (none))) = some r := h
 clear h
 obtain ⟨y166, hy166⟩ : ∃ y_ : List ByteArray, y_ = (([] : List ByteArray)) := ⟨_, rfl⟩
 replace H : (if y166.length + l0.length < 8796093022208 then ((some (y166 ++ l0 : List ByteArray)).bind fun y169 => (if y169.length < 8796093022208 then ((some (y169 ++ [(⟨#[109, 97, 114, 107]⟩ : ByteArray)] : List ByteArray)).bind fun y172 => (if 0 ≤ (l0.length : Int) then (if (l0.length : Int) ≤ (y172.length : Int) then (some (y172.take ((l0.length : Int) : Int).toNat)) else (none)) else (none))) else (none))) else (none)) = some r := by first | (rw [hy166]; with_reducible exact H) | (have H2_ := (Option.bind_some _ _).symm.trans H; rw [hy166]; with_reducible exact H2_) | (have H2_ := (Option.bind_some _ _).symm.trans H; with_reducible exact H2_) | with_reducible exact H | (rw [hy166]; exact H) | exact H
 have Ny166 := Aside0.mk hy166
 clear hy166
 by_cases c2 : y166.length + l0.length < 8796093022208
 ·rw [if_pos c2] at H
  have LMc2 := Aside0.mk c2
  clear c2
  obtain ⟨y169, hy169⟩ : ∃ y_ : List ByteArray, y_ = (y166 ++ l0) := ⟨_, rfl⟩
  replace H : (if y169.length < 8796093022208 then ((some (y169 ++ [(⟨#[109, 97, 114, 107]⟩ : ByteArray)] : List ByteArray)).bind fun y172 => (if 0 ≤ (l0.length : Int) then (if (l0.length : Int) ≤ (y172.length : Int) then (some (y172.take ((l0.length : Int) : Int).toNat)) else (none)) else (none))) else (none)) = some r := by first | (rw [hy169]; with_reducible exact H) | (have H2_ := (Option.bind_some _ _).symm.trans H; rw [hy169]; with_reducible exact H2_) | (have H2_ := (Option.bind_some _ _).symm.trans H; with_reducible exact H2_) | with_reducible exact H | (rw [hy169]; exact H) | exact H
  have Ny169 := Aside0.mk hy169
  clear hy169
  by_cases c3 : y169.length < 8796093022208
  ·rw [if_pos c3] at H
   have LMc3 := Aside0.mk c3
   clear c3
   obtain ⟨y172, hy172⟩ : ∃ y_ : List ByteArray, y_ = (y169 ++ [(⟨#[109, 97, 114, 107]⟩ : ByteArray)]) := ⟨_, rfl⟩
   replace H : (if 0 ≤ (l0.length : Int) then (if (l0.length : Int) ≤ (y172.length : Int) then (some (y172.take ((l0.length : Int) : Int).toNat)) else (none)) else (none)) = some r := by first | (rw [hy172]; with_reducible exact H) | (have H2_ := (Option.bind_some _ _).symm.trans H; rw [hy172]; with_reducible exact H2_) | (have H2_ := (Option.bind_some _ _).symm.trans H; with_reducible exact H2_) | with_reducible exact H | (rw [hy172]; exact H) | exact H
   have Ny172 := Aside0.mk hy172
   clear hy172
   by_cases c4 : 0 ≤ (l0.length : Int)
   ·rw [if_pos c4] at H
    have c4b0 := eq_true c4
    have c4b1 : decide (0 ≤ (l0.length : Int)) = true := decide_eq_true c4
    clear c4
    by_cases c5 : (l0.length : Int) ≤ (y172.length : Int)
    ·rw [if_pos c5] at H
     have c5b0 := eq_true c5
     have c5b1 : decide ((l0.length : Int) ≤ (y172.length : Int)) = true := decide_eq_true c5
     clear c5
     obtain ⟨y175, hy175⟩ : ∃ y_ : List ByteArray, y_ = (y172.take ((l0.length : Int) : Int).toNat) := ⟨_, rfl⟩
     replace H : (some y175) = some r := by first | (rw [hy175]; with_reducible exact H) | (have H2_ := (Option.bind_some _ _).symm.trans H; rw [hy175]; with_reducible exact H2_) | (have H2_ := (Option.bind_some _ _).symm.trans H; with_reducible exact H2_) | with_reducible exact H | (rw [hy175]; exact H) | exact H
     have Ny175 := Aside0.mk hy175
     clear hy175
     obtain rfl := Option.some.inj H
     go_enter Tryd.func21, Tryd.ntmps21
     go_wp2_with (first | ((with_reducible refine gate_dst (N := 4) rfl ?_); refine Kd.R_lit Kd.string _ 9 ?hg (N := 4) ?hd (xs := ([] : List ByteArray)) (inner := []) (ok := fun _ => True) (okp := fun _ => True) ?hr ?hp (fun _ hk => hk) trivial (Below.refl _ _) (Nat.le_refl _) (by simp) ?_; (case hd => rfl); (case hg => rfl); (case hr => first | (go_simp; done) | (go_simp; rfl)); (case hp => exact (Reps.none _ _)); intro v167 w6 ho7 hb hg_ hnew_; clear hg_ hnew_; (first | rw [← Ny166.out] at ho7 | (simp only [Int.reduceToNat] at ho7; rw [← Ny166.out] at ho7)); have n0_ := Aside0.mk (Kd.R_lower ho7 (below_size (by repeat (first | (with_reducible first | exact HB.out | apply below_alloc | apply pw_below_drewN | apply below_drew1) | exact HB.out)))); have n1_ := Aside0.mk (below_step (by repeat (first | (with_reducible first | exact HB.out | apply below_alloc | apply pw_below_drewN | apply below_drew1) | exact HB.out)) hb); clear HB; have HO168 := n0_; have HB := n1_; clear n0_ n1_; clear hb ho7) | ((with_reducible refine gate_builtin (b := .append) (xs := #[.tmp 4, .tmp 5]) rfl ?_); at_builtin; refine Kd.R_append_rows Kd.string (w0 := w) w.heap.size rfl (.tmp 4) (.tmp 5) 25 9 (.string ⟨#[]⟩) 16 rfl Tryd.underlying25 info9 rfl (by decide) (by omega) v167 y166 l0 _ _ _ (fun _ => True) (fun _ => False) rfl rfl ?aO ?aR (fun _ _ h => h) (fun _ h => h.elim) ?aF ?aB ?aS ?aL ?_; (case aR => repeat (first | exact (Kd.C_below HR0.out HB.out) | (with_reducible refine Kd.C_alloc ?_ _) | (with_reducible refine Kd.C_drewN ?_ _) | (with_reducible refine Kd.C_drew ?_))); (case aB => exact (by repeat (first | (with_reducible first | exact HB.out | apply below_alloc | apply pw_below_drewN | apply below_drew1) | exact HB.out))); (case aF => exact (fun _ _ => trivial)); (case aO => exact (by (with_reducible repeat (first | apply Kd.R_alloc | apply Kd.R_drewN | apply Kd.R_drew)); exact HO168.out)); (case aS => exact (below_size (by repeat (first | (with_reducible first | exact HB.out | apply below_alloc | apply pw_below_drewN | apply below_drew1) | exact HB.out)))); (case aL => have := LMc2.out; omega); intro v170 w8 ho hb hg hat; rw [← Ny169.out] at ho; have n0_ := Aside0.mk (hb); have n1_ := Aside0.mk (ho); clear HB; clear HO168; have HB := n0_; have HO171 := n1_; clear n0_ n1_; clear ho hb hg hat) | ((with_reducible refine gate_builtin (b := .append) (xs := #[.tmp 7, .tmp 8]) rfl ?_); at_builtin; refine Kd.R_append Kd.string (w0 := w) w.heap.size rfl (.tmp 7) (.tmp 8) 25 9 (.string ⟨#[]⟩) 16 rfl Tryd.underlying25 info9 rfl (by decide) (by omega) v170 y169 (⟨#[109, 97, 114, 107]⟩ : ByteArray) [.string (⟨#[109, 97, 114, 107]⟩ : ByteArray)] (fun _ => True) (fun _ => False) rfl rfl ?aP (fun _ hk => hk.elim) ?aF ?aO ?aB ?aS ?aL ?_; (case aP => exact rfl); (case aB => exact (by repeat (first | (with_reducible first | exact HB.out | apply below_alloc | apply pw_below_drewN | apply below_drew1) | exact HB.out))); (case aF => exact (fun _ _ => trivial)); (case aO => exact (by (with_reducible repeat (first | apply Kd.R_alloc | apply Kd.R_drewN | apply Kd.R_drew)); exact HO171.out)); (case aS => exact (below_size (by repeat (first | (with_reducible first | exact HB.out | apply below_alloc | apply pw_below_drewN | apply below_drew1) | exact HB.out)))); (case aL => have := LMc3.out; omega); intro v173 w9 ho hb hg hat; rw [← Ny172.out] at ho; have n0_ := Aside0.mk (hb); have n1_ := Aside0.mk (ho); clear HB; clear HO171; have HB := n0_; have HO174 := n1_; clear n0_ n1_; clear ho hb hg hat; obtain ⟨Ao10, co10, eo10⟩ := Kd.R_slice HO174.out; subst eo10; have q11 : ((l0.length : Int) : Int) ≤ ((y172.length : Int) : Int) := of_decide_eq_true (by first | (with_reducible assumption) | assumption); obtain ⟨i011, hi011, _, hsz11, _⟩ := info_parts info9; have hcut11 := cut_to (P := Tryd.prog) 25 9 .i64 Tryd.underlying25 hi011 Ao10 y172.length co10 (l0.length : Int) (of_decide_eq_true (by first | (with_reducible assumption) | assumption)) q11 (Kd.R_reads' HO174.out).2.1; have hr11 := Kd.R_take (m := ((l0.length : Int) : Int).toNat) HO174.out (by omega); have hy11 : y175.length = ((l0.length : Int) : Int).toNat := (by rw [Ny175.out, List.length_take]; omega); rw [← Ny175.out] at hr11; rw [← hy11] at hr11 hcut11; clear hy11 hi011 hsz11 HO174; have HO177 := Aside0.mk hr11; clear hr11; replace q11 := eq_true q11))
     go_ret
     exact ⟨_, by first | rfl | (simp [errW_none, errW_some] <;> rfl) | (simp [*, errW_none, errW_some] <;> rfl), by (with_reducible repeat (first | apply Kd.R_alloc | apply Kd.R_drewN | apply Kd.R_drew)); exact HO177.out, by repeat (first | (with_reducible first | exact HB.out | apply below_alloc | apply pw_below_drewN | apply below_drew1) | exact HB.out)⟩
    ·rw [if_neg c5] at H
     exact absurd H (by simp)
   ·rw [if_neg c4] at H
    exact absurd H (by simp)
  ·rw [if_neg c3] at H
   exact absurd H (by simp)
 ·rw [if_neg c2] at H
  exact absurd H (by simp)

end Go.Proofs.YtegmmefijihdeaaDoor.PS
namespace Go.Proofs.YtegmmefijihdeaaDoor.PS
open Go.RowKit Go.Proofs.YtegmmefijihdeaaDoorW.PrintWords Go.Proofs.YtegmmefijihdeaaDoorW.PrintLast Go.Proofs.YtegmmefijihdeaaDoorW.PrintMore
set_option linter.unusedVariables false
set_option linter.unusedSimpArgs false
def markT : ByteArray := ⟨#[109, 97, 114, 107]⟩
/-- l lies at the start of a row of one's own that has the mark behind it. -/
def Lent (w : World) (base : Nat) (A : Option Addr) (c : Nat) (l : List ByteArray) : Prop := Kd.R Kd.string 9 w base (fun _ => True) (.slice A (l ++ [markT]).length c) (l ++ [markT])
theorem cut_wide {P : Program} (t e : TypeId) (kh : IntKind) {i : TypeInfo} (ht : P.underlying t = some (.slice e)) (hi : P.info? e = some i) (A : Option Addr) (n c : Nat) (j : Int) (h0 : 0 ≤ j) (hm : j ≤ c) :
    ∀ W : World, (Instr.slice t (.slice A n c) none (some (.int kh j)) none).run P W = .ok (.slice A j.toNat c) W := by
  intro W
  have hel : P.elem t = e := by simp [Program.elem, ht]
  have hu : P.underlying t = some (.slice (P.elem t)) := by rw [hel]; exact ht
  have ha : (A.map fun x => x.add 0) = A := by cases A <;> simp [Addr.add]
  rw [run_slice_h W t A n c hu kh j h0 (by omega), hel]
  simp [sizeOf, typeInfo, hi, sliced, Result.andThen, ha]
theorem Lent.small {w : World} {base : Nat} {A : Option Addr} {c : Nat} {l : List ByteArray} (h : Lent w base A c l) : l.length < 9223372036854775807 := by
  obtain ⟨_, inner, ho, _⟩ := h
  rcases ho.2 with ⟨_, h0⟩ | ⟨g, cap, cur, e, _, _, h1, h2, _⟩
  · simp at h0
  · rw [List.length_append] at h1
    have : maxLen ≤ 9223372036854775807 := by decide
    simp only [List.length_cons, List.length_nil] at h1
    omega
theorem Lent.reads {w : World} {base : Nat} {A : Option Addr} {c : Nat} {l : List ByteArray} (h : Lent w base A c l) : l.length + 1 ≤ c ∧ Kd.C Kd.string w A l.length l := by
  have h1 := (Kd.R_reads' h).2.1
  have h2 := Kd.R_take (m := l.length) h (by simp)
  rw [List.take_left' rfl] at h2
  rw [List.length_append] at h1
  exact ⟨h1, (Kd.R_reads' h2).2.2⟩
def corncribbook_KeptTexts.f (k : Nat) (l0 l1 : List ByteArray) : Option Bool := corncribbook_SameTexts.f k l0 l1
theorem corncribbook_KeptTexts.mono : ∀ a0 a1 k, LeO (corncribbook_KeptTexts.f k a0 a1) (corncribbook_KeptTexts.f (k + 1) a0 a1) := fun a0 a1 k => corncribbook_SameTexts.mono a0 a1 k
set_option maxHeartbeats 2000000 in
set_option maxRecDepth 100000 in
theorem kept_calls (k : Nat) (A0 : Option Addr) (c0 : Nat) (l0 : List ByteArray) (A1 : Option Addr) (c1 : Nat) (l1 : List ByteArray) (r : Bool) (w : World) (base : Nat) (hr0 : Lent w base A0 c0 l0) (hr1 : Kd.C Kd.string w A1 l1.length l1) (hc1 : l1.length ≤ c1) (h : corncribbook_KeptTexts.f k l0 l1 = some r) :
    Calls Tryd.prog 24 #[.slice A0 l0.length c0, .slice A1 l1.length c1] w fun e w' => e = .returned (.bool r) ∧ Drawn0 w w' := by
  have HL := Aside0.mk hr0.reads
  have HM := Aside0.mk (Kd.R_reads' hr0).2.2
  have HR1 := Aside0.mk hr1
  have HC1 := Aside0.mk hc1
  have hlen : (l0 ++ [markT]).length = l0.length + 1 := by simp
  have A3 : Aside0 (corncribbook_SameTexts.f k l0 l1 = some r) := ⟨h⟩
  have hb := hr0.small
  clear hr0 hr1 hc1
  cases r with
  | true =>
    have e1 : l1.length = l0.length := by
      have h' := A3.out
      unfold corncribbook_SameTexts.f at h'
      split at h'
      · omega
      · cases h'
    have HC0 : Aside0 (l0.length ≤ c0) := ⟨by have := HL.out.1; omega⟩
    obtain ⟨i0, hi0, _, _, _⟩ := info_parts info9
    have hat := Kd.at_string HM.out (l1.length : Int) (by omega) (by omega)
    obtain ⟨ad, had, hx⟩ := hat
    cases had
    have hrd : rdOf ByteArray.empty (l0 ++ [markT]) (l1.length : Int) = markT := by
      rw [e1]
      unfold rdOf
      simp
    rw [hrd, Int.toNat_natCast] at hx
    have hw : IntKind.i64.wrap ((l1.length : Int) + 1) = ((l1.length + 1 : Nat) : Int) := by
      refine (i64_w _).trans ?_
      unfold wrap64
      omega
    have hcut := cut_wide (P := Tryd.prog) 25 9 .i64 Tryd.underlying25 hi0 (some ad) l0.length c0 ((l1.length + 1 : Nat) : Int) (by omega) (by have := HL.out.1; omega)
    rw [Int.toNat_natCast] at hcut
    have hlt : decide (l1.length < l1.length + 1) = true := decide_eq_true (by omega)
    have hlt2 : l1.length < l1.length + 1 := by omega
    have E1 := Aside0.mk e1
    have hmk : (markT.toList == ([109, 97, 114, 107] : List UInt8)) = true := by kernel_rfl
    clear e1 hrd hlen hb
    go_enter Tryd.func24, Tryd.ntmps24
    go_wp2_with (first | ((with_reducible refine gate_callee (f := 19) rfl ?_); refine goesL_ (some 7) rfl rfl Tryd.func19 (by kernel_rfl) rfl #[.slice (some ad) l0.length c0, .slice A1 l1.length c1] rfl (by (try simp only [List.map_toArray, List.map_cons, List.map_nil]); first | done | rfl | (simp only [List.length_drop, List.length_take]; rfl)) ?_; (with_reducible refine (corncribbook_SameTexts.calls k _ _ l0 _ _ l1 true _ ?side1 ?side2 ?side3 ?side4 A3.out).mono ?_); (case side1 => repeat (first | exact HL.out.2 | (with_reducible refine Kd.C_alloc ?_ _) | (with_reducible refine Kd.C_drewN ?_ _) | (with_reducible refine Kd.C_drew ?_))); (case side2 => exact HC0.out); (case side3 => repeat (first | exact HR1.out | (with_reducible refine Kd.C_alloc ?_ _) | (with_reducible refine Kd.C_drewN ?_ _) | (with_reducible refine Kd.C_drew ?_))); (case side4 => exact HC1.out); rintro e w' ⟨rfl, ⟨nd, rfl⟩⟩; refine ⟨_, rfl, ?_⟩))
    rotate_left
    · rename_i hh
      have h1 := HL.out.1
      have h2 := E1.out
      exfalso
      omega
    go_ret
    exact ⟨by first | rfl | (simp [markT]; done) | (simp [*]; done), by repeat (first | exact Drawn0.refl _ | apply Drawn0.step)⟩
  | false =>
    have HC0 : Aside0 (l0.length ≤ c0) := ⟨by have := HL.out.1; omega⟩
    go_enter Tryd.func24, Tryd.ntmps24
    go_wp2_with (first | ((with_reducible refine gate_callee (f := 19) rfl ?_); refine goesL_ (some 7) rfl rfl Tryd.func19 (by kernel_rfl) rfl #[.slice A0 l0.length c0, .slice A1 l1.length c1] rfl (by (try simp only [List.map_toArray, List.map_cons, List.map_nil]); first | done | rfl | (simp only [List.length_drop, List.length_take]; rfl)) ?_; (with_reducible refine (corncribbook_SameTexts.calls k _ _ l0 _ _ l1 false _ ?side1 ?side2 ?side3 ?side4 A3.out).mono ?_); (case side1 => repeat (first | exact HL.out.2 | (with_reducible refine Kd.C_alloc ?_ _) | (with_reducible refine Kd.C_drewN ?_ _) | (with_reducible refine Kd.C_drew ?_))); (case side2 => exact HC0.out); (case side3 => repeat (first | exact HR1.out | (with_reducible refine Kd.C_alloc ?_ _) | (with_reducible refine Kd.C_drewN ?_ _) | (with_reducible refine Kd.C_drew ?_))); (case side4 => exact HC1.out); rintro e w' ⟨rfl, ⟨nd, rfl⟩⟩; refine ⟨_, rfl, ?_⟩))
    go_ret
    exact ⟨by first | rfl | (simp; done) | (simp [*]; done), by repeat (first | exact Drawn0.refl _ | apply Drawn0.step)⟩
set_option maxHeartbeats 2000000 in
set_option maxRecDepth 100000 in
theorem lend_calls (A0 : Option Addr) (c0 : Nat) (l0 : List ByteArray) (r : List ByteArray) (w : World) (hr0 : Kd.C Kd.string w A0 l0.length l0) (hc0 : l0.length ≤ c0) (h : corncribbook_LendTexts.f l0 = some r) :
  Calls Tryd.prog 21 #[.slice A0 l0.length c0] w fun e w' => ∃ A c, e = .returned (.slice A r.length c) ∧ Lent w' w.heap.size A c r ∧ Below w.heap.size w w' := by
 have HR0 := Aside0.mk hr0
 have HC0 := Aside0.mk hc0
 clear hr0 hc0
 have HB := Aside0.mk (Below.refl w.heap.size w)
 have H : ((some (([] : List ByteArray) : List ByteArray)).bind fun y166 => (if y166.length + l0.length < 8796093022208 then ((some (y166 ++ l0 : List ByteArray)).bind fun y169 => (if y169.length < 8796093022208 then ((some (y169 ++ [(⟨#[109, 97, 114, 107]⟩ : ByteArray)] : List ByteArray)).bind fun y172 => (if 0 ≤ (l0.length : Int) then (if (l0.length : Int) ≤ (y172.length : Int) then (some (y172.take ((l0.length : Int) : Int).toNat)) else (none)) else (none))) else (none))) else (none))) = some r := h
 clear h
 obtain ⟨y166, hy166⟩ : ∃ y_ : List ByteArray, y_ = (([] : List ByteArray)) := ⟨_, rfl⟩
 replace H : (if y166.length + l0.length < 8796093022208 then ((some (y166 ++ l0 : List ByteArray)).bind fun y169 => (if y169.length < 8796093022208 then ((some (y169 ++ [(⟨#[109, 97, 114, 107]⟩ : ByteArray)] : List ByteArray)).bind fun y172 => (if 0 ≤ (l0.length : Int) then (if (l0.length : Int) ≤ (y172.length : Int) then (some (y172.take ((l0.length : Int) : Int).toNat)) else (none)) else (none))) else (none))) else (none)) = some r := by first | (rw [hy166]; with_reducible exact H) | (have H2_ := (Option.bind_some _ _).symm.trans H; rw [hy166]; with_reducible exact H2_) | (have H2_ := (Option.bind_some _ _).symm.trans H; with_reducible exact H2_) | with_reducible exact H | (rw [hy166]; exact H) | exact H
 have Ny166 := Aside0.mk hy166
 clear hy166
 by_cases c2 : y166.length + l0.length < 8796093022208
 ·rw [if_pos c2] at H
  have LMc2 := Aside0.mk c2
  clear c2
  obtain ⟨y169, hy169⟩ : ∃ y_ : List ByteArray, y_ = (y166 ++ l0) := ⟨_, rfl⟩
  replace H : (if y169.length < 8796093022208 then ((some (y169 ++ [(⟨#[109, 97, 114, 107]⟩ : ByteArray)] : List ByteArray)).bind fun y172 => (if 0 ≤ (l0.length : Int) then (if (l0.length : Int) ≤ (y172.length : Int) then (some (y172.take ((l0.length : Int) : Int).toNat)) else (none)) else (none))) else (none)) = some r := by first | (rw [hy169]; with_reducible exact H) | (have H2_ := (Option.bind_some _ _).symm.trans H; rw [hy169]; with_reducible exact H2_) | (have H2_ := (Option.bind_some _ _).symm.trans H; with_reducible exact H2_) | with_reducible exact H | (rw [hy169]; exact H) | exact H
  have Ny169 := Aside0.mk hy169
  clear hy169
  by_cases c3 : y169.length < 8796093022208
  ·rw [if_pos c3] at H
   have LMc3 := Aside0.mk c3
   clear c3
   obtain ⟨y172, hy172⟩ : ∃ y_ : List ByteArray, y_ = (y169 ++ [(⟨#[109, 97, 114, 107]⟩ : ByteArray)]) := ⟨_, rfl⟩
   replace H : (if 0 ≤ (l0.length : Int) then (if (l0.length : Int) ≤ (y172.length : Int) then (some (y172.take ((l0.length : Int) : Int).toNat)) else (none)) else (none)) = some r := by first | (rw [hy172]; with_reducible exact H) | (have H2_ := (Option.bind_some _ _).symm.trans H; rw [hy172]; with_reducible exact H2_) | (have H2_ := (Option.bind_some _ _).symm.trans H; with_reducible exact H2_) | with_reducible exact H | (rw [hy172]; exact H) | exact H
   have Ny172 := Aside0.mk hy172
   clear hy172
   by_cases c4 : 0 ≤ (l0.length : Int)
   ·rw [if_pos c4] at H
    have c4b0 := eq_true c4
    have c4b1 : decide (0 ≤ (l0.length : Int)) = true := decide_eq_true c4
    clear c4
    by_cases c5 : (l0.length : Int) ≤ (y172.length : Int)
    ·rw [if_pos c5] at H
     have c5b0 := eq_true c5
     have c5b1 : decide ((l0.length : Int) ≤ (y172.length : Int)) = true := decide_eq_true c5
     clear c5
     obtain ⟨y175, hy175⟩ : ∃ y_ : List ByteArray, y_ = (y172.take ((l0.length : Int) : Int).toNat) := ⟨_, rfl⟩
     replace H : (some y175) = some r := by first | (rw [hy175]; with_reducible exact H) | (have H2_ := (Option.bind_some _ _).symm.trans H; rw [hy175]; with_reducible exact H2_) | (have H2_ := (Option.bind_some _ _).symm.trans H; with_reducible exact H2_) | with_reducible exact H | (rw [hy175]; exact H) | exact H
     have Ny175 := Aside0.mk hy175
     clear hy175
     obtain rfl := Option.some.inj H
     go_enter Tryd.func21, Tryd.ntmps21
     go_wp2_with (first | ((with_reducible refine gate_dst (N := 4) rfl ?_); refine Kd.R_lit Kd.string _ 9 ?hg (N := 4) ?hd (xs := ([] : List ByteArray)) (inner := []) (ok := fun _ => True) (okp := fun _ => True) ?hr ?hp (fun _ hk => hk) trivial (Below.refl _ _) (Nat.le_refl _) (by simp) ?_; (case hd => rfl); (case hg => rfl); (case hr => first | (go_simp; done) | (go_simp; rfl)); (case hp => exact (Reps.none _ _)); intro v167 w6 ho7 hb hg_ hnew_; clear hg_ hnew_; (first | rw [← Ny166.out] at ho7 | (simp only [Int.reduceToNat] at ho7; rw [← Ny166.out] at ho7)); have n0_ := Aside0.mk (Kd.R_lower ho7 (below_size (by repeat (first | (with_reducible first | exact HB.out | apply below_alloc | apply pw_below_drewN | apply below_drew1) | exact HB.out)))); have n1_ := Aside0.mk (below_step (by repeat (first | (with_reducible first | exact HB.out | apply below_alloc | apply pw_below_drewN | apply below_drew1) | exact HB.out)) hb); clear HB; have HO168 := n0_; have HB := n1_; clear n0_ n1_; clear hb ho7) | ((with_reducible refine gate_builtin (b := .append) (xs := #[.tmp 4, .tmp 5]) rfl ?_); at_builtin; refine Kd.R_append_rows Kd.string (w0 := w) w.heap.size rfl (.tmp 4) (.tmp 5) 25 9 (.string ⟨#[]⟩) 16 rfl Tryd.underlying25 info9 rfl (by decide) (by omega) v167 y166 l0 _ _ _ (fun _ => True) (fun _ => False) rfl rfl ?aO ?aR (fun _ _ h => h) (fun _ h => h.elim) ?aF ?aB ?aS ?aL ?_; (case aR => repeat (first | exact (Kd.C_below HR0.out HB.out) | (with_reducible refine Kd.C_alloc ?_ _) | (with_reducible refine Kd.C_drewN ?_ _) | (with_reducible refine Kd.C_drew ?_))); (case aB => exact (by repeat (first | (with_reducible first | exact HB.out | apply below_alloc | apply pw_below_drewN | apply below_drew1) | exact HB.out))); (case aF => exact (fun _ _ => trivial)); (case aO => exact (by (with_reducible repeat (first | apply Kd.R_alloc | apply Kd.R_drewN | apply Kd.R_drew)); exact HO168.out)); (case aS => exact (below_size (by repeat (first | (with_reducible first | exact HB.out | apply below_alloc | apply pw_below_drewN | apply below_drew1) | exact HB.out)))); (case aL => have := LMc2.out; omega); intro v170 w8 ho hb hg hat; rw [← Ny169.out] at ho; have n0_ := Aside0.mk (hb); have n1_ := Aside0.mk (ho); clear HB; clear HO168; have HB := n0_; have HO171 := n1_; clear n0_ n1_; clear ho hb hg hat) | ((with_reducible refine gate_builtin (b := .append) (xs := #[.tmp 7, .tmp 8]) rfl ?_); at_builtin; refine Kd.R_append Kd.string (w0 := w) w.heap.size rfl (.tmp 7) (.tmp 8) 25 9 (.string ⟨#[]⟩) 16 rfl Tryd.underlying25 info9 rfl (by decide) (by omega) v170 y169 (⟨#[109, 97, 114, 107]⟩ : ByteArray) [.string (⟨#[109, 97, 114, 107]⟩ : ByteArray)] (fun _ => True) (fun _ => False) rfl rfl ?aP (fun _ hk => hk.elim) ?aF ?aO ?aB ?aS ?aL ?_; (case aP => exact rfl); (case aB => exact (by repeat (first | (with_reducible first | exact HB.out | apply below_alloc | apply pw_below_drewN | apply below_drew1) | exact HB.out))); (case aF => exact (fun _ _ => trivial)); (case aO => exact (by (with_reducible repeat (first | apply Kd.R_alloc | apply Kd.R_drewN | apply Kd.R_drew)); exact HO171.out)); (case aS => exact (below_size (by repeat (first | (with_reducible first | exact HB.out | apply below_alloc | apply pw_below_drewN | apply below_drew1) | exact HB.out)))); (case aL => have := LMc3.out; omega); intro v173 w9 ho hb hg hat; rw [← Ny172.out] at ho; have n0_ := Aside0.mk (hb); have n1_ := Aside0.mk (ho); clear HB; clear HO171; have HB := n0_; have HO174 := n1_; clear n0_ n1_; clear ho hb hg hat; obtain ⟨Ao10, co10, eo10⟩ := Kd.R_slice HO174.out; subst eo10; have q11 : ((l0.length : Int) : Int) ≤ ((y172.length : Int) : Int) := of_decide_eq_true (by first | (with_reducible assumption) | assumption); obtain ⟨i011, hi011, _, hsz11, _⟩ := info_parts info9; have hcut11 := cut_to (P := Tryd.prog) 25 9 .i64 Tryd.underlying25 hi011 Ao10 y172.length co10 (l0.length : Int) (of_decide_eq_true (by first | (with_reducible assumption) | assumption)) q11 (Kd.R_reads' HO174.out).2.1; have hr11 := Kd.R_take (m := ((l0.length : Int) : Int).toNat) HO174.out (by omega); have hy11 : y175.length = ((l0.length : Int) : Int).toNat := (by rw [Ny175.out, List.length_take]; omega); rw [← Ny175.out] at hr11; rw [← hy11] at hr11 hcut11; clear hy11 hi011 hsz11 hr11; replace q11 := eq_true q11))
     go_ret
     exact ⟨_, _, rfl, by (unfold Lent; rw [show y175 ++ [markT] = y172 by rw [Ny175.out, Ny172.out, Ny169.out, Ny166.out]; simp [markT]]; (with_reducible repeat (first | apply Kd.R_alloc | apply Kd.R_drewN | apply Kd.R_drew)); exact HO174.out), by repeat (first | (with_reducible first | exact HB.out | apply below_alloc | apply pw_below_drewN | apply below_drew1) | exact HB.out)⟩
    ·rw [if_neg c5] at H
     exact absurd H (by simp)
   ·rw [if_neg c4] at H
    exact absurd H (by simp)
  ·rw [if_neg c3] at H
   exact absurd H (by simp)
 ·rw [if_neg c2] at H
  exact absurd H (by simp)

end Go.Proofs.YtegmmefijihdeaaDoor.PS
namespace Go.Proofs.YtegmmefijihdeaaDoor.PS
open Go.RowKit Go.Proofs.YtegmmefijihdeaaDoorW.PrintWords Go.Proofs.YtegmmefijihdeaaDoorW.PrintLast Go.Proofs.YtegmmefijihdeaaDoorW.PrintMore
set_option linter.unusedVariables false
set_option linter.unusedSimpArgs false
theorem eqA62 (d : Nat) (w : World) (x0 y0 : Int) (x1 y1 : ByteArray) :
  (Op.equalIn (d + 2) 62 (.agg #[.int .i64 x0, .string x1]) (.agg #[.int .i64 y0, .string y1])).run Tryd.prog w = .ok (x0 == y0 && (x1.toList == y1.toList)) w := by
 refine eqA_of Tryd.underlying62 (by kernel_rfl) ?_
 refine eqf_cons (by rfl) (by go_simp; rfl) (by go_simp; rfl) (by go_simp) ?_
 exact eqf_last (by rfl) (by go_simp; rfl) (by go_simp; rfl) (by go_simp)
attribute [local go_sem high] eqA62
def markS : S62 := ⟨-77, ⟨#[]⟩⟩
/-- l lies at the start of a row of one's own that has the mark behind it. -/
def LentS (w : World) (base : Nat) (A : Option Addr) (c : Nat) (l : List S62) : Prop := Kd.R k62 62 w base (fun _ => True) (.slice A (l ++ [markS]).length c) (l ++ [markS])
theorem LentS.small {w : World} {base : Nat} {A : Option Addr} {c : Nat} {l : List S62} (h : LentS w base A c l) : l.length < 9223372036854775807 := by
  obtain ⟨_, inner, ho, _⟩ := h
  rcases ho.2 with ⟨_, h0⟩ | ⟨g, cap, cur, e, _, _, h1, h2, _⟩
  · simp at h0
  · rw [List.length_append] at h1
    have : maxLen ≤ 9223372036854775807 := by decide
    simp only [List.length_cons, List.length_nil] at h1
    omega
theorem LentS.reads {w : World} {base : Nat} {A : Option Addr} {c : Nat} {l : List S62} (h : LentS w base A c l) : l.length + 1 ≤ c ∧ Kd.C k62 w A l.length l := by
  have h1 := (Kd.R_reads' h).2.1
  have h2 := Kd.R_take (m := l.length) h (by simp)
  rw [List.take_left' rfl] at h2
  rw [List.length_append] at h1
  exact ⟨h1, (Kd.R_reads' h2).2.2⟩
def corncriblaw04_lend.f (l0 : List (S62)) : Option ((List (S62))) := (some (([] : List (S62)) : List (S62))).bind fun y101 => (if y101.length + l0.length < 5864062014805 then ((some (y101 ++ l0 : List (S62))).bind fun y104 => (if y104.length < 5864062014805 then ((some (y104 ++ [(⟨(-77), (⟨#[]⟩ : ByteArray)⟩ : S62)] : List (S62))).bind fun y107 => (if 0 ≤ (l0.length : Int) then (if (l0.length : Int) ≤ (y107.length : Int) then (some (y107.take ((l0.length : Int) : Int).toNat)) else (none)) else (none))) else (none))) else (none))
set_option maxHeartbeats 8000000 in
set_option maxRecDepth 100000 in
theorem lendS_calls (A0 : Option Addr) (c0 : Nat) (l0 : List (S62)) (r : List (S62)) (w : World) (hr0 : Kd.C k62 w A0 l0.length l0) (hc0 : l0.length ≤ c0) (h : corncriblaw04_lend.f l0 = some r) :
  Calls Tryd.prog 33 #[.slice A0 l0.length c0] w fun e w' => ∃ A c, e = .returned (.slice A r.length c) ∧ LentS w' w.heap.size A c r ∧ Below w.heap.size w w' := by
 have hu62 := Tryd.underlying62
 have HR0 := Aside0.mk hr0
 have HC0 := Aside0.mk hc0
 clear hr0 hc0
 have HB := Aside0.mk (Below.refl w.heap.size w)
 have H : ((some (([] : List (S62)) : List (S62))).bind fun y101 => (if y101.length + l0.length < 5864062014805 then ((some (y101 ++ l0 : List (S62))).bind fun y104 => (if y104.length < 5864062014805 then ((some (y104 ++ [(⟨(-77), (⟨#[]⟩ : ByteArray)⟩ : S62)] : List (S62))).bind fun y107 => (if 0 ≤ (l0.length : Int) then (if (l0.length : Int) ≤ (y107.length : Int) then (some (y107.take ((l0.length : Int) : Int).toNat)) else (none)) else (none))) else (none))) else (none))) = some r := h
 clear h
 obtain ⟨y101, hy101⟩ : ∃ y_ : List (S62), y_ = (([] : List (S62))) := ⟨_, rfl⟩
 replace H : (if y101.length + l0.length < 5864062014805 then ((some (y101 ++ l0 : List (S62))).bind fun y104 => (if y104.length < 5864062014805 then ((some (y104 ++ [(⟨(-77), (⟨#[]⟩ : ByteArray)⟩ : S62)] : List (S62))).bind fun y107 => (if 0 ≤ (l0.length : Int) then (if (l0.length : Int) ≤ (y107.length : Int) then (some (y107.take ((l0.length : Int) : Int).toNat)) else (none)) else (none))) else (none))) else (none)) = some r := by first | (rw [hy101]; with_reducible exact H) | (have H2_ := (Option.bind_some _ _).symm.trans H; rw [hy101]; with_reducible exact H2_) | (have H2_ := (Option.bind_some _ _).symm.trans H; with_reducible exact H2_) | with_reducible exact H | (rw [hy101]; exact H) | exact H
 have Ny101 := Aside0.mk hy101
 clear hy101
 by_cases c2 : y101.length + l0.length < 5864062014805
 ·rw [if_pos c2] at H
  have LMc2 := Aside0.mk c2
  clear c2
  obtain ⟨y104, hy104⟩ : ∃ y_ : List (S62), y_ = (y101 ++ l0) := ⟨_, rfl⟩
  replace H : (if y104.length < 5864062014805 then ((some (y104 ++ [(⟨(-77), (⟨#[]⟩ : ByteArray)⟩ : S62)] : List (S62))).bind fun y107 => (if 0 ≤ (l0.length : Int) then (if (l0.length : Int) ≤ (y107.length : Int) then (some (y107.take ((l0.length : Int) : Int).toNat)) else (none)) else (none))) else (none)) = some r := by first | (rw [hy104]; with_reducible exact H) | (have H2_ := (Option.bind_some _ _).symm.trans H; rw [hy104]; with_reducible exact H2_) | (have H2_ := (Option.bind_some _ _).symm.trans H; with_reducible exact H2_) | with_reducible exact H | (rw [hy104]; exact H) | exact H
  have Ny104 := Aside0.mk hy104
  clear hy104
  by_cases c3 : y104.length < 5864062014805
  ·rw [if_pos c3] at H
   have LMc3 := Aside0.mk c3
   clear c3
   obtain ⟨y107, hy107⟩ : ∃ y_ : List (S62), y_ = (y104 ++ [(⟨(-77), (⟨#[]⟩ : ByteArray)⟩ : S62)]) := ⟨_, rfl⟩
   replace H : (if 0 ≤ (l0.length : Int) then (if (l0.length : Int) ≤ (y107.length : Int) then (some (y107.take ((l0.length : Int) : Int).toNat)) else (none)) else (none)) = some r := by first | (rw [hy107]; with_reducible exact H) | (have H2_ := (Option.bind_some _ _).symm.trans H; rw [hy107]; with_reducible exact H2_) | (have H2_ := (Option.bind_some _ _).symm.trans H; with_reducible exact H2_) | with_reducible exact H | (rw [hy107]; exact H) | exact H
   have Ny107 := Aside0.mk hy107
   clear hy107
   by_cases c4 : 0 ≤ (l0.length : Int)
   ·rw [if_pos c4] at H
    have c4b0 := eq_true c4
    have c4b1 : decide (0 ≤ (l0.length : Int)) = true := decide_eq_true c4
    clear c4
    by_cases c5 : (l0.length : Int) ≤ (y107.length : Int)
    ·rw [if_pos c5] at H
     have c5b0 := eq_true c5
     have c5b1 : decide ((l0.length : Int) ≤ (y107.length : Int)) = true := decide_eq_true c5
     clear c5
     obtain ⟨y110, hy110⟩ : ∃ y_ : List (S62), y_ = (y107.take ((l0.length : Int) : Int).toNat) := ⟨_, rfl⟩
     replace H : (some y110) = some r := by first | (rw [hy110]; with_reducible exact H) | (have H2_ := (Option.bind_some _ _).symm.trans H; rw [hy110]; with_reducible exact H2_) | (have H2_ := (Option.bind_some _ _).symm.trans H; with_reducible exact H2_) | with_reducible exact H | (rw [hy110]; exact H) | exact H
     have Ny110 := Aside0.mk hy110
     clear hy110
     obtain rfl := Option.some.inj H
     go_enter Tryd.func33, Tryd.ntmps33
     go_wp2_with (first | ((with_reducible refine gate_dst (N := 4) rfl ?_); refine Kd.R_lit k62 _ 62 ?hg (N := 4) ?hd (xs := ([] : List (S62))) (inner := []) (ok := fun _ => True) (okp := fun _ => True) ?hr ?hp (fun _ hk => hk) trivial (Below.refl _ _) (Nat.le_refl _) (by simp) ?_; (case hd => rfl); (case hg => rfl); (case hr => first | (go_simp; done) | (go_simp; rfl)); (case hp => exact (Reps.none _ _)); intro v102 w6 ho7 hb hg_ hnew_; clear hg_ hnew_; (first | rw [← Ny101.out] at ho7 | (simp only [Int.reduceToNat] at ho7; rw [← Ny101.out] at ho7)); have n0_ := Aside0.mk (Kd.R_lower ho7 (below_size (by repeat (first | (with_reducible first | exact HB.out | apply below_alloc | apply pw_below_drewN | apply below_drew1) | exact HB.out)))); have n1_ := Aside0.mk (below_step (by repeat (first | (with_reducible first | exact HB.out | apply below_alloc | apply pw_below_drewN | apply below_drew1) | exact HB.out)) hb); clear HB; have HO103 := n0_; have HB := n1_; clear n0_ n1_; clear hb ho7) | ((with_reducible refine gate_builtin (b := .append) (xs := #[.tmp 4, .tmp 5]) rfl ?_); at_builtin; refine Kd.R_append_rows k62 (w0 := w) w.heap.size rfl (.tmp 4) (.tmp 5) 47 62 (.agg #[(.int .i64 0), (.string ⟨#[]⟩)]) 24 rfl Tryd.underlying47 info62 rfl (by decide) (by omega) v102 y101 l0 _ _ _ (fun _ => True) (fun _ => False) rfl rfl ?aO ?aR (fun _ _ h => h) (fun _ h => h.elim) ?aF ?aB ?aS ?aL ?_; (case aR => repeat (first | exact (Kd.C_below HR0.out HB.out) | (with_reducible refine Kd.C_alloc ?_ _) | (with_reducible refine Kd.C_drewN ?_ _) | (with_reducible refine Kd.C_drew ?_))); (case aB => exact (by repeat (first | (with_reducible first | exact HB.out | apply below_alloc | apply pw_below_drewN | apply below_drew1) | exact HB.out))); (case aF => exact (fun _ _ => trivial)); (case aO => exact (by (with_reducible repeat (first | apply Kd.R_alloc | apply Kd.R_drewN | apply Kd.R_drew)); exact HO103.out)); (case aS => exact (below_size (by repeat (first | (with_reducible first | exact HB.out | apply below_alloc | apply pw_below_drewN | apply below_drew1) | exact HB.out)))); (case aL => have := LMc2.out; omega); intro v105 w8 ho hb hg hat; rw [← Ny104.out] at ho; have n0_ := Aside0.mk (hb); have n1_ := Aside0.mk (ho); clear HB; clear HO103; have HB := n0_; have HO106 := n1_; clear n0_ n1_; clear ho hb hg hat) | ((with_reducible refine gate_builtin (b := .append) (xs := #[.tmp 7, .tmp 9]) rfl ?_); at_builtin; refine Kd.R_append k62 (w0 := w) w.heap.size rfl (.tmp 7) (.tmp 9) 47 62 (.agg #[(.int .i64 0), (.string ⟨#[]⟩)]) 24 rfl Tryd.underlying47 info62 rfl (by decide) (by omega) v105 y104 (⟨(-77), (⟨#[]⟩ : ByteArray)⟩ : S62) [.int .i64 (-77), .string (⟨#[]⟩ : ByteArray)] (fun _ => True) (fun _ => False) rfl rfl ?aP (fun _ hk => hk.elim) ?aF ?aO ?aB ?aS ?aL ?_; (case aP => exact k62_mkM _ _ _ (⟨(-77), (⟨#[]⟩ : ByteArray)⟩ : S62)); (case aB => exact (by repeat (first | (with_reducible first | exact HB.out | apply below_alloc | apply pw_below_drewN | apply below_drew1) | exact HB.out))); (case aF => exact (fun _ _ => trivial)); (case aO => exact (by (with_reducible repeat (first | apply Kd.R_alloc | apply Kd.R_drewN | apply Kd.R_drew)); exact HO106.out)); (case aS => exact (below_size (by repeat (first | (with_reducible first | exact HB.out | apply below_alloc | apply pw_below_drewN | apply below_drew1) | exact HB.out)))); (case aL => have := LMc3.out; omega); intro v108 w9 ho hb hg hat; rw [← Ny107.out] at ho; have n0_ := Aside0.mk (hb); have n1_ := Aside0.mk (ho); clear HB; clear HO106; have HB := n0_; have HO109 := n1_; clear n0_ n1_; clear ho hb hg hat; obtain ⟨Ao10, co10, eo10⟩ := Kd.R_slice HO109.out; subst eo10; have q11 : ((l0.length : Int) : Int) ≤ ((y107.length : Int) : Int) := of_decide_eq_true (by first | (with_reducible assumption) | assumption); obtain ⟨i011, hi011, _, hsz11, _⟩ := info_parts info62; have hcut11 := cut_to (P := Tryd.prog) 47 62 .i64 Tryd.underlying47 hi011 Ao10 y107.length co10 (l0.length : Int) (of_decide_eq_true (by first | (with_reducible assumption) | assumption)) q11 (Kd.R_reads' HO109.out).2.1; have hr11 := Kd.R_take (m := ((l0.length : Int) : Int).toNat) HO109.out (by omega); have hy11 : y110.length = ((l0.length : Int) : Int).toNat := (by rw [Ny110.out, List.length_take]; omega); rw [← Ny110.out] at hr11; rw [← hy11] at hr11 hcut11; clear hy11 hi011 hsz11 hr11; replace q11 := eq_true q11))
     go_ret
     exact ⟨_, _, rfl, by (unfold LentS; rw [show y110 ++ [markS] = y107 by rw [Ny110.out, Ny107.out, Ny104.out, Ny101.out]; simp [markS]]; (with_reducible repeat (first | apply Kd.R_alloc | apply Kd.R_drewN | apply Kd.R_drew)); exact HO109.out), by repeat (first | (with_reducible first | exact HB.out | apply below_alloc | apply pw_below_drewN | apply below_drew1) | exact HB.out)⟩
    ·rw [if_neg c5] at H
     exact absurd H (by simp)
   ·rw [if_neg c4] at H
    exact absurd H (by simp)
  ·rw [if_neg c3] at H
   exact absurd H (by simp)
 ·rw [if_neg c2] at H
  exact absurd H (by simp)

def sameS : List S62 → List S62 → Bool
  | [], [] => true
  | a :: x, b :: y => decide (a.f0 = b.f0) && decide (a.f1.data.toList = b.f1.data.toList) && sameS x y
  | _, _ => false
theorem sameS_eq : ∀ {x y : List S62}, sameS x y = true → x = y
  | [], [], _ => rfl
  | a :: x, b :: y, h => by
    unfold sameS at h
    rw [Bool.and_eq_true, Bool.and_eq_true] at h
    have h1 := of_decide_eq_true h.1.1
    have h2 := of_decide_eq_true h.1.2
    have h3 := sameS_eq h.2
    obtain ⟨a0, a1⟩ := a
    obtain ⟨b0, b1⟩ := b
    simp only at h1 h2
    have h4 : a1 = b1 := by
      apply ByteArray.ext
      apply Array.ext'
      exact h2
    rw [h1, h3, h4]
  | [], _ :: _, h => by simp [sameS] at h
  | _ :: _, [], h => by simp [sameS] at h
theorem sameS_refl : ∀ x : List S62, sameS x x = true
  | [] => rfl
  | a :: x => by unfold sameS; rw [sameS_refl x]; simp
def corncriblaw04_kept.f (l0 l1 : List S62) : Option Bool := if sameS l0 l1 = true then some true else none
set_option maxHeartbeats 2000000 in
set_option maxRecDepth 100000 in
theorem keptS_calls (A0 : Option Addr) (c0 : Nat) (l0 : List S62) (A1 : Option Addr) (c1 : Nat) (l1 : List S62) (r : Bool) (w : World) (base : Nat) (hr0 : LentS w base A0 c0 l0) (hr1 : Kd.C k62 w A1 l1.length l1) (hc1 : l1.length ≤ c1) (h : corncriblaw04_kept.f l0 l1 = some r) :
    Calls Tryd.prog 36 #[.slice A0 l0.length c0, .slice A1 l1.length c1] w fun e w' => e = .returned (.bool r) ∧ Below w.heap.size w w' := by
  unfold corncriblaw04_kept.f at h
  by_cases he0 : sameS l0 l1 = true
  · rw [if_pos he0] at h
    have he := sameS_eq he0
    clear he0
    obtain rfl := Option.some.inj h
    subst he
    have HL := Aside0.mk hr0.reads
    have HM := Aside0.mk (Kd.R_reads' hr0).2.2
    have HR1 := Aside0.mk hr1
    have hb := hr0.small
    have hmark := at_T62 HM.out (l0.length : Int) (by omega) (by simp; omega)
    obtain ⟨ad, had, hx0, hx1⟩ := hmark
    subst had
    have hrd : rd_T62 (l0 ++ [markS]) (l0.length : Int) = markS := by
      unfold rd_T62
      simp
    rw [hrd, Int.toNat_natCast] at hx0 hx1
    obtain ⟨i0, hi0, _, _, _⟩ := info_parts info62
    have hw : IntKind.i64.wrap ((l0.length : Int) + 1) = ((l0.length + 1 : Nat) : Int) := by
      refine (i64_w _).trans ?_
      unfold wrap64
      omega
    have hcut := cut_wide (P := Tryd.prog) 47 62 .i64 Tryd.underlying47 hi0 (some ad) l0.length c0 ((l0.length + 1 : Nat) : Int) (by omega) (by have := HL.out.1; omega)
    rw [Int.toNat_natCast] at hcut
    have HX := Aside0.mk (And.intro hx0 hx1)
    have HCUT := Aside0.mk hcut
    have HW := Aside0.mk hw
    clear hx0 hx1 hcut hw hrd hr0 hr1 h
    go_enter Tryd.func36, Tryd.ntmps36
    go_wp2
    go_loopw [5] (fun v W => ∃ i : Nat, i ≤ l0.length ∧ v = .int .i64 (i : Int) ∧ Drawn0 w W) (fun v _ => l0.length - (intOf v).toNat)
    case atStart => exact ⟨0, by omega, rfl, by repeat (first | exact Drawn0.refl _ | apply Drawn0.step)⟩
    case round =>
      obtain ⟨i, hi, rfl, ⟨n, rfl⟩⟩ := hrel
      by_cases hlt : i < l0.length
      · obtain ⟨a0, e0, hx0, hx1⟩ := at_T62 HL.out.2 (i : Int) (by omega) (by omega)
        obtain ⟨a1, e1, hy0, hy1⟩ := at_T62 HR1.out (i : Int) (by omega) (by omega)
        obtain rfl : ad = a0 := by injection e0
        subst e1
        rw [Int.toNat_natCast] at hx0 hx1 hy0 hy1
        have dlt : decide ((i : Int) < (l0.length : Int)) = true := decide_eq_true (by omega)
        generalize rd_T62 l0 (i : Int) = si at *
        obtain ⟨x, s⟩ := si
        simp only at hx0 hx1 hy0 hy1
        clear e0
        go_wp2
        repeat (go_quiet (fail); try go_wp2)
        go_roundw
        case rel => exact ⟨i + 1, by omega, by go_num, by repeat (first | exact Drawn0.refl _ | apply Drawn0.step)⟩
        case measure => simp [intOf]; omega
      · have hil : i = l0.length := by omega
        subst hil
        have hx0 := HX.out.1
        have hx1 := HX.out.2
        have hcut := HCUT.out
        have hw := HW.out
        have hlt2 : l0.length < l0.length + 1 := by omega
        have hlt3 : decide ((l0.length : Int) < ((l0.length + 1 : Nat) : Int)) = true := decide_eq_true (by omega)
        unfold markS at hx0 hx1
        simp only at hx0 hx1
        go_wp2
        rotate_left
        · rename_i hh
          have h1 := HL.out.1
          exfalso
          omega
        go_ret
        exact ⟨rfl, pw_below_drewN (Below.refl _ _) _⟩
  · rw [if_neg he0] at h
    cases h
end Go.Proofs.YtegmmefijihdeaaDoor.PS
namespace Go.Proofs.YtegmmefijihdeaaDoor.PS
open Go.RowKit Go.Proofs.YtegmmefijihdeaaDoorW.PrintWords Go.Proofs.YtegmmefijihdeaaDoorW.PrintLast Go.Proofs.YtegmmefijihdeaaDoorW.PrintMore
attribute [local go_sem] Mk.str_leq Mk.str_gtr Mk.str_geq max2_int min2_int max_two min_two max_three min_three max_four min_four   -- for this text's walks alone
set_option linter.unusedVariables false
set_option linter.unusedSimpArgs false

/-! ### corncribbook_Among: function 30 -/
def corncribbook_Among.f (a0 : Int) (a1 : Int) : Option (Int) := if a1 = 0 then (none) else (some (Int.tmod (wrap64 ((Int.tmod a0 a1) + a1)) a1))
set_option maxHeartbeats 8000000 in
set_option maxRecDepth 100000 in
theorem corncribbook_Among.calls (a0 : Int) (a1 : Int) (r : Int) (w : World) (h : corncribbook_Among.f a0 a1 = some r) :
  Calls Tryd.prog 30 #[.int .i64 a0, .int .i64 a1] w fun e w' => e = .returned (.int .i64 r) ∧ Drawn0 w w' := by
 have H : (if a1 = 0 then (none) else (some (Int.tmod (wrap64 ((Int.tmod a0 a1) + a1)) a1))) = some r := h
 clear h
 by_cases c3 : a1 = 0
 ·rw [if_pos c3] at H
  exact absurd H (by simp)
 ·rw [if_neg c3] at H
  have c3b0 : (a1 == 0) = false := beq_eq_false_iff_ne.mpr c3
  have c3b1 : (a1 != 0) = true := bne_iff_ne.mpr c3
  obtain rfl := Option.some.inj H
  go_enter Tryd.func30, Tryd.ntmps30
  go_wp2
  go_ret
  exact ⟨by first | rfl | (simp; done) | (simp [*]; done), by repeat (first | exact Drawn0.refl _ | apply Drawn0.step)⟩

end Go.Proofs.YtegmmefijihdeaaDoor.PS
namespace Go.Proofs.YtegmmefijihdeaaDoor.PS
open Go.RowKit Go.Proofs.YtegmmefijihdeaaDoorW.PrintWords Go.Proofs.YtegmmefijihdeaaDoorW.PrintLast Go.Proofs.YtegmmefijihdeaaDoorW.PrintMore Go.Proofs.YtegmmefijihdeaaDoor.Gf Go.Proofs.YtegmmefijihdeaaDoor.Fld Go.Proofs.YtegmmefijihdeaaDoor.Grd Go.Proofs.YtegmmefijihdeaaDoor.Rowb
set_option linter.unusedVariables false
set_option linter.unusedSimpArgs false
theorem among_f (x : Int) (n : Nat) (hx : -9223372036854775808 ≤ x) (hx2 : x ≤ 9223372036854775807) (h1 : 1 ≤ n) (h2 : n ≤ 100000) : ∃ y : Nat, y < n ∧ corncribbook_Among.f x (n : Int) = some (y : Int) := by
  unfold corncribbook_Among.f
  rw [if_neg (by omega)]
  have h3 : -(n : Int) < x.tmod (n : Int) ∧ x.tmod (n : Int) < (n : Int) := by
    have ha := Int.lt_tmod_of_pos x (show (0 : Int) < (n : Int) by omega)
    have hb := Int.tmod_lt_of_pos x (show (0 : Int) < (n : Int) by omega)
    exact ⟨ha, hb⟩
  obtain ⟨t, ht⟩ : ∃ t, x.tmod (n : Int) = t := ⟨_, rfl⟩
  rw [ht] at h3 ⊢
  rw [w64_in (t + (n : Int)) (by omega) (by omega)]
  obtain ⟨s, hs⟩ : ∃ s : Nat, t + (n : Int) = (s : Int) := ⟨(t + (n : Int)).toNat, by omega⟩
  rw [hs, Int.tmod_eq_emod_of_nonneg (by omega)]
  refine ⟨s % n, Nat.mod_lt _ (by omega), ?_⟩
  rw [Int.natCast_emod]
theorem mn_nat (a b : Nat) : mn (a : Int) (b : Int) = ((min a b : Nat) : Int) := by
  unfold mn
  rcases Nat.le_total a b with h | h
  · rw [Nat.min_eq_left h]; first | rw [if_pos (by omega)] | rw [if_neg (by omega)] | (split <;> omega)
  · rw [Nat.min_eq_right h]; first | (split <;> omega) | rw [if_neg (by omega)]
theorem w64_nat (n : Nat) (h : n ≤ 9223372036854775807) : wrap64 (n : Int) = (n : Int) := w64_in _ (by omega) (by omega)
theorem wf_i64 {x : Int} (h : (Lit.int .i64 x).wf = true) : -9223372036854775808 ≤ x ∧ x ≤ 9223372036854775807 := by
  have : IntKind.i64.min ≤ x ∧ x ≤ IntKind.i64.max := by simpa [Lit.wf] using h
  exact this
end Go.Proofs.YtegmmefijihdeaaDoor.PS
namespace Go.Proofs.YtegmmefijihdeaaDoor.Read
open Go.RowKit Go.Proofs.YtegmmefijihdeaaDoorW.PrintWords
set_option linter.unusedVariables false

/-- Type t reads as kind d; what is read is good. -/
structure Opens {α : Type} (P : Program) (d : Kd α) (t : TypeId) (good : α → Prop) : Prop where
  sz : P.cellsOf t = d.sz
  read : ∀ {H : Type} {enc : TypeId × Value → H} {W : World} {base : Nat} {sp : Nat → Bool} {held : Bool} {fuel : Nat} {cs : List Value} {x : DataW H × List MemPlace},
    DataW.trod enc P W base sp held fuel t cs = some x → (DataW.weights P t x.1).all (· ≤ reachBytes) = true → ∃ a, d.K W a cs ∧ good a
section
variable {P : Program}
theorem opens_int {t : TypeId} {k : IntKind} (ht : P.underlying t = some (.int k)) (hc : P.cellsOf t = 1) : Opens P (Kd.int k) t (fun a => (Lit.int k a).wf = true) := by
  refine ⟨hc, fun {H enc W base sp held fuel cs x} h hs => ?_⟩
  cases fuel with
  | zero => cases h
  | succ n =>
    unfold DataW.trod at h
    rw [ht] at h
    split at h <;> first | cases h | skip
    all_goals first | (simp_all; done) | skip
    rename_i k0 k' m e1
    cases e1
    split at h
    · rename_i hk
      obtain ⟨rfl, hw⟩ := hk
      exact ⟨m, rfl, hw⟩
    · cases h
theorem opens_bool {t : TypeId} (ht : P.underlying t = some .bool) (hc : P.cellsOf t = 1) : Opens P Kd.bool t (fun _ => True) := by
  refine ⟨hc, fun {H enc W base sp held fuel cs x} h hs => ?_⟩
  cases fuel with
  | zero => cases h
  | succ n =>
    unfold DataW.trod at h
    rw [ht] at h
    split at h <;> first | cases h | skip
    all_goals first | (simp_all; done) | skip
    exact ⟨_, rfl, trivial⟩
theorem opens_string {t : TypeId} (ht : P.underlying t = some .string) (hc : P.cellsOf t = 1) : Opens P Kd.string t (fun a => a.size ≤ 140737488351232) := by
  refine ⟨hc, fun {H enc W base sp held fuel cs x} h hs => ?_⟩
  cases fuel with
  | zero => cases h
  | succ n =>
    unfold DataW.trod at h
    rw [ht] at h
    split at h <;> first | cases h | skip
    all_goals first | (simp_all; done) | skip
    split at h
    · cases h
      refine ⟨_, rfl, ?_⟩
      simp only [DataW.weights, List.all_cons, Bool.and_eq_true, decide_eq_true_eq] at hs
      have := hs.1
      rwa [Array.length_toList] at this
    · cases h
theorem weightsAll_mem {H : Type} {e : TypeId} : ∀ {l : List (DataW H)}, (DataW.weightsAll P e l).all (· ≤ reachBytes) = true → ∀ d, d ∈ l → (DataW.weights P e d).all (· ≤ reachBytes) = true
  | [], _, d, hd => by cases hd
  | a :: r, h, d, hd => by
    rw [DataW.weightsAll, List.all_append, Bool.and_eq_true] at h
    rcases List.mem_cons.1 hd with rfl | hd
    · exact h.1
    · exact weightsAll_mem h.2 d hd
/-- A slice of what opens: no longer than the row's weight allows. -/
theorem opens_slice {α : Type} [Inhabited α] {d : Kd α} {t e : TypeId} {good : α → Prop} {B : Nat} (ht : P.underlying t = some (.slice e)) (hc : P.cellsOf t = 1) (hB : P.bytesOf e = B) (hd : Opens P d e good) :
    Opens P (Kd.slice e d) t (fun l => l.length * B ≤ 140737488351232 ∧ ∀ a, a ∈ l → good a) := by
  refine ⟨hc, fun {H enc W base sp held fuel cs x} h hs => ?_⟩
  rcases Deep.open_slice ht h with ⟨rfl, rfl⟩ | ⟨a, len, cap, m, n, D, Pl, rfl, hb, hl, hm, hmm, rfl, hx⟩
  · exact ⟨[], ⟨none, 0, rfl, Nat.le_refl _, Kd.C_nil d W⟩, by simp, fun _ h => by cases h⟩
  · have hlm : len ≤ m := by rw [hmm]; split <;> omega
    simp only [DataW.weights, ht, List.all_cons, List.all_append, Bool.and_eq_true, decide_eq_true_eq, List.length_map, List.length_range] at hs
    obtain ⟨hw, hs1, hs2⟩ := hs
    obtain ⟨F, hF⟩ := Deep.choose_lt (α := α) (n := len) (p := fun i f => good f ∧ ∃ cs', W.cells? base (a.add (i * P.cellsOf e)) (P.cellsOf e) = some cs' ∧ d.K W f cs') (fun i hi => by
      obtain ⟨cs', h1, h2⟩ := hx i (Nat.lt_of_lt_of_le hi hlm)
      obtain ⟨f, hk, hg⟩ := hd.read h2 (weightsAll_mem hs1 _ (List.mem_map.2 ⟨i, List.mem_range.2 hi, rfl⟩))
      exact ⟨f, hg, cs', h1, hk⟩)
    have hmx : cap ≤ 9223372036854775807 := Nat.le_trans hm (by decide)
    refine ⟨(List.range len).map F, ⟨some a, cap, by simp, by simpa using hl, by simp, by simp; omega, fun _ => ⟨a, rfl, fun j p hj => ?_⟩⟩, ?_, fun b hb' => ?_⟩
    · have hjl : j < len := by
        have := List.getElem?_eq_some_iff.1 hj
        obtain ⟨hj', _⟩ := this
        simpa using hj'
      obtain rfl : F j = p := by simpa [hjl] using hj
      obtain ⟨hg, cs', h1, hk⟩ := hF j hjl
      refine ⟨cs', d.K_len hk, hk, fun i u hu => ?_⟩
      obtain ⟨_, hl', hcell⟩ := World.cells?_some h1
      have hi : i < cs'.length := (List.getElem?_eq_some_iff.1 hu).1
      have := hcell i (by omega)
      rw [hu] at this
      rw [← hd.sz, ← Addr.add_add]
      exact this
    · rw [hB] at hw
      have h2 : len + (m - len) = m := by omega
      rw [h2] at hw
      have h3 : len * B ≤ m * B := Nat.mul_le_mul_right _ hlm
      have h4 : len * B ≤ 140737488351232 := Nat.le_trans h3 hw
      simpa using h4
    · obtain ⟨i, hi, rfl⟩ := List.mem_map.1 hb'
      exact (hF i (List.mem_range.1 hi)).1
/-- Fields, one behind the other, from cell o on. -/
def Parts {α : Type} (P : Program) (d : Kd α) (fs : List Field) (o : Nat) (good : α → Prop) : Prop :=
  ∀ {H : Type} {enc : TypeId × Value → H} {W : World} {base : Nat} {sp : Nat → Bool} {held : Bool} {fuel : Nat} {cs : List Value} {xs : List (DataW H × List MemPlace)},
    fs.mapM (fun f => DataW.trod enc P W base sp held fuel f.type ((cs.drop f.offset).take (P.cellsOf f.type))) = some xs →
    (DataW.weightsEach P (fs.map (·.type)) (xs.map (·.1))).all (· ≤ reachBytes) = true → cs.length = o + d.sz → ∃ a, d.K W a (cs.drop o) ∧ good a
theorem parts_one {α : Type} {d : Kd α} {f : Field} {o : Nat} {good : α → Prop} (ho : f.offset = o) (hd : Opens P d f.type good) : Parts P d [f] o good := by
  intro H enc W base sp held fuel cs xs h hs hl
  rw [List.mapM_cons, Option.bind_eq_bind, Option.bind_eq_some_iff] at h
  obtain ⟨y, hy, h⟩ := h
  simp only [List.mapM_nil, Option.pure_def, Option.bind_eq_bind, Option.bind_some, Option.some.injEq] at h
  subst h
  rw [ho, hd.sz, List.take_of_length_le (by rw [List.length_drop]; omega)] at hy
  simp only [List.map_cons, List.map_nil, DataW.weightsEach, List.append_nil] at hs
  exact hd.read hy hs
theorem parts_cons {α β : Type} {a : Kd α} {b : Kd β} {f : Field} {fs : List Field} {o : Nat} {ga : α → Prop} {gb : β → Prop} (ho : f.offset = o) (ha : Opens P a f.type ga) (hb : Parts P b fs (o + a.sz) gb) :
    Parts P (Kd.pair a b) (f :: fs) o (fun x => ga x.1 ∧ gb x.2) := by
  intro H enc W base sp held fuel cs xs h hs hl
  rw [List.mapM_cons, Option.bind_eq_bind, Option.bind_eq_some_iff] at h
  obtain ⟨y, hy, h⟩ := h
  rw [Option.bind_eq_bind, Option.bind_eq_some_iff] at h
  obtain ⟨ys, hys, h⟩ := h
  simp only [Option.pure_def, Option.some.injEq] at h
  subst h
  simp only [List.map_cons, DataW.weightsEach, List.all_append, Bool.and_eq_true] at hs
  have hl' : cs.length = o + (a.sz + b.sz) := hl
  rw [ho, ha.sz] at hy
  obtain ⟨x, hx, gx⟩ := ha.read hy hs.1
  obtain ⟨z, hz, gz⟩ := hb hys hs.2 (by omega)
  refine ⟨(x, z), ⟨_, _, ?_, hx, hz⟩, gx, gz⟩
  rw [← List.drop_drop, List.take_append_drop]
theorem opens_struct {α : Type} {d : Kd α} {t : TypeId} {fs : Array Field} {good : α → Prop} (ht : P.underlying t = some (.struct fs)) (hc : P.cellsOf t = d.sz) (hp : Parts P d fs.toList 0 good) : Opens P d t good := by
  refine ⟨hc, fun {H enc W base sp held fuel cs x} h hs => ?_⟩
  cases fuel with
  | zero => cases h
  | succ n =>
    unfold DataW.trod at h
    rw [ht] at h
    split at h <;> first | cases h | skip
    all_goals first | (simp_all; done) | skip
    rename_i fs' cs' e1
    cases e1
    split at h
    · rename_i hl
      rw [Option.map_eq_some_iff] at h
      obtain ⟨xs, hxs, rfl⟩ := h
      simp only [DataW.weights, ht] at hs
      have := hp hxs hs (by rw [hl, hc]; omega)
      simpa using this
    · cases h
theorem opens_iso {α β : Type} {d : Kd α} {f : β → α} {t : TypeId} {good : α → Prop} (g : α → β) (hg : ∀ a, f (g a) = a) (h : Opens P d t good) : Opens P (Kd.iso d f) t (fun b => good (f b)) :=
  ⟨h.sz, fun h1 h2 => by
    obtain ⟨a, hk, hgood⟩ := h.read h1 h2
    exact ⟨g a, by show d.K _ (f (g a)) _; rw [hg]; exact hk, by rw [hg]; exact hgood⟩⟩
theorem opens_good {α : Type} {d : Kd α} {t : TypeId} {good good' : α → Prop} (h : Opens P d t good) (hg : ∀ a, good a → good' a) : Opens P d t good' :=
  ⟨h.sz, fun h1 h2 => by
    obtain ⟨a, hk, hgood⟩ := h.read h1 h2
    exact ⟨a, hk, hg a hgood⟩⟩
theorem weightsEach_at {H : Type} : ∀ {ts : List TypeId} {ds : List (DataW H)} (j : Nat) {t : TypeId} {d : DataW H}, (DataW.weightsEach P ts ds).all (· ≤ reachBytes) = true → ts[j]? = some t → ds[j]? = some d → (DataW.weights P t d).all (· ≤ reachBytes) = true
  | [], _, j, t, d, _, h, _ => by simp at h
  | _ :: _, [], j, t, d, _, _, h => by simp at h
  | t0 :: ts, d0 :: ds, 0, t, d, h, h1, h2 => by
    rw [DataW.weightsEach, List.all_append, Bool.and_eq_true] at h
    simp only [List.getElem?_cons_zero, Option.some.injEq] at h1 h2
    subst h1 h2
    exact h.1
  | t0 :: ts, d0 :: ds, j + 1, t, d, h, h1, h2 => by
    rw [DataW.weightsEach, List.all_append, Bool.and_eq_true] at h
    exact weightsEach_at j h.2 (by simpa using h1) (by simpa using h2)
/-- An argument, read. -/
theorem Opens.arg {α : Type} {d : Kd α} {t : TypeId} {good : α → Prop} (o : Opens P d t good) {H : Type} {enc : TypeId × Value → H} {W : World} {base : Nat} {sp : Nat → Bool} {held : Bool} {v : Value} {x : DataW H} {ps : List MemPlace} {ts : List TypeId} {ds : List (DataW H)}
    (h : DataW.Trod enc P W base sp held t v x ps) (hsz : (DataW.weightsEach P ts ds).all (· ≤ reachBytes) = true) (j : Nat) (ht : ts[j]? = some t) (hd : ds[j]? = some x) : ∃ a, d.K W a v.cells.toList ∧ good a := by
  obtain ⟨n, hn⟩ := h
  exact o.read hn (weightsEach_at j hsz ht hd)
end
theorem list_value {α : Type} {d : Kd α} {W : World} {t : Nat} {l : List α} {a : Option Addr} {len cap : Nat} (h : (Kd.slice t d).K W l (Value.slice a len cap).cells.toList) : len = l.length ∧ l.length ≤ cap ∧ d.C W a l.length l := by
  obtain ⟨A, c, e, h1, h2⟩ := h
  simp [Value.cells] at e
  obtain ⟨rfl, rfl, rfl⟩ := e
  exact ⟨rfl, h1, h2⟩
theorem str_value {P : Program} {W : World} {s : ByteArray} {v : Value} {r : Reach} {base : Nat} (hu : P.underlying 9 = some .string) (h : Kd.string.K W s v.cells.toList) (hv : Value.okWide P W r base 9 v) : v = .string s := by
  obtain ⟨s', rfl⟩ := Go.WideShapes.okWide_string hu hv
  have e : [Value.string s'] = [Value.string s] := h
  injection e
end Go.Proofs.YtegmmefijihdeaaDoor.Read
namespace Go.Proofs.YtegmmefijihdeaaDoor.Read
open Go.RowKit Go.Proofs.YtegmmefijihdeaaDoorW.PrintWords
set_option linter.unusedVariables false
theorem openStr : Opens Tryd.prog Kd.string 9 (fun s => s.size ≤ 140737488351232) := opens_string Tryd.underlying9 (by kernel_rfl)
theorem openTexts : Opens Tryd.prog (Kd.slice 9 Kd.string) 25 (fun l => l.length * 16 ≤ 140737488351232 ∧ ∀ s, s ∈ l → s.size ≤ 140737488351232) := opens_slice Tryd.underlying25 (by kernel_rfl) (by kernel_rfl) openStr
end Go.Proofs.YtegmmefijihdeaaDoor.Read
namespace Go.Proofs.YtegmmefijihdeaaDoor.PS
open Go.RowKit Go.Proofs.YtegmmefijihdeaaDoorW.PrintWords Go.Proofs.YtegmmefijihdeaaDoor.Read
set_option linter.unusedVariables false
set_option maxRecDepth 100000
instance inhS : Inhabited S62 := ⟨⟨0, ⟨#[]⟩⟩⟩
def okS (x : S62) : Prop := (Lit.int .i64 x.f0).wf = true ∧ x.f1.size ≤ 140737488351232
theorem openShard : Opens Tryd.prog k62 62 okS :=
  opens_good (opens_iso (fun x => (⟨x.1, x.2⟩ : S62)) (fun _ => rfl)
    (opens_struct Tryd.underlying62 (by kernel_rfl) (parts_cons rfl (opens_int Tryd.underlying3 (by kernel_rfl)) (parts_one (good := fun s : ByteArray => s.size ≤ 140737488351232) rfl openStr)))) (fun _ h => ⟨h.1, h.2⟩)
theorem openShards : Opens Tryd.prog (Kd.slice 62 k62) 47 (fun l => l.length * 24 ≤ 140737488351232 ∧ ∀ s, s ∈ l → okS s) := opens_slice Tryd.underlying47 (by kernel_rfl) (by kernel_rfl) openShard
end Go.Proofs.YtegmmefijihdeaaDoor.PS
namespace Go.Proofs.YtegmmefijihdeaaDoor.PS
open Go.RowKit Go.Proofs.YtegmmefijihdeaaDoorW.PrintWords Go.Proofs.YtegmmefijihdeaaDoorW.PrintLast Go.Proofs.YtegmmefijihdeaaDoorW.PrintMore Go.Proofs.YtegmmefijihdeaaDoor.Gf Go.Proofs.YtegmmefijihdeaaDoor.Grd Go.Proofs.YtegmmefijihdeaaDoor.Rowb Go.Proofs.YtegmmefijihdeaaDoor.Fld
open Go.Lib (byteCells byteCells_length)
set_option linter.unusedVariables false
set_option linter.unusedSimpArgs false
def ParIs (k m : Int) (data : List ByteArray) (w : World) (e : Ending) (w' : World) : Prop := ∃ v0_ : Value, e = .returned (.tuple #[v0_, .int .i64 (parityV k m data).2]) ∧ Kd.R Kd.string 9 w' w.heap.size (fun _ => True) v0_ (parityV k m data).1 ∧ Below w.heap.size w w'
theorem mul_at {W : World} {p : Nat} (h : FieldAt W p) (a b : UInt8) (x y : Nat) (hx : a.toNat = x) (hy : b.toNat = y) : Calls Tryd.prog 57 #[.pointer (some ⟨p, 0, none⟩), .int .u8 (x : Int), .int .u8 (y : Int)] W fun e w' => e = .returned (.int .u8 ((gmul a b).toNat : Int)) ∧ Drawn0 W w' := by
  subst hx hy
  exact mul_walk h a b
theorem dAt_get (data : List ByteArray) (q t : Nat) (hq : q < data.length) (ht : t < data[q].size) : dAt data q t = data[q][t] := by
  unfold dAt
  have e : data.getD q ByteArray.empty = data[q] := by rw [List.getD_eq_getElem?_getD, List.getElem?_eq_getElem hq]; rfl
  rw [e, List.getD_eq_getElem?_getD]
  have ht' : t < data[q].data.toList.length := by rw [Array.length_toList]; exact ht
  rw [List.getElem?_eq_getElem ht']
  rfl
section
variable (K M : Nat) (h1 : 1 ≤ K) (h2 : K + M ≤ 255) (A2 : Option Addr) (c2 : Nat) (data : List ByteArray) (w : World) (hr : Kd.C Kd.string w A2 data.length data) (hc : data.length ≤ c2)
include h1 h2 hr hc
set_option maxRecDepth 100000 in
set_option maxHeartbeats 4000000 in
theorem par_main (hl : data.length = K) (he : evenB data = true) (hn : (rdOf ByteArray.empty data 0).size ≤ 2052) :
    Calls Tryd.prog 28 #[.int .i64 (K : Int), .int .i64 (M : Int), .slice A2 data.length c2] w fun e w' => ∃ v0_ : Value, e = .returned (.tuple #[v0_, .int .i64 0]) ∧ Kd.R Kd.string 9 w' w.heap.size (fun _ => True) v0_ (parL K (rdOf ByteArray.empty data 0).size data M) ∧ Below w.heap.size w w' := by
  have HC : Aside0 (∀ W, Calls Tryd.prog 47 #[.int .i64 (K : Int), .int .i64 (M : Int)] W fun e w' => e = .returned (.bool true) ∧ Drawn0 W w') := ⟨fun W => stripe_code.calls _ _ _ W (by rw [code_f]; congr 1; unfold codeB; exact decide_eq_true (by omega))⟩
  have HE : Aside0 (∀ W, Below w.heap.size w W → Calls Tryd.prog 50 #[.slice A2 K c2] W fun e w' => e = .returned (.bool true) ∧ Drawn0 W w') := ⟨fun W hb => by have := even_walk A2 c2 data W (Kd.C_below hr hb) hc; rwa [he, hl] at this⟩
  have HG : Aside0 (∀ W, Calls Tryd.prog 55 #[.int .i64 (K : Int), .int .i64 (M : Int)] W (GenIs K M W)) := ⟨fun W => gen_walk W K M h1 h2⟩
  obtain ⟨ad, hA, hx0⟩ := Kd.at_string hr 0 (by omega) (by omega)
  subst hA
  obtain ⟨n, hnd⟩ : ∃ n, (rdOf ByteArray.empty data 0).size = n := ⟨_, rfl⟩
  have hx0' : w.cell? ad = some (.string (rdOf ByteArray.empty data 0)) := by rw [show ((0 : Int)).toNat = 0 from rfl, Addr.add_zero'] at hx0; exact hx0
  have HX0 : Aside0 (∀ W, Below w.heap.size w W → W.cell? ad = some (.string (rdOf ByteArray.empty data 0))) := ⟨fun W hb => pw_cell_below hb hx0'⟩
  have HR := Aside0.mk (And.intro hr hc)
  have i0 : (0 : Int) < (K : Int) := by omega
  have i1 : 0 < K := by omega
  have HL := Aside0.mk hl
  have e2 : decide ((2052 : Int) < (n : Int)) = false := by simp; omega
  rw [hnd] at hn ⊢
  generalize hs0 : rdOf ByteArray.empty data 0 = s0 at *
  have HS0 := Aside0.mk hs0
  have HE0 := Aside0.mk he
  subst hnd
  rw [hl]
  clear hx0 hr hc he hs0 hl
  go_enter Tryd.func28, Tryd.ntmps28
  go_wp2_with fail
  refine (HC.out _).mono ?_
  rintro e w1 ⟨rfl, ⟨n1, rfl⟩⟩
  go_wp2_with fail
  refine (HE.out _ (pw_below_drewN (Below.refl _ _) _)).mono ?_
  rintro e w1 ⟨rfl, ⟨n2, rfl⟩⟩
  have HB1 : Aside0 (Below w.heap.size w ((w.drewN n1).drewN n2)) := ⟨pw_below_drewN (pw_below_drewN (Below.refl _ _) _) _⟩
  generalize (w.drewN n1).drewN n2 = w1 at *
  have c1 := HX0.out w1 HB1.out
  go_wp2_with fail
  refine (HG.out _).mono ?_
  rintro e w2 ⟨rfl, hb2⟩
  have HB2 : Aside0 (Below w.heap.size w w2) := ⟨HB1.out.trans (hb2.mono HB1.out.size)⟩
  have HG2 : Aside0 ((genG K M).flatten.length = (K + M) * K) := ⟨by
    have := lens_same (c := K) (genG K M) (fun r hr => by obtain ⟨x, _, rfl⟩ := List.mem_map.1 hr; exact genRow_len K x)
    rw [genG_len] at this
    rw [← this]
    simp [Lib.lens, List.length_flatten]⟩
  have HGB : Aside0 (∀ r j, r < K + M → j < K → (genG K M).flatten[r * K + j]? = some (genAt K r j)) := ⟨fun r j => gen_byte K M r j⟩
  clear hb2 HB1 c1 hx0'
  generalize (genG K M).flatten = cl at *
  unfold matV
  go_wp2_with fail
  refine (new_walk _).mono ?_
  rintro e w3 ⟨rfl, hf3, hb3⟩
  have HB3 : Aside0 (Below w.heap.size w w3) := ⟨(HB2.out.alloc HB2.out.size _).trans (hb3.mono (by have := HB2.out.size; simp; omega))⟩
  have hg3 : w3.heap[w2.heap.size]? = some (.cells #[.int .i64 ((K : Int) + (M : Int)), .int .i64 (K : Int), .string ⟨cl.toArray⟩] 74 (0, 0)) := blk_below (blk_new _ _) hb3
  have hgl : w.heap.size ≤ w2.heap.size := HB2.out.size
  generalize (w2.alloc (Obj.cells #[Value.int IntKind.i64 ((K : Int) + (M : Int)), Value.int IntKind.i64 (K : Int), Value.string ⟨cl.toArray⟩] 74)).heap.size = p at *
  generalize w2.heap.size = gb at *
  have HCS : Aside0 ((⟨cl.toArray⟩ : ByteArray).size = (K + M) * K ∧ ∀ r j, r < K + M → j < K → (⟨cl.toArray⟩ : ByteArray).data.toList[r * K + j]? = some (genAt K r j)) := ⟨by
    refine ⟨?_, fun r j hr hj => ?_⟩
    · show cl.toArray.size = _
      rw [List.size_toArray]
      exact HG2.out
    · show cl.toArray.toList[r * K + j]? = _
      rw [List.toList_toArray]
      exact HGB.out r j hr hj⟩
  generalize (⟨cl.toArray⟩ : ByteArray) = S at *
  have HF3 := Aside0.mk hf3
  have HG3 := Aside0.mk hg3
  have hmb := run_make_bytes s0.size (by omega)
  clear hb3 hf3 hg3 HB2 HG2 HGB HG HC HE
  go_wp2
  go_loopw [11, 12] (fun v i W => ∃ r j : Nat, r ≤ M ∧ i = .int .i64 (j : Int) ∧ Aside0 (j = K + r) ∧ Aside0 (Kd.R Kd.string 9 W w.heap.size (fun _ => True) v (parL K s0.size data r)) ∧ Aside0 (Below w.heap.size w W) ∧ Aside0 (FieldAt W p) ∧ Aside0 (W.heap[gb]? = some (.cells #[.int .i64 ((K : Int) + (M : Int)), .int .i64 (K : Int), .string S] 74 (0, 0)))) (fun _ i _ => K + M - (intOf i).toNat)
  case atStart => exact ⟨0, K, by omega, rfl, ⟨rfl⟩, ⟨Kd.R_nil _ _ _ _ _⟩, HB3, HF3, HG3⟩
  case round =>
    obtain ⟨r, i, hrM, rfl, HI, HV, HB, HF, HGB⟩ := hrel
    clear HB3 HF3 HG3
    generalize wr = wo at *
    generalize u11 = v at *
    by_cases hlt : i < K + M
    · obtain ⟨W1, hW1⟩ : ∃ W1, W1 = wo.alloc (.cells (byteCells (zeros s0.size)).toArray 5) := ⟨_, rfl⟩
      obtain ⟨b, hbd⟩ : ∃ b, wo.heap.size = b := ⟨_, rfl⟩
      have hmk1 : (Instr.makeSlice 60 (.int .i64 (s0.size : Int)) (.int .i64 (s0.size : Int))).run Tryd.prog wo = .ok (.slice (some ⟨b, 0, none⟩) s0.size s0.size) W1 := by rw [hmb, hW1, hbd]
      have HN1 : Aside0 (RowB W1 b (accRow K i s0.size data 0)) := ⟨by rw [acc_zero, hW1, ← hbd]; exact blk_new _ _⟩
      have HW1 : Aside0 (Below wo.heap.size wo W1) := ⟨by rw [hW1]; exact below_alloc (Below.refl _ _) _⟩
      have HBD := Aside0.mk hbd
      have c0 := HX0.out wo HB.out
      have dlt : decide ((i : Int) < (K : Int) + (M : Int)) = true := decide_eq_true (by omega)
      clear hW1 hmb hbd
      go_wp2
      go_loopw [14, 15, 16, 17, 64] (fun _ _ _ _ j W => ∃ q : Nat, q ≤ K ∧ j = .int .i64 (q : Int) ∧ Aside0 (RowB W b (accRow K i s0.size data q)) ∧ Aside0 (Below wo.heap.size wo W)) (fun _ _ _ _ j _ => K - (intOf j).toNat)
      case atStart => exact ⟨0, by omega, rfl, HN1, HW1⟩
      case round =>
        obtain ⟨q, hq, rfl, HP, HW⟩ := hrel
        generalize wr = w4 at *
        by_cases hlq : q < K
        · have hB4 : Below w.heap.size w w4 := HB.out.trans (HW.out.mono HB.out.size)
          obtain ⟨sq, hq0, hsz, hdt⟩ : ∃ sq : ByteArray, w4.cell? (ad.add q) = some (.string sq) ∧ sq.size = s0.size ∧ Aside0 (∀ t (ht : t < sq.size), dAt data q t = sq[t]) := by
            have hqd : q < data.length := by have := HL.out; omega
            obtain ⟨ad', e', hq0⟩ := Kd.at_string (Kd.C_below HR.out.1 hB4) (q : Int) (by omega) (by omega)
            obtain rfl : ad = ad' := by injection e'
            rw [rdOf_nat data q hqd, Int.toNat_natCast] at hq0
            refine ⟨data[q], hq0, ?_, ⟨fun t ht => dAt_get data q t hqd ht⟩⟩
            have := even_of HE0.out _ (List.getElem_mem hqd)
            rw [HS0.out] at this
            exact this
          have g2 := (blk_cell (blk_below HGB.out HW.out) 2)
          obtain ⟨z, hz⟩ : ∃ z, i * K = z := ⟨_, rfl⟩
          have hzi : (i : Int) * (K : Int) = (z : Int) := by rw [← hz]; push_cast; rfl
          have hzb : z + q < S.size := by
            rw [HCS.out.1, ← hz]
            have : (i + 1) * K ≤ (K + M) * K := Nat.mul_le_mul_right _ (by omega)
            rw [Nat.succ_mul] at this
            omega
          have hSl : S.size ≤ 65025 := by
            rw [HCS.out.1]
            exact Nat.le_trans (Nat.mul_le_mul h2 (by omega : K ≤ 255)) (by decide)
          have hby : S[z + q] = genAt K i q := by
            have := HCS.out.2 i q hlt hlq
            rw [hz] at this
            obtain ⟨hh, he⟩ := List.getElem?_eq_some_iff.1 this
            rw [← he]
            rfl
          clear hz
          have HM0 : Aside0 (RowB w4 b (mixRow K i s0.size data q 0)) := ⟨by rw [mix_zero]; exact HP.out⟩
          have HFI : Aside0 (∀ W, Below wo.heap.size wo W → FieldAt W p) := ⟨fun W hb => HF.out.below hb⟩
          have hbs : wo.heap.size ≤ b := by rw [HBD.out]; exact Nat.le_refl _
          clear HP hB4
          go_wp2
          go_loopw [17, 79] (fun _ t W => ∃ u : Nat, u ≤ s0.size ∧ t = .int .i64 (u : Int) ∧ Aside0 (RowB W b (mixRow K i s0.size data q u)) ∧ Aside0 (Below wo.heap.size wo W)) (fun _ t _ => s0.size - (intOf t).toNat)
          case atStart => exact ⟨0, by omega, rfl, HM0, HW⟩
          case round =>
            obtain ⟨u, hu, rfl, HX, HY⟩ := hrel
            generalize wr = w5 at *
            by_cases hlu : u < s0.size
            · have huq : u < sq.size := by omega
              have r0 := HX.out.cell u (by rw [mix_len]; exact hlu)
              rw [mix_at _ _ _ _ _ _ hlu] at r0
              have f0 := HX.out.frozen u
              have HST : Aside0 (∀ W : World, W.heap = w5.heap → RowB (W.setCell ⟨b, u, none⟩ (.int .u8 ((((xs (List.range q) fun j => gmul (genAt K i j) (dAt data j u)) ^^^ gmul (genAt K i q) (dAt data q u)).toNat : Nat) : Int))) b (mixRow K i s0.size data q (u + 1))) := ⟨fun W hW => by
                have h0 : RowB W b (mixRow K i s0.size data q u) := by unfold RowB; rw [hW]; exact HX.out
                have := h0.put u ((xs (List.range q) fun j => gmul (genAt K i j) (dAt data j u)) ^^^ gmul (genAt K i q) (dAt data q u))
                rwa [mix_set _ _ _ _ _ _ hlu] at this⟩
              rw [hdt.out u huq] at HST
              have HMU : Aside0 (∀ W : World, W.heap = w5.heap → Calls Tryd.prog 57 #[.pointer (some ⟨p, 0, none⟩), .int .u8 ((genAt K i q).toNat : Int), .int .u8 (sq[u].toNat : Int)] W fun e w' => e = .returned (.int .u8 ((gmul (genAt K i q) sq[u]).toNat : Int)) ∧ Drawn0 W w') := ⟨fun W hW => mul_walk (by unfold FieldAt; rw [hW]; exact HFI.out w5 HY.out) _ _⟩
              have hxr := xor_u8 (xs (List.range q) fun j => gmul (genAt K i j) (dAt data j u)).toNat (gmul (genAt K i q) sq[u]).toNat (b_lt _) (b_lt _)
              rw [← UInt8.toNat_xor] at hxr
              generalize ((xs (List.range q) fun j => gmul (genAt K i j) (dAt data j u)) ^^^ gmul (genAt K i q) sq[u]).toNat = res at *
              generalize (xs (List.range q) fun j => gmul (genAt K i j) (dAt data j u)).toNat = old at *
              generalize (gmul (genAt K i q) sq[u]).toNat = prod at *
              clear hby
              generalize (genAt K i q).toNat = gy at *
              go_wp2_with fail
              go_region_law (first | (go_simp; go_at_call 57; refine (HMU.out _ (by rfl)).mono ?_; rintro e w6 ⟨rfl, ⟨nd, rfl⟩⟩))
              all_goals go_wp2
              all_goals go_roundw
              all_goals first
                | (case rel => exact ⟨u + 1, by omega, by go_num, ⟨HST.out _ (by rfl)⟩, ⟨Below.setCell (by repeat (first | exact HY.out | apply pw_below_drewN | apply below_drew1)) hbs _⟩⟩)
                | skip
              all_goals (case measure => simp [intOf]; omega)
            · obtain rfl : u = s0.size := by omega
              rw [mix_full] at HX
              clear hby
              go_wp2
              go_roundw
              case rel => exact ⟨q + 1, by omega, by go_num, HX, HY⟩
              case measure => simp [intOf]; omega
        · obtain rfl : q = K := by omega
          have hcv := HP.out.whole s0.size
          rw [acc_len] at hcv
          have HBW : Aside0 (Below w.heap.size w w4) := ⟨HB.out.trans (HW.out.mono HB.out.size)⟩
          have HVW := Aside0.mk (Kd.R_below HV.out HW.out)
          have HFW := Aside0.mk (HF.out.below HW.out)
          have HGW := Aside0.mk (blk_below HGB.out HW.out)
          have HPS := Aside0.mk (parL_succ q s0.size data r)
          have HTX : Aside0 ((⟨(accRow q i s0.size data q).toArray⟩ : ByteArray) = txt (accRow q (q + r) s0.size data q)) := ⟨by rw [HI.out]; rfl⟩
          have HLP := Aside0.mk (parL_len q s0.size data r)
          generalize (⟨(accRow q i s0.size data q).toArray⟩ : ByteArray) = tx at *
          clear HB HV HF HGB HW HP HN1 HW1
          go_wp2_with (first | ((with_reducible refine gate_builtin (b := .append) (xs := #[.tmp 96, .tmp 99]) rfl ?_); at_builtin; refine Kd.R_append Kd.string (w0 := w) w.heap.size rfl (.tmp 96) (.tmp 99) 25 9 (.string ⟨#[]⟩) 16 rfl Tryd.underlying25 info9 rfl (by decide) (by omega) v (parL q s0.size data r) tx [.string tx] (fun _ => True) (fun _ => False) rfl rfl rfl (fun _ hk => hk.elim) (fun _ _ => trivial) HVW.out HBW.out HBW.out.size (by rw [HLP.out]; omega) ?_; intro v1 w6 ho hb hg hat; have HV6 := Aside0.mk ho; have HB6 := Aside0.mk hb; have HF6 : Aside0 (FieldAt w6 p) := ⟨blk_grown HFW.out hg (Kd.R_ne HVW.out HFW.out (by decide))⟩; have HG6 := Aside0.mk (blk_grown HGW.out hg (Kd.R_ne HVW.out HGW.out (by decide))); clear ho hb hg hat))
          go_roundw
          case rel => exact ⟨r + 1, i + 1, by have := HI.out; omega, by go_num, ⟨by have := HI.out; omega⟩, ⟨by rw [HPS.out, ← HTX.out]; exact HV6.out⟩, HB6, HF6, HG6⟩
          case measure => simp [intOf]; omega
    · have hrm : r = M := by have := HI.out; omega
      subst hrm
      go_wp2
      go_ret2
      exact ⟨v, rfl, HV.out, HB.out⟩
end
section
variable (k m : Int) (A2 : Option Addr) (c2 : Nat) (data : List ByteArray) (w : World) (hr : Kd.C Kd.string w A2 data.length data) (hc : data.length ≤ c2)
include hr hc
set_option maxRecDepth 100000 in
set_option maxHeartbeats 1000000 in
theorem par_walk : Calls Tryd.prog 28 #[.int .i64 k, .int .i64 m, .slice A2 data.length c2] w (ParIs k m data w) := by
  have HC : Aside0 (∀ W, Calls Tryd.prog 47 #[.int .i64 k, .int .i64 m] W fun e w' => e = .returned (.bool (codeB k m)) ∧ Drawn0 W w') := ⟨fun W => stripe_code.calls _ _ _ W (code_f k m)⟩
  have HE : Aside0 (∀ W, Below w.heap.size w W → Calls Tryd.prog 50 #[.slice A2 data.length c2] W fun e w' => e = .returned (.bool (evenB data)) ∧ Drawn0 W w') := ⟨fun W hb => even_walk A2 c2 data W (Kd.C_below hr hb) hc⟩
  have hd : ∀ {w' : World}, Drawn0 w w' → Below w.heap.size w w' := fun ⟨⟨n, h⟩⟩ => by subst h; exact pw_below_drewN (Below.refl _ _) n
  unfold ParIs parityV
  cases hcb : codeB k m with
  | false =>
    rw [if_neg (by decide)]
    rw [hcb] at HC
    clear hr hc HE
    go_enter Tryd.func28, Tryd.ntmps28
    go_wp2_with fail
    refine (HC.out _).mono ?_
    rintro e w1 ⟨rfl, ⟨n1, rfl⟩⟩
    go_wp2
    go_ret2
    exact ⟨_, rfl, Kd.R_nil _ _ _ _ _, pw_below_drewN (Below.refl _ _) _⟩
  | true =>
    rw [if_pos rfl]
    rw [hcb] at HC
    by_cases hl : (data.length : Int) = k
    · cases heb : evenB data with
      | false =>
        rw [if_neg (by simp)]
        rw [heb] at HE
        have d1 : ((data.length : Int) != k) = false := by simp [hl]
        clear hr hc
        subst hl
        go_enter Tryd.func28, Tryd.ntmps28
        go_wp2_with fail
        refine (HC.out _).mono ?_
        rintro e w1 ⟨rfl, ⟨n1, rfl⟩⟩
        go_wp2_with fail
        refine (HE.out _ (pw_below_drewN (Below.refl _ _) _)).mono ?_
        rintro e w1 ⟨rfl, ⟨n2, rfl⟩⟩
        go_wp2
        go_ret2
        exact ⟨_, rfl, Kd.R_nil _ _ _ _ _, by repeat (first | exact Below.refl _ _ | apply pw_below_drewN)⟩
      | true =>
        rw [if_pos ⟨hl, rfl⟩]
        by_cases hn : (rdOf ByteArray.empty data 0).size ≤ 2052
        · rw [if_pos hn]
          obtain ⟨K, M, rfl, rfl, h1, h2⟩ := codeB_nat hcb
          have := par_main K M h1 h2 A2 c2 data w hr hc (by omega) heb hn
          simpa using this
        · rw [if_neg hn]
          rw [heb] at HE
          obtain ⟨K, M, rfl, rfl, h1, h2⟩ := codeB_nat hcb
          obtain ⟨ad, hA, hx0⟩ := Kd.at_string hr 0 (by omega) (by omega)
          subst hA
          rw [show ((0 : Int)).toNat = 0 from rfl, Addr.add_zero'] at hx0
          have HX0 : Aside0 (∀ W, Below w.heap.size w W → W.cell? ad = some (.string (rdOf ByteArray.empty data 0))) := ⟨fun W hb => pw_cell_below hb hx0⟩
          have i0 : (0 : Int) < (data.length : Int) := by omega
          have i1 : 0 < data.length := by omega
          have d1 : ((data.length : Int) != (K : Int)) = false := by simp [hl]
          rw [← hl] at *
          generalize rdOf ByteArray.empty data 0 = s0 at *
          have e2 : decide ((2052 : Int) < (s0.size : Int)) = true := by simp; omega
          clear hr hc hx0 hl
          go_enter Tryd.func28, Tryd.ntmps28
          go_wp2_with fail
          refine (HC.out _).mono ?_
          rintro e w1 ⟨rfl, ⟨n1, rfl⟩⟩
          go_wp2_with fail
          refine (HE.out _ (pw_below_drewN (Below.refl _ _) _)).mono ?_
          rintro e w1 ⟨rfl, ⟨n2, rfl⟩⟩
          have c0 := HX0.out (w.drewN (n1 + n2)) (pw_below_drewN (Below.refl _ _) _)
          go_wp2
          go_ret2
          exact ⟨_, rfl, Kd.R_nil _ _ _ _ _, by repeat (first | exact Below.refl _ _ | apply pw_below_drewN)⟩
    · rw [if_neg (fun h => hl h.1)]
      have d1 : ((data.length : Int) != k) = true := by simpa using hl
      clear hr hc HE hl
      go_enter Tryd.func28, Tryd.ntmps28
      go_wp2_with fail
      refine (HC.out _).mono ?_
      rintro e w1 ⟨rfl, ⟨n1, rfl⟩⟩
      go_wp2
      go_ret2
      exact ⟨_, rfl, Kd.R_nil _ _ _ _ _, pw_below_drewN (Below.refl _ _) _⟩
end
def stripe_Parity.f (a0 : Int) (a1 : Int) (l2 : List ByteArray) : Option (List ByteArray × Int) := some (parityV a0 a1 l2)
theorem stripe_Parity.calls (a0 : Int) (a1 : Int) (A2 : Option Addr) (c2 : Nat) (l2 : List ByteArray) (r1 : List ByteArray) (r2 : Int) (w : World) (hr2 : Kd.C Kd.string w A2 l2.length l2) (hc2 : l2.length ≤ c2) (h : stripe_Parity.f a0 a1 l2 = some (r1, r2)) :
    Calls Tryd.prog 28 #[.int .i64 a0, .int .i64 a1, .slice A2 l2.length c2] w fun e w' => ∃ v0_ : Value, e = .returned (.tuple #[v0_, .int .i64 r2]) ∧ Kd.R Kd.string 9 w' w.heap.size (fun _ => True) v0_ r1 ∧ Below w.heap.size w w' := by
  have := par_walk a0 a1 A2 c2 l2 w hr2 hc2
  unfold ParIs at this
  unfold stripe_Parity.f at h
  rw [Option.some.inj h] at this
  exact this
end Go.Proofs.YtegmmefijihdeaaDoor.PS
