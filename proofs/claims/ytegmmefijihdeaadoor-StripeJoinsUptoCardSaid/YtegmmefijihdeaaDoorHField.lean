/- The field's tables in memory: New, Mul, Div, Inv walked. -/
import Derived.Test.YtegmmefijihdeaaDoorProg
import Derived.Test.YtegmmefijihdeaaDoorW
import Derived.Test.YtegmmefijihdeaaDoorHGf
import Derived.RegionTactic
import Derived.ChangeAlike
import Derived.Laws.BitsLemmas
import Derived.Deep.QuietTactic
import Derived.BigQuiet
namespace Go.Proofs.YtegmmefijihdeaaDoor.Fld
open Go.RowKit Go.Proofs.YtegmmefijihdeaaDoorW.PrintWords Go.Proofs.YtegmmefijihdeaaDoorW.PrintLast Go.Proofs.YtegmmefijihdeaaDoorW.PrintMore Go.Proofs.YtegmmefijihdeaaDoor.Gf
set_option linter.unusedVariables false
set_option linter.unusedSimpArgs false
theorem xor_nat (k : IntKind) (j : Nat) (hj : j ≤ k.bits) (hk : ∀ n : Int, 0 ≤ n → n < 2 ^ j → k.wrap n = n) (a b : Nat) (ha : a < 2 ^ j) (hb : b < 2 ^ j) : bits .xor k (a : Int) (b : Int) = ((a ^^^ b : Nat) : Int) := by
  have hp : 2 ^ j ≤ 2 ^ k.bits := Nat.pow_le_pow_right (by decide) hj
  have ha' : a % 2 ^ k.bits = a := Nat.mod_eq_of_lt (Nat.lt_of_lt_of_le ha hp)
  have hb' : b % 2 ^ k.bits = b := Nat.mod_eq_of_lt (Nat.lt_of_lt_of_le hb hp)
  simp only [bits, BitVec.ofInt_natCast, BitVec.toNat_xor, BitVec.toNat_ofNat, ha', hb']
  refine hk _ (Int.natCast_nonneg _) ?_
  have := Nat.xor_lt_two_pow ha hb
  exact_mod_cast this
theorem xor_i64 (a b j : Nat) (hj : j ≤ 62) (ha : a < 2 ^ j) (hb : b < 2 ^ j) : bits .xor .i64 (a : Int) (b : Int) = ((a ^^^ b : Nat) : Int) :=
  xor_nat .i64 j (by show j ≤ 64; omega) (fun n h0 h1 => by
    have h2 : (2 : Int) ^ j ≤ 2 ^ 62 := by
      have := Nat.pow_le_pow_right (n := 2) (by decide) hj
      exact_mod_cast this
    rw [IntKind.wrap_i64]
    have h3 : (2 : Int) ^ 62 = 4611686018427387904 := by decide
    omega) a b ha hb
theorem xor_u8 (a b : Nat) (ha : a < 256) (hb : b < 256) : bits .xor .u8 (a : Int) (b : Int) = ((a ^^^ b : Nat) : Int) :=
  xor_nat .u8 8 (by decide) wraps_u8 a b ha hb
/-- The tables behind k rounds. -/
def expAt (k j : Nat) : Nat := if j % 255 < k then pw (j % 255) else 0
def logAt (k a : Nat) : Nat := if a ≠ 0 ∧ lg a < k then lg a else 0
def fieldF (k i : Nat) : Value := if i < 510 then .int .u8 (expAt k i : Int) else .int .i64 (logAt k (i - 510) : Int)
def fcells (k : Nat) : Array Value := ((List.range 766).map (fieldF k)).toArray
theorem fcells_at (k i : Nat) (h : i < 766) : (fcells k)[i]? = some (fieldF k i) := by
  unfold fcells
  rw [List.getElem?_toArray]
  simp [h]
theorem fcells_exp (k j : Nat) (h : j < 510) : (fcells k)[j]? = some (.int .u8 (expAt k j : Int)) := by
  rw [fcells_at k j (by omega)]
  unfold fieldF
  rw [if_pos h]
theorem fcells_log (k a : Nat) (h : a < 256) : (fcells k)[510 + a]? = some (.int .i64 (logAt k a : Int)) := by
  rw [fcells_at k (510 + a) (by omega)]
  unfold fieldF
  rw [if_neg (by omega), Nat.add_sub_cancel_left]
theorem fcells_size (k : Nat) : (fcells k).size = 766 := by simp [fcells]
theorem fcells_zero : Tryd.zeroCells116 = fcells 0 := by
  have h : Tryd.zeroCells116 = ((List.range 766).map (fun i => if i < 510 then Value.int .u8 0 else Value.int .i64 0)).toArray := by kernel_rfl
  rw [h]
  unfold fcells
  exact congrArg List.toArray (List.map_congr_left (fun i _ => by
    unfold fieldF expAt logAt
    simp))
theorem fcells_step (k : Nat) (hk : k < 255) : (((fcells k).setIfInBounds k (.int .u8 (pw k : Int))).setIfInBounds (k + 255) (.int .u8 (pw k : Int))).setIfInBounds (510 + pw k) (.int .i64 (k : Int)) = fcells (k + 1) := by
  have hp := pw_lt k
  apply Array.ext_getElem?
  intro i
  by_cases hi : i < 766
  · rw [Array.getElem?_setIfInBounds, Array.getElem?_setIfInBounds, Array.getElem?_setIfInBounds, fcells_at k i hi, fcells_at (k + 1) i hi]
    simp only [Array.size_setIfInBounds, fcells_size]
    unfold fieldF
    by_cases h5 : i < 510
    · rw [if_neg (by omega), if_pos h5, if_pos h5]
      unfold expAt
      by_cases e1 : k + 255 = i
      · rw [if_pos e1, if_pos (by omega), show i % 255 = k by omega, if_pos (by omega)]
      · rw [if_neg e1]
        by_cases e2 : k = i
        · rw [if_pos e2, if_pos (by omega), show i % 255 = k by omega, if_pos (by omega)]
        · rw [if_neg e2]
          by_cases h7 : i % 255 < k
          · rw [if_pos h7, if_pos (by omega)]
          · rw [if_neg h7, if_neg (by omega)]
    · rw [if_neg h5, if_neg h5]
      unfold logAt
      by_cases e1 : 510 + pw k = i
      · rw [if_pos e1, if_pos (by omega), show i - 510 = pw k by omega, lg_pw k hk, if_pos ⟨pw_ne k, by omega⟩]
      · rw [if_neg e1, if_neg (by omega), if_neg (by omega)]
        have hne : i - 510 ≠ 0 → lg (i - 510) ≠ k := fun h0 e => e1 (by
          have := pw_lg (i - 510) (by omega) h0
          rw [e] at this; omega)
        by_cases h7 : i - 510 ≠ 0 ∧ lg (i - 510) < k
        · rw [if_pos h7, if_pos ⟨h7.1, by omega⟩]
        · rw [if_neg h7, if_neg (fun h => h7 ⟨h.1, by have := hne h.1; omega⟩)]
  · rw [Array.getElem?_eq_none (by simp [fcells_size]; omega), Array.getElem?_eq_none (by simp [fcells_size]; omega)]
/-- The tables, in memory. -/
def FieldAt (w : World) (p : Nat) : Prop := w.heap[p]? = some (.cells (fcells 255) 116 (0, 0))
theorem FieldAt.below {w w' : World} {p : Nat} (h : FieldAt w p) (hb : Below w.heap.size w w') : FieldAt w' p := blk_below h hb
def Made (w : World) (e : Ending) (w' : World) : Prop := e = .returned (.pointer (some ⟨w.heap.size, 0, none⟩)) ∧ FieldAt w' w.heap.size ∧ Below w.heap.size w w'
set_option maxRecDepth 100000 in
theorem new_walk (w : World) : Calls Tryd.prog 56 #[] w (Made w) := by
  go_enter Tryd.func56, Tryd.ntmps56
  go_wp2
  go_loopw [2, 6] (fun x i W => ∃ k : Nat, k ≤ 255 ∧ x = .int .i64 (pw k : Int) ∧ i = .int .i64 (k : Int) ∧ W.heap[w.heap.size]? = some (.cells (fcells k) 116 (0, 0)) ∧ Below w.heap.size w W) (fun _ i _ => 255 - (intOf i).toNat)
  case atStart => exact ⟨0, by omega, rfl, rfl, by rw [← fcells_zero]; exact blk_new _ _, (Below.refl _ _).alloc (Nat.le_refl _) _⟩
  case round =>
    obtain ⟨k, hk, rfl, rfl, hb, hB⟩ := hrel
    by_cases hlt : k < 255
    · have hp := pw_lt k
      have fz := fun i => blk_frozen hb i
      have c0 := (blk_cell hb k).trans (fcells_exp k k (by omega))
      have c1 := (blk_cell hb (k + 255)).trans (fcells_exp k (k + 255) (by omega))
      have c2 := (blk_cell hb (510 + pw k)).trans (fcells_log k (pw k) hp)
      have HS : Aside0 ((pw k : Int) * 2 ≤ 255 → (pw k : Int) * 2 = (pw (k + 1) : Int)) := ⟨fun h => by
        show (pw k : Int) * 2 = (xt (pw k) : Int)
        unfold xt
        rw [if_pos (by omega)]; omega⟩
      have HX : Aside0 (¬ (pw k : Int) * 2 ≤ 255 → bits .xor .i64 ((pw k : Int) * 2) 285 = (pw (k + 1) : Int)) := ⟨fun h => by
        have := xor_i64 (pw k * 2) 285 10 (by omega) (by omega) (by decide)
        show _ = (xt (pw k) : Int)
        unfold xt
        rw [if_neg (by omega), Nat.mul_comm 2, ← this]
        push_cast
        rfl⟩
      have HB := Aside0.mk (And.intro hb hB)
      have HK := Aside0.mk (fcells_step k hlt)
      have hend : ∀ (W : World), W = ((wr.setCell ⟨w.heap.size, k, none⟩ (.int .u8 (pw k : Int))).setCell ⟨w.heap.size, k + 255, none⟩ (.int .u8 (pw k : Int))).setCell ⟨w.heap.size, 510 + pw k, none⟩ (.int .i64 (k : Int)) →
          W.drew.heap[w.heap.size]? = some (.cells (fcells (k + 1)) 116 (0, 0)) ∧ Below w.heap.size w W.drew := fun W hW => by
        subst hW
        exact ⟨blk_put (blk_set (blk_set hb _ _) _ _) _ _ HK.out, below_drew1 (((hB.setCell (Nat.le_refl _) _).setCell (Nat.le_refl _) _).setCell (Nat.le_refl _) _)⟩
      have HE := Aside0.mk hend
      clear hend hb hB
      go_wp2
      go_region
      go_wp2
      · go_roundw
        case rel => exact ⟨k + 1, by omega, by rw [HX.out (by omega)], by go_num, (HE.out _ rfl).1, (HE.out _ rfl).2⟩
        case measure => simp [intOf]; omega
      · go_roundw
        case rel => exact ⟨k + 1, by omega, by rw [HS.out ‹_›], by go_num, (HE.out _ rfl).1, (HE.out _ rfl).2⟩
        case measure => simp [intOf]; omega
    · go_wp2
      go_ret
      obtain rfl : k = 255 := by omega
      exact ⟨rfl, hb, hB⟩
section
variable {w : World} {p : Nat}
theorem FieldAt.exp (h : FieldAt w p) (j : Nat) (hj : j < 510) : w.cell? ⟨p, j, none⟩ = some (.int .u8 (pw j : Int)) := by
  rw [blk_cell h j, fcells_exp 255 j hj]
  unfold expAt
  rw [if_pos (by omega), pw_mod]
theorem FieldAt.log (h : FieldAt w p) (a : Nat) (ha : a < 256) (h0 : a ≠ 0) : w.cell? ⟨p, 510 + a, none⟩ = some (.int .i64 (lg a : Int)) := by
  rw [blk_cell h (510 + a), fcells_log 255 a ha]
  unfold logAt
  rw [if_pos ⟨h0, lg_lt a ha⟩]
def bv (a : UInt8) : Value := .int .u8 (a.toNat : Int)
theorem gmul_pw (a b : UInt8) (ha : a.toNat ≠ 0) (hb : b.toNat ≠ 0) : (gmul a b).toNat = pw (lg a.toNat + lg b.toNat) := by
  rw [gmul_nat, ← fmul_eq _ _ (b_lt a) (b_lt b)]
  unfold fmul
  rw [if_neg (fun h => h.elim ha hb)]
theorem gmul_0 (a b : UInt8) (h : a.toNat = 0 ∨ b.toNat = 0) : (gmul a b).toNat = 0 := by
  rw [gmul_nat, ← fmul_eq _ _ (b_lt a) (b_lt b)]
  unfold fmul
  rw [if_pos h]
set_option maxRecDepth 100000 in
theorem mul_walk (h : FieldAt w p) (a b : UInt8) : Calls Tryd.prog 57 #[.pointer (some ⟨p, 0, none⟩), .int .u8 (a.toNat : Int), .int .u8 (b.toNat : Int)] w fun e w' => e = .returned (.int .u8 ((gmul a b).toNat : Int)) ∧ Drawn0 w w' := by
  have hla := lg_lt _ (b_lt a)
  have hlb := lg_lt _ (b_lt b)
  have hxa := b_lt a
  have hxb := b_lt b
  have HP := Aside0.mk (gmul_pw a b)
  have HZ := Aside0.mk (gmul_0 a b)
  have cl := fun x => h.log x
  have ce := h.exp (lg a.toNat + lg b.toNat) (by omega)
  generalize (gmul a b).toNat = r at *
  generalize a.toNat = x at *
  generalize b.toNat = y at *
  by_cases h0 : x = 0
  · have HR := Aside0.mk (HZ.out (.inl h0))
    subst h0
    clear ce cl HP HZ h
    go_enter Tryd.func57, Tryd.ntmps57
    go_wp2
    go_ret
    exact ⟨by rw [HR.out]; rfl, Drawn0.refl _⟩
  · by_cases h1 : y = 0
    · have HR := Aside0.mk (HZ.out (.inr h1))
      subst h1
      have e0 : ((x : Int) == 0) = false := by simp; omega
      clear ce cl HP HZ h
      go_enter Tryd.func57, Tryd.ntmps57
      go_wp2
      go_ret
      exact ⟨by rw [HR.out]; rfl, Drawn0.refl _⟩
    · have HR := Aside0.mk (HP.out h0 h1)
      have e0 : ((x : Int) == 0) = false := by simp; omega
      have e1 : ((y : Int) == 0) = false := by simp; omega
      have cx := cl x hxa h0
      have cy := cl y hxb h1
      clear cl HP HZ h
      generalize lg x = i at *
      generalize lg y = j at *
      generalize pw (i + j) = z at *
      go_enter Tryd.func57, Tryd.ntmps57
      go_wp2
      go_quiet (fail)
      go_wp2
      go_ret
      exact ⟨by rw [HR.out]; rfl, by repeat (first | exact Drawn0.refl _ | apply Drawn0.step)⟩
theorem ginv_pw (a : UInt8) : (ginv a).toNat = pw (255 - lg a.toNat) := by rw [ginv_nat]; rfl
set_option maxRecDepth 100000 in
/-- 'f.Div(1, a)' -/
theorem div_walk (h : FieldAt w p) (a : UInt8) (ha : a ≠ 0) : Calls Tryd.prog 103 #[.pointer (some ⟨p, 0, none⟩), .int .u8 1, .int .u8 (a.toNat : Int)] w fun e w' => e = .returned (.tuple #[.int .u8 ((ginv a).toNat : Int), .int .i64 0]) ∧ Drawn0 w w' := by
  have hla := lg_lt _ (b_lt a)
  have hxa := b_lt a
  have h0 := b_ne ha
  have HR := Aside0.mk (ginv_pw a)
  have c1 := h.log 1 (by decide) (by decide)
  have cx := h.log a.toNat hxa h0
  have ce := h.exp (255 - lg a.toNat) (by omega)
  rw [show lg 1 = 0 by decide +kernel] at c1
  generalize (ginv a).toNat = r at *
  generalize a.toNat = x at *
  have e0 : ((x : Int) == 0) = false := by simp; omega
  clear h
  generalize lg x = i at *
  generalize hz : pw (255 - i) = z at *
  have ce' : w.cell? ⟨p, ((255 : Int) - (i : Int)).toNat, none⟩ = some (.int .u8 (z : Int)) := by
    rw [show ((255 : Int) - (i : Int)).toNat = 255 - i by omega]; exact ce
  clear hz
  go_enter Tryd.func103, Tryd.ntmps103
  go_wp2
  go_quiet (fail)
  go_wp2
  go_ret2
  exact ⟨by rw [HR.out]; rfl, by repeat (first | exact Drawn0.refl _ | apply Drawn0.step)⟩
set_option maxRecDepth 100000 in
theorem inv_walk (h : FieldAt w p) (a : UInt8) (ha : a ≠ 0) : Calls Tryd.prog 81 #[.pointer (some ⟨p, 0, none⟩), .int .u8 (a.toNat : Int)] w fun e w' => e = .returned (.tuple #[.int .u8 ((ginv a).toNat : Int), .int .i64 0]) ∧ Drawn0 w w' := by
  have H := Aside0.mk (div_walk h a ha)
  clear h
  go_enter Tryd.func81, Tryd.ntmps81
  go_wp2_with fail
  refine H.out.mono ?_
  rintro e w1 ⟨rfl, hd⟩
  go_wp2
  go_ret2
  exact ⟨rfl, hd⟩
end
end Go.Proofs.YtegmmefijihdeaaDoor.Fld
