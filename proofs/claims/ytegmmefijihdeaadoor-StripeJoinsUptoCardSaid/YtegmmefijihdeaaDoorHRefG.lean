/- The document's field: its product and inverse, in closed form. -/
import Derived.Test.YtegmmefijihdeaaDoorPSf105
import Derived.Test.YtegmmefijihdeaaDoorPSf85
import Derived.Test.YtegmmefijihdeaaDoorPSf83
import Derived.Test.YtegmmefijihdeaaDoorPSf84
import Derived.Test.YtegmmefijihdeaaDoorHField
import Derived.Test.YtegmmefijihdeaaDoorHCode
import Derived.Lib.LazyBuf
namespace Go.Proofs.YtegmmefijihdeaaDoor.PS
open Go.RowKit Go.Proofs.YtegmmefijihdeaaDoorW.PrintWords Go.Proofs.YtegmmefijihdeaaDoorW.PrintLast Go.Proofs.YtegmmefijihdeaaDoorW.PrintMore Go.Proofs.YtegmmefijihdeaaDoor.Gf Go.Proofs.YtegmmefijihdeaaDoor.Fld Go.Proofs.YtegmmefijihdeaaDoor.Grd
set_option linter.unusedVariables false
set_option linter.unusedSimpArgs false
theorem xor_i8 (a b : Nat) (ha : a < 512) (hb : b < 512) : bits .xor .i64 (a : Int) (b : Int) = ((a ^^^ b : Nat) : Int) := xor_i64 a b 9 (by omega) ha hb
theorem xor_285 (X : Nat) (hX : X < 256) : bits .xor .i64 ((2 * X : Nat) : Int) 285 = (((2 * X) ^^^ 285 : Nat) : Int) := by
  have h := xor_i8 (2 * X) 285 (by omega) (by omega)
  generalize 2 * X = Y at *
  rw [← h]
  rfl
theorem wx2 (X : Nat) (h : X < 256) : wrap64 ((X : Int) * 2) = ((2 * X : Nat) : Int) := by rw [w64_in _ (by omega) (by omega)]; omega
theorem wy2 (Y : Nat) (h : Y < 256) : wrap64 ((Y : Int).tdiv 2) = ((Y / 2 : Nat) : Int) := by
  rw [Int.tdiv_eq_ediv_of_nonneg (by omega), w64_in _ (by omega) (by omega)]; omega
theorem ty2 (Y : Nat) : (Y : Int).tmod 2 = ((Y % 2 : Nat) : Int) := by rw [Int.tmod_eq_emod_of_nonneg (by omega)]; omega
theorem wi1 (i : Nat) (h : i < 9223372036854775807) : wrap64 ((i : Int) + 1) = ((i + 1 : Nat) : Int) := by rw [w64_in _ (by omega) (by omega)]; omega
theorem mul_from (d : Nat) : ∀ (i X Y O : Nat), i + d = 8 → X < 256 → Y < 256 → O < 256 → ∀ k, d + 1 ≤ k → corncribref01_Mul.l0 k (X : Int) (Y : Int) (O : Int) (i : Int) = some ((mulGo d X Y O : Nat) : Int) := by
  induction d with
  | zero =>
    intro i X Y O hi hX hY hO k hk
    obtain ⟨m, rfl, _⟩ := pred_of (K := 0) hk
    simp only [corncribref01_Mul.l0]
    rw [if_neg (by omega)]
    unfold mulGo
    congr 1
    omega
  | succ d ih =>
    intro i X Y O hi hX hY hO k hk
    obtain ⟨m, rfl, hm⟩ := pred_of hk
    have h8 : (i : Int) < 8 := by omega
    have h2c : ¬ X < 128 → ((2 * X : Nat) : Int) ≥ 256 := by omega
    have h2d : X < 128 → ¬ ((2 * X : Nat) : Int) ≥ 256 := by omega
    have h1c : Y % 2 = 1 → ((Y % 2 : Nat) : Int) = 1 := by omega
    have h1d : ¬ Y % 2 = 1 → ¬ ((Y % 2 : Nat) : Int) = 1 := by omega
    have h9 : i + 1 + d = 8 := by omega
    have hy2 : Y / 2 < 256 := by omega
    have hox := xor_lt hO hX
    have hxt := xt_lt X hX
    have e1 := wx2 X hX
    have e2 := wy2 Y hY
    have e3 := ty2 Y
    have e4 := wi1 i (by omega)
    have e5 := xor_285 X hX
    have e6 : bits .xor .i64 (O : Int) (X : Int) = ((O ^^^ X : Nat) : Int) := xor_i8 O X (Nat.lt_trans hO (by decide)) (Nat.lt_trans hX (by decide))
    simp only [corncribref01_Mul.l0]
    rw [e1, e2, e3, e4, e5, e6, if_pos h8]
    clear e1 e2 e3 e4 e5 e6
    unfold mulGo
    by_cases h1 : Y % 2 = 1
    · rw [if_pos (h1c h1), if_pos h1]
      by_cases h2 : X < 128
      · rw [if_neg (h2d h2)]
        have : xt X = 2 * X := by unfold xt; rw [if_pos h2]
        rw [this] at hxt ⊢
        exact ih (i + 1) _ _ _ h9 hxt hy2 hox m hm
      · rw [if_pos (h2c h2)]
        have : xt X = (2 * X) ^^^ 285 := by unfold xt; rw [if_neg h2]
        rw [this] at hxt ⊢
        exact ih (i + 1) _ _ _ h9 hxt hy2 hox m hm
    · rw [if_neg (h1d h1), if_neg h1]
      by_cases h2 : X < 128
      · rw [if_neg (h2d h2)]
        have : xt X = 2 * X := by unfold xt; rw [if_pos h2]
        rw [this] at hxt ⊢
        exact ih (i + 1) _ _ _ h9 hxt hy2 hO m hm
      · rw [if_pos (h2c h2)]
        have : xt X = (2 * X) ^^^ 285 := by unfold xt; rw [if_neg h2]
        rw [this] at hxt ⊢
        exact ih (i + 1) _ _ _ h9 hxt hy2 hO m hm
theorem refmul_f (a b : UInt8) (k : Nat) (hk : 9 ≤ k) : corncribref01_Mul.f k (a.toNat : Int) (b.toNat : Int) = some ((gmul a b).toNat : Int) := by
  unfold corncribref01_Mul.f
  have ha := b_lt a
  have hb := b_lt b
  rw [w64_in _ (by omega) (by omega), w64_in _ (by omega) (by omega)]
  have := mul_from 8 0 a.toNat b.toNat 0 rfl ha hb (by decide) k hk
  rw [gmul_nat]
  exact this
def gpow (a : UInt8) (n : Nat) : UInt8 := UInt8.ofNat (pows a.toNat n)
theorem pows_lt (a : Nat) (h : a < 256) : ∀ n, pows a n < 256
  | 0 => by show 1 < 256; decide
  | n + 1 => mul_lt _ _ (pows_lt a h n)
theorem gpow_nat (a : UInt8) (n : Nat) : (gpow a n).toNat = pows a.toNat n := by
  unfold gpow
  rw [UInt8.toNat_ofNat']
  exact Nat.mod_eq_of_lt (pows_lt _ (b_lt a) n)
theorem inv_from (a : UInt8) (d : Nat) : ∀ (i : Nat), i + d = 254 → ∀ k, d + 10 ≤ k → corncribref01_Inv.l0 k (a.toNat : Int) ((gpow a i).toNat : Int) (i : Int) = some (((gpow a 254).toNat : Int), 0) := by
  induction d with
  | zero =>
    intro i hi k hk
    obtain ⟨m, rfl, _⟩ := pred_of (K := 9) hk
    simp only [corncribref01_Inv.l0]
    rw [if_neg (by omega), show i = 254 by omega]
  | succ d ih =>
    intro i hi k hk
    obtain ⟨m, rfl, hm⟩ := pred_of (K := d + 10) (by omega)
    simp only [corncribref01_Inv.l0]
    rw [if_pos (by omega), refmul_f _ _ m (by omega), Option.bind_some, w64_in _ (by omega) (by omega)]
    have e : gmul (gpow a i) a = gpow a (i + 1) := b_ext (by rw [gmul_nat, gpow_nat, gpow_nat]; rfl)
    rw [e]
    exact ih (i + 1) (by omega) m hm
theorem refinv_f (a : UInt8) (h : a ≠ 0) (k : Nat) (hk : 300 ≤ k) : corncribref01_Inv.f k (a.toNat : Int) = some (((ginv a).toNat : Int), 0) := by
  unfold corncribref01_Inv.f
  have h0 := b_ne h
  rw [if_neg (by omega)]
  have := inv_from a 254 0 rfl k (by omega)
  have e1 : gpow a 0 = 1 := rfl
  have e2 : gpow a 254 = ginv a := b_ext (by rw [gpow_nat, ginv_nat, pows_inv _ (b_lt a) h0])
  rw [e1, e2] at this
  exact this
theorem bt_nat (s : ByteArray) (i : Nat) (h : i < s.size) : bt s (i : Int) = ((s.data.toList.getD i 0).toNat : Int) := by
  unfold bt
  rw [dif_pos (by simpa using h)]
  have h' : i < s.data.toList.length := by rw [Array.length_toList]; exact h
  rw [List.getD_eq_getElem?_getD, List.getElem?_eq_getElem h']
  rfl
/-- Bytes as whole numbers. -/
def ints (l : List UInt8) : List Int := l.map fun b => (b.toNat : Int)
theorem str_ints (l : List UInt8) : strOfNums (ints l) = txt l := Lib.Lz.strOfNums_map l
theorem ints_len (l : List UInt8) : (ints l).length = l.length := by simp [ints]
theorem ints_snoc (l : List UInt8) (b : UInt8) : ints l ++ [(b.toNat : Int)] = ints (l ++ [b]) := by simp [ints]
theorem ints_set (l : List UInt8) (i : Nat) (b : UInt8) : (ints l).set i (b.toNat : Int) = ints (l.set i b) := by unfold ints; rw [List.map_set]
theorem ints_rep (n : Nat) : List.replicate n (0 : Int) = ints (List.replicate n 0) := by simp [ints]
theorem rd_ints (l : List UInt8) (i : Nat) (h : i < l.length) : rd (ints l) (i : Int) = (l[i].toNat : Int) := by
  unfold rd ints
  simp [List.getElem?_map, List.getElem?_eq_getElem h]
theorem scale_from (a : UInt8) (s : ByteArray) (hs : s.size < 140737488355328) (d : Nat) : ∀ (i : Nat), i + d = s.size → ∀ k, d + 20 ≤ k →
    corncribref01_Scale.l0 k (a.toNat : Int) s (ints ((s.data.toList.take i).map (gmul a))) (i : Int) = some (txt (s.data.toList.map (gmul a))) := by
  have hsl : s.data.toList.length = s.size := Array.length_toList
  induction d with
  | zero =>
    intro i hi k hk
    obtain ⟨m, rfl, _⟩ := pred_of (K := 19) hk
    simp only [corncribref01_Scale.l0]
    rw [if_neg (by omega), List.take_of_length_le (by omega), str_ints]
  | succ d ih =>
    intro i hi k hk
    obtain ⟨m, rfl, hm⟩ := pred_of (K := d + 20) (by omega)
    have hi' : i < s.size := by omega
    simp only [corncribref01_Scale.l0]
    rw [if_pos (by omega), if_pos (by omega), bt_nat s i hi', refmul_f _ _ m (by omega), Option.bind_some, if_pos (by rw [ints_len, List.length_map, List.length_take]; omega), w64_in _ (by omega) (by omega), ints_snoc]
    have e : (s.data.toList.take i).map (gmul a) ++ [gmul a (s.data.toList.getD i 0)] = (s.data.toList.take (i + 1)).map (gmul a) := by
      rw [List.take_succ_eq_append_getElem (by omega), List.map_append, List.getD_eq_getElem?_getD, List.getElem?_eq_getElem (by omega)]
      rfl
    rw [e]
    exact ih (i + 1) (by omega) m hm
theorem scale_f (a : UInt8) (s : ByteArray) (hs : s.size < 140737488355328) (k : Nat) (hk : s.size + 20 ≤ k) : corncribref01_Scale.f k (a.toNat : Int) s = some (txt (s.data.toList.map (gmul a))) :=
  scale_from a s hs s.size 0 (by omega) k hk
/-! One. -/
/-- The identity's bytes behind i rounds. -/
def oneP (k i : Nat) : List UInt8 := (List.range (k * k)).map fun p => if p / k = p % k ∧ p / k < i then 1 else 0
theorem oneP_len (k i : Nat) : (oneP k i).length = k * k := by simp [oneP]
theorem oneP_zero (k : Nat) : oneP k 0 = List.replicate (k * k) 0 := by
  unfold oneP
  apply List.ext_getElem
  · simp
  · intro i h1 h2
    simp
theorem oneP_get (k i p : Nat) (h : p < (oneP k i).length) : (oneP k i)[p] = if p / k = p % k ∧ p / k < i then 1 else 0 := by simp [oneP]
theorem oneP_set (k i : Nat) (h : i < k) : (oneP k i).set (i * k + i) 1 = oneP k (i + 1) := by
  apply List.ext_getElem
  · rw [List.length_set, oneP_len, oneP_len]
  · intro p h1 h2
    rw [List.getElem_set, oneP_get, oneP_get]
    have hdm : (i * k + i) / k = i ∧ (i * k + i) % k = i := by
      constructor
      · rw [Nat.mul_comm, Nat.mul_add_div (by omega), Nat.div_eq_of_lt h, Nat.add_zero]
      · rw [Nat.mul_comm, Nat.mul_add_mod, Nat.mod_eq_of_lt h]
    by_cases e : i * k + i = p
    · subst e
      rw [if_pos rfl, if_pos ⟨by rw [hdm.1, hdm.2], by rw [hdm.1]; omega⟩]
    · rw [if_neg e]
      have hne : p / k = p % k → p / k ≠ i := fun h1 h2 => e (by
        have := Nat.div_add_mod p k
        rw [← h1, h2, Nat.mul_comm] at this
        exact this)
      by_cases hc : p / k = p % k ∧ p / k < i
      · rw [if_pos hc, if_pos ⟨hc.1, by omega⟩]
      · rw [if_neg hc, if_neg (fun h => hc ⟨h.1, by have := hne h.1; omega⟩)]
theorem oneP_full (k : Nat) : oneP k k = (oneG k).flatten := by
  apply List.ext_getElem?
  intro p
  by_cases hp : p < k * k
  · have hk : 0 < k := by
      rcases Nat.eq_zero_or_pos k with h | h
      · subst h; omega
      · exact h
    have hd : p / k < k := Nat.div_lt_of_lt_mul hp
    have hm : p % k < k := Nat.mod_lt _ hk
    have h1 := gen_byte k 0 (p / k) (p % k) (by omega) hm
    rw [← genG_zero, Nat.mul_comm, Nat.div_add_mod] at h1
    rw [h1]
    unfold oneP genAt
    rw [List.getElem?_map, List.getElem?_range hp, if_pos hd]
    simp only [Option.map_some]
    congr 1
    by_cases e : p / k = p % k
    · rw [if_pos ⟨e, hd⟩, if_pos e]
    · rw [if_neg (fun h => e h.1), if_neg e]
  · have hl : (oneG k).flatten.length = k * k := by
      have := lens_same (c := k) (oneG k) (fun r hr => by obtain ⟨x, _, rfl⟩ := List.mem_map.1 hr; simp)
      unfold Lib.lens at this
      rw [List.length_flatten, this]
      simp [oneG]
    rw [List.getElem?_eq_none (by rw [oneP_len]; omega), List.getElem?_eq_none (by rw [hl]; omega)]
theorem refone_from (k : Nat) (hk : k ≤ 255) (d : Nat) : ∀ (i : Nat), i + d = k → ∀ K, d + 1 ≤ K → corncribref02_One.l0 K (k : Int) (ints (oneP k i)) (i : Int) = some ((k : Int), (k : Int), txt (oneG k).flatten) := by
  induction d with
  | zero =>
    intro i hi K hK
    obtain ⟨m, rfl, _⟩ := pred_of (K := 0) hK
    simp only [corncribref02_One.l0]
    rw [if_neg (by omega), str_ints, show i = k by omega, oneP_full]
  | succ d ih =>
    intro i hi K hK
    obtain ⟨m, rfl, hm⟩ := pred_of hK
    have hik : i * k + i < k * k := by
      have : (i + 1) * k ≤ k * k := Nat.mul_le_mul_right _ (by omega)
      rw [Nat.succ_mul] at this
      omega
    have hkk : k * k ≤ 255 * 255 := Nat.mul_le_mul hk hk
    have e1 : (i : Int) * (k : Int) = ((i * k : Nat) : Int) := by push_cast; rfl
    simp only [corncribref02_One.l0]
    rw [if_pos (by omega), e1, w64_in ((i * k : Nat) : Int) (by omega) (by omega), w64_in (((i * k : Nat) : Int) + (i : Int)) (by omega) (by omega), if_pos (by omega), if_pos (by rw [ints_len, oneP_len]; omega), w64_in _ (by omega) (by omega), show (((i * k : Nat) : Int) + (i : Int)).toNat = i * k + i by omega]
    have e2 : (ints (oneP k i)).set (i * k + i) 1 = ints (oneP k (i + 1)) := by rw [← oneP_set k i (by omega), ← ints_set]; rfl
    rw [e2]
    exact ih (i + 1) (by omega) m hm
theorem refone_f (k : Nat) (hk : k ≤ 255) (K : Nat) (hK : k + 1 ≤ K) : corncribref02_One.f K (k : Int) = some ((k : Int), (k : Int), txt (oneG k).flatten) := by
  unfold corncribref02_One.f
  have hkk : k * k ≤ 255 * 255 := Nat.mul_le_mul hk hk
  have e1 : (k : Int) * (k : Int) = ((k * k : Nat) : Int) := by push_cast; rfl
  rw [e1, w64_in _ (by omega) (by omega), if_pos (by omega), if_pos (by omega), Int.toNat_natCast, ints_rep, ← oneP_zero]
  exact refone_from k hk k 0 (by omega) K hK
end Go.Proofs.YtegmmefijihdeaaDoor.PS
