/- Closed forms of letter.Key, letter.Rising and letter.writes, as the print tells them. -/
-- IMPORTS
import Derived.Test.YtaldfbmjmpkmmaaPL0
import Derived.Test.YtaldfbmjmpkmmaaPLf75
import Derived.Test.YtaldfbmjmpkmmaaPLf127
import Derived.Test.YtaldfbmjmpkmmaaPLf128
-- END IMPORTS
namespace Go.Proofs.Ytaldfbmjmpkmmaa.PL
open Go.RowKit Go.Proofs.YtaldfbmjmpkmmaaW.PrintWords Go.Proofs.YtaldfbmjmpkmmaaW.PrintLast Go.Proofs.YtaldfbmjmpkmmaaW.PrintMore

def keyB (s : ByteArray) : Bool := !s.toList.isEmpty && decide (s.size ≤ 32)
def ris : Option (List UInt8) → List ByteArray → Bool
 | _, [] => true
 | none, s :: r => keyB s && ris (some s.toList) r
 | some q, s :: r => keyB s && (Op.bytesLess q s.toList && ris (some s.toList) r)
def risingB (l : List ByteArray) : Bool := ris none l
def shardB (w : S56) : Bool := decide (w.f1.size ≤ 2052) && !(w.f2 && !w.f1.toList.isEmpty)
def writesB (l : List S56) : Bool := l.all shardB && (decide (l.length ≤ 16) && risingB (l.map (·.f0)))
def listedB (l7 : List ByteArray) (l8 : List S56) : Bool := decide (l7.length ≤ 16) && (risingB l7 && writesB l8)

theorem key_f (s : ByteArray) : letter_Key.f s = some (keyB s) := by
 unfold letter_Key.f keyB
 by_cases h : s.toList = []
 ·rw [if_pos h, h]; rfl
 ·rw [if_neg h]
  have : s.toList.isEmpty = false := by simpa using h
  rw [this]
  simp only [Bool.not_false, Bool.true_and, Option.some.injEq, decide_eq_decide]
  omega
theorem w64 (i : Int) (h0 : -9223372036854775808 ≤ i) (h1 : i ≤ 9223372036854775807) : wrap64 i = i := by unfold wrap64; omega
theorem rdOf_nat (l : List ByteArray) (i : Nat) (h : i < l.length) : rdOf ByteArray.empty l (i : Int) = l[i] := by
 unfold rdOf; simp [List.getElem?_eq_getElem h]
theorem rd62_nat (l : List S56) (i : Nat) (h : i < l.length) : rd_T56 l (i : Int) = l[i] := by
 unfold rd_T56; simp [List.getElem?_eq_getElem h]

theorem rising_zero (l : List ByteArray) (k : Nat) (i : Nat) (h : l.length ≤ i) : letter_Rising.l0 (k + 1) l l (l.length : Int) (i : Int) = some true := by
 simp only [letter_Rising.l0]; rw [if_neg (by omega)]
theorem rising_from (l : List ByteArray) (hl : l.length ≤ 9223372036854775807) (d : Nat) : ∀ (k i : Nat), 0 < i → i + d = l.length → d < k →
 letter_Rising.l0 k l l (l.length : Int) (i : Int) = some (ris (some (l.getD (i - 1) ByteArray.empty).toList) (l.drop i)) := by
 induction d with
 | zero =>
  intro k i h0 hd hk
  obtain ⟨k, rfl⟩ : ∃ m, k = m + 1 := ⟨k - 1, by omega⟩
  rw [rising_zero l k i (by omega), List.drop_of_length_le (by omega)]
  rfl
 | succ d ih =>
  intro k i h0 hd hk
  obtain ⟨k, rfl⟩ : ∃ m, k = m + 1 := ⟨k - 1, by omega⟩
  have hi : i < l.length := by omega
  have e1 : l.drop i = l[i] :: l.drop (i + 1) := (List.drop_eq_getElem_cons hi)
  have e2 : wrap64 ((i : Int) - 1) = ((i - 1 : Nat) : Int) := by rw [w64 _ (by omega) (by omega)]; omega
  have e3 : wrap64 ((i : Int) + 1) = ((i + 1 : Nat) : Int) := by rw [w64 _ (by omega) (by omega)]; omega
  have e4 : l.getD (i - 1) ByteArray.empty = l[i - 1] := by simp [List.getElem?_eq_getElem (show i - 1 < l.length by omega)]
  simp only [letter_Rising.l0]
  rw [if_pos (by omega), if_pos (by omega), if_pos (by omega), rdOf_nat l i hi, key_f, Option.bind_some, e1, e4]
  simp only [ris]
  cases hk1 : keyB l[i] with
  | false => simp
  | true =>
   rw [if_pos rfl, if_pos (by omega), e2, if_pos (by omega), if_pos (by omega), rdOf_nat l (i - 1) (by omega), e3]
   cases hb : Op.bytesLess l[i - 1].toList l[i].toList with
   | false => simp
   | true =>
    rw [if_pos rfl, ih k (i + 1) (by omega) (by omega) (by omega)]
    have e5 : l.getD (i + 1 - 1) ByteArray.empty = l[i] := by simp [List.getElem?_eq_getElem hi]
    rw [e5]; simp
theorem rising_f (l : List ByteArray) (hl : l.length ≤ 9223372036854775807) (k : Nat) (hk : l.length < k) : letter_Rising.f k l = some (risingB l) := by
 unfold letter_Rising.f risingB
 cases hl0 : l with
 | nil =>
  obtain ⟨k, rfl⟩ : ∃ m, k = m + 1 := ⟨k - 1, by omega⟩
  simp [letter_Rising.l0, ris]
 | cons s r =>
  obtain ⟨k, rfl⟩ : ∃ m, k = m + 1 := ⟨k - 1, by omega⟩
  have hlen : l.length = r.length + 1 := by rw [hl0]; rfl
  have e3 : wrap64 ((0 : Int) + 1) = ((1 : Nat) : Int) := by rw [w64 _ (by omega) (by omega)]; omega
  have hz : rdOf ByteArray.empty (s :: r) 0 = s := rfl
  simp only [letter_Rising.l0]
  rw [if_pos (by simp <;> omega), if_pos (by omega), if_pos (by simp <;> omega), hz, key_f, Option.bind_some]
  simp only [ris]
  cases hk1 : keyB s with
  | false => simp
  | true =>
   rw [if_pos rfl, if_neg (by omega), e3]
   have := rising_from (s :: r) (by simp; omega) r.length k 1 (by omega) (by simp; omega) (by omega)
   rw [this]; simp
theorem writes_from (l : List S56) (hl : l.length < 8796093022208) (d : Nat) : ∀ (k i : Nat), i + d = l.length → d + l.length + 1 < k →
 letter_writes.l0 k l ((l.take i).map (·.f0)) l (l.length : Int) (i : Int) = some ((l.drop i).all shardB && (decide (l.length ≤ 16) && risingB (l.map (·.f0)))) := by
 induction d with
 | zero =>
  intro k i hd hk
  obtain ⟨k, rfl⟩ : ∃ m, k = m + 1 := ⟨k - 1, by omega⟩
  simp only [letter_writes.l0]
  rw [if_neg (by omega), List.drop_of_length_le (by omega), List.take_of_length_le (by omega)]
  by_cases h16 : l.length ≤ 16
  ·rw [if_pos (by omega), rising_f _ (by simp; omega) k (by simp; omega)]
   simp [h16]
  ·rw [if_neg (by omega)]
   simp [h16]
 | succ d ih =>
  intro k i hd hk
  obtain ⟨k, rfl⟩ : ∃ m, k = m + 1 := ⟨k - 1, by omega⟩
  have hi : i < l.length := by omega
  have e1 : l.drop i = l[i] :: l.drop (i + 1) := (List.drop_eq_getElem_cons hi)
  have e3 : wrap64 ((i : Int) + 1) = ((i + 1 : Nat) : Int) := by rw [w64 _ (by omega) (by omega)]; omega
  have e5 : (l.take i).map (·.f0) ++ [l[i].f0] = (l.take (i + 1)).map (·.f0) := by
   rw [List.take_succ_eq_append_getElem hi, List.map_append]; rfl
  have hlen : ((l.take i).map (fun x : S56 => x.f0)).length < 8796093022208 := by simp; omega
  simp only [letter_writes.l0]
  rw [if_pos (by omega), if_pos (by omega), if_pos (by omega), rd62_nat l i hi, e1, List.all_cons]
  by_cases h1 : l[i].f1.size ≤ 2052
  ·rw [if_neg (by omega)]
   have hnext := ih k (i + 1) (by omega) (by omega)
   cases h2 : l[i].f2 with
   | false =>
    rw [if_neg (by decide), if_pos hlen, e5, e3, hnext]
    simp [shardB, h1, h2]
   | true =>
    rw [if_pos rfl]
    by_cases h3 : l[i].f1.toList = []
    ·rw [if_pos h3, if_pos hlen, e5, e3, hnext]
     simp [shardB, h1, h2, h3]
    ·rw [if_neg h3]
     have : l[i].f1.toList.isEmpty = false := by simpa using h3
     simp [shardB, h1, h2, this]
  ·rw [if_pos (by omega)]
   simp [shardB, h1]
theorem writes_f (l : List S56) (hl : l.length < 8796093022208) (k : Nat) (hk : l.length + l.length + 1 < k) : letter_writes.f k l = some (writesB l) := by
 unfold letter_writes.f writesB
 exact writes_from l hl l.length k 0 (by omega) hk
end Go.Proofs.Ytaldfbmjmpkmmaa.PL
