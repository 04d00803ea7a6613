/- Closed forms of the document's Key, Rising and Writes, as the print tells them. -/
-- IMPORTS
-- END IMPORTS
import Derived.Test.YtaldfbmjmpkmmaaGreatM85d5e2
import Derived.Test.YtaldfbmjmpkmmaaGreatMe06dd9
import Derived.Test.YtaldfbmjmpkmmaaGreatM4b9656
namespace Go.Proofs.YtaldfbmjmpkmmaaGreat.PL
open Go.RowKit Go.Proofs.YtaldfbmjmpkmmaaGreatW.PrintWords Go.Proofs.YtaldfbmjmpkmmaaGreatW.PrintLast Go.Proofs.YtaldfbmjmpkmmaaGreatW.PrintMore
set_option linter.unusedVariables false
theorem toList_nil_iff (s : ByteArray) : s.toList = [] ↔ s.size = 0 := by
 rw [ByteArray.toList_eq]
 show s.data.toList = [] ↔ s.data.size = 0
 rw [← Array.length_toList]
 exact List.length_eq_zero_iff.symm
theorem rkey_f (s : ByteArray) : corncribref07_Key.f s = some (keyB s) := by
 unfold corncribref07_Key.f keyB
 by_cases h : s.toList = []
 ·have := (toList_nil_iff s).1 h
  rw [if_neg (by omega), h]; rfl
 ·have h2 : ¬ s.size = 0 := fun e => h ((toList_nil_iff s).2 e)
  rw [if_pos (by omega)]
  have : s.toList.isEmpty = false := by simpa using h
  rw [this]
  simp only [Bool.not_false, Bool.true_and, Option.some.injEq, decide_eq_decide]
  omega
theorem rrising_zero (l : List ByteArray) (k : Nat) (i : Nat) (h : l.length ≤ i) : corncribref07_Rising.l0 (k + 1) l (i : Int) = some true := by
 simp only [corncribref07_Rising.l0]; rw [if_neg (by omega)]
theorem rrising_from (l : List ByteArray) (hl : l.length ≤ 9223372036854775807) (d : Nat) : ∀ (k i : Nat), 0 < i → i + d = l.length → d < k →
 corncribref07_Rising.l0 k l (i : Int) = some (ris (some (l.getD (i - 1) ByteArray.empty).toList) (l.drop i)) := by
 induction d with
 | zero =>
  intro k i h0 hd hk
  obtain ⟨k, rfl⟩ : ∃ m, k = m + 1 := ⟨k - 1, by omega⟩
  rw [rrising_zero l k i (by omega), List.drop_of_length_le (by omega)]
  rfl
 | succ d ih =>
  intro k i h0 hd hk
  obtain ⟨k, rfl⟩ : ∃ m, k = m + 1 := ⟨k - 1, by omega⟩
  have hi : i < l.length := by omega
  have e1 : l.drop i = l[i] :: l.drop (i + 1) := (List.drop_eq_getElem_cons hi)
  have e2 : wrap64 ((i : Int) - 1) = ((i - 1 : Nat) : Int) := by rw [w64 _ (by omega) (by omega)]; omega
  have e3 : wrap64 ((i : Int) + 1) = ((i + 1 : Nat) : Int) := by rw [w64 _ (by omega) (by omega)]; omega
  have e4 : l.getD (i - 1) ByteArray.empty = l[i - 1] := by simp [List.getElem?_eq_getElem (show i - 1 < l.length by omega)]
  simp only [corncribref07_Rising.l0]
  rw [if_pos (by omega), if_pos (by omega), rdOf_nat l i hi, rkey_f, Option.bind_some, e1, e4]
  simp only [ris]
  cases hk1 : keyB l[i] with
  | false => simp
  | true =>
   rw [if_pos rfl, if_pos (by omega), e2, if_pos (by omega), if_pos (by omega), rdOf_nat l (i - 1) (by omega), e3]
   cases hb : Op.bytesLess l[i - 1].toList l[i].toList with
   | false => simp
   | true =>
    rw [if_pos rfl, ih k (i + 1) (by omega) (by omega) (by omega)]
    have e5 : l.getD (i + 1 - 1) ByteArray.empty = l[i] := by simp [List.getElem?_eq_getElem hi]
    rw [e5]; simp
theorem rrising_f (l : List ByteArray) (hl : l.length ≤ 9223372036854775807) (k : Nat) (hk : l.length < k) : corncribref07_Rising.f k l = some (risingB l) := by
 unfold corncribref07_Rising.f risingB
 cases hl0 : l with
 | nil =>
  obtain ⟨k, rfl⟩ : ∃ m, k = m + 1 := ⟨k - 1, by omega⟩
  simp [corncribref07_Rising.l0, ris]
 | cons s r =>
  obtain ⟨k, rfl⟩ : ∃ m, k = m + 1 := ⟨k - 1, by omega⟩
  have hlen : l.length = r.length + 1 := by rw [hl0]; rfl
  have e3 : wrap64 ((0 : Int) + 1) = ((1 : Nat) : Int) := by rw [w64 _ (by omega) (by omega)]; omega
  have hz : rdOf ByteArray.empty (s :: r) 0 = s := rfl
  simp only [corncribref07_Rising.l0]
  rw [if_pos (by simp <;> omega), if_pos (by omega), hz, rkey_f, Option.bind_some]
  simp only [ris]
  cases hk1 : keyB s with
  | false => simp
  | true =>
   rw [if_pos rfl, if_neg (by omega), e3]
   have := rrising_from (s :: r) (by simp; omega) r.length k 1 (by omega) (by simp; omega) (by omega)
   rw [this]; simp
theorem rwrites_from (l : List S57) (hl : l.length < 8796093022208) (d : Nat) : ∀ (k i : Nat), i + d = l.length → d + l.length + 1 < k →
 corncribref07_Writes.l0 k l ((l.take i).map (·.f0)) (i : Int) = some ((l.drop i).all shardB && (decide (l.length ≤ 16) && risingB (l.map (·.f0)))) := by
 induction d with
 | zero =>
  intro k i hd hk
  obtain ⟨k, rfl⟩ : ∃ m, k = m + 1 := ⟨k - 1, by omega⟩
  simp only [corncribref07_Writes.l0]
  rw [if_neg (by omega), List.drop_of_length_le (by omega), List.take_of_length_le (by omega)]
  by_cases h16 : l.length ≤ 16
  ·rw [if_pos (by omega), rrising_f _ (by simp; omega) k (by simp; omega)]
   simp [h16]
  ·rw [if_neg (by omega)]
   simp [h16]
 | succ d ih =>
  intro k i hd hk
  obtain ⟨k, rfl⟩ : ∃ m, k = m + 1 := ⟨k - 1, by omega⟩
  have hi : i < l.length := by omega
  have e1 : l.drop i = l[i] :: l.drop (i + 1) := (List.drop_eq_getElem_cons hi)
  have e3 : wrap64 ((i : Int) + 1) = ((i + 1 : Nat) : Int) := by rw [w64 _ (by omega) (by omega)]; omega
  have e5 : (l.take i).map (·.f0) ++ [l[i].f0] = (l.take (i + 1)).map (·.f0) := by
   rw [List.take_succ_eq_append_getElem hi, List.map_append]; rfl
  have hlen : ((l.take i).map (fun x : S57 => x.f0)).length < 8796093022208 := by simp; omega
  simp only [corncribref07_Writes.l0]
  rw [if_pos (by omega), if_pos (by omega), if_pos hlen, Option.bind_some, rd62_nat l i hi, e5, e1, List.all_cons]
  by_cases h1 : l[i].f1.size ≤ 2052
  ·rw [if_neg (by omega)]
   have hnext := ih k (i + 1) (by omega) (by omega)
   cases h2 : l[i].f2 with
   | false =>
    rw [if_neg (by decide), e3, hnext]
    simp [shardB, h1, h2]
   | true =>
    rw [if_pos rfl]
    by_cases h3 : l[i].f1.toList = []
    ·rw [if_pos h3, e3, hnext]
     simp [shardB, h1, h2, h3]
    ·rw [if_neg h3]
     have : l[i].f1.toList.isEmpty = false := by simpa using h3
     simp [shardB, h1, h2, this]
  ·rw [if_pos (by omega)]
   simp [shardB, h1]
theorem rwrites_f (l : List S57) (hl : l.length < 8796093022208) (k : Nat) (hk : l.length + l.length + 1 < k) : corncribref07_Writes.f k l = some (writesB l) := by
 unfold corncribref07_Writes.f writesB
 exact rwrites_from l hl l.length k 0 (by omega) hk
end Go.Proofs.YtaldfbmjmpkmmaaGreat.PL
