/- The document's items: closed forms of the printed functions at, put, Keys, SameTexts, SpoilTexts, Key. -/
import Derived.Test.YteibcojjbcihbaaPT0
import Derived.Test.YteibcojjbcihbaaPTf65
import Derived.Test.YteibcojjbcihbaaPTf66
import Derived.Test.YteibcojjbcihbaaPTf20
import Derived.Test.YteibcojjbcihbaaPTf21
import Derived.Test.YteibcojjbcihbaaPTf23
import Derived.Test.YteibcojjbcihbaaPTf64
import Derived.Test.YteibcojjbcihbaaPTf42
import Derived.Test.YteibcojjbcihbaaPTf43
import Derived.Test.YteibcojjbcihbaaHTxn2
import Derived.Test.YteibcojjbcihbaaHKeyT
namespace Go.Proofs.Yteibcojjbcihbaa.PT
open Go.RowKit Go.Proofs.YteibcojjbcihbaaW.PrintWords Go.Proofs.YteibcojjbcihbaaW.PrintLast Go.Proofs.YteibcojjbcihbaaW.PrintMore
open Mk (Up lt_or)
open Go.Proofs.Yteibcojjbcihbaa.Txn (Tab tput it0)
abbrev Itm := Go.Proofs.Yteibcojjbcihbaa.Txn.Item
set_option linter.unusedVariables false
set_option linter.unusedSimpArgs false
/-- With rounds enough it is v. -/
def Ev {α : Type} (F : Nat → Option α) (v : α) : Prop := ∃ K, ∀ k, K ≤ k → F k = some v
theorem pred_of {K k : Nat} (h : K + 1 ≤ k) : ∃ m, k = m + 1 ∧ K ≤ m := ⟨k - 1, by omega, by omega⟩
theorem w64 (i : Int) (h0 : -9223372036854775808 ≤ i) (h1 : i ≤ 9223372036854775807) : wrap64 i = i := by unfold wrap64; omega
theorem w64n (i n : Nat) (h : i < n) (hn : n ≤ 9223372036854775807) : wrap64 ((i : Int) + 1) = ((i + 1 : Nat) : Int) := by rw [w64 _ (by omega) (by omega)]; omega
def kb (x : S96) : List UInt8 := x.f0.data.toList
theorem rd96_nat (l : List S96) (k : Nat) (h : k < l.length) : rd_T96 l (k : Int) = l[k] := by
  unfold rd_T96
  rw [Int.toNat_natCast, List.getD_eq_getElem?_getD, List.getElem?_eq_getElem h, Option.getD_some]
/-- The place of a key, and whether it is there. -/
def atR : List S96 → List UInt8 → Nat × Bool
  | [], _ => (0, false)
  | x :: r, k => if kb x < k then ((atR r k).1 + 1, (atR r k).2) else (0, kb x == k)
def putR : List S96 → S96 → List S96
  | [], y => [y]
  | x :: r, y => if kb x < kb y then x :: putR r y else if kb x = kb y then y :: r else y :: x :: r
def lookR : List S96 → List UInt8 → Option Itm
  | [], _ => none
  | x :: r, k => if k = kb x then some (x.f1, x.f2) else lookR r k
theorem at_from (l : List S96) (a : ByteArray) (hm : l.length ≤ 9223372036854775807) (d : Nat) : ∀ i, i + d = l.length → Ev (fun k => corncribref23_at.l0 k l a (i : Int)) (((i + (atR (l.drop i) a.data.toList).1 : Nat) : Int), (atR (l.drop i) a.data.toList).2) := by
  induction d with
  | zero =>
    intro i hd
    refine ⟨1, fun k hk => ?_⟩
    obtain ⟨m, rfl, hm⟩ := pred_of (K := 0) hk
    show corncribref23_at.l0 (m + 1) l a (i : Int) = _
    simp only [corncribref23_at.l0]
    rw [if_neg (by omega), List.drop_of_length_le (by omega)]
    rfl
  | succ d ih =>
    intro i hd
    have hi : i < l.length := by omega
    obtain ⟨K, hK⟩ := ih (i + 1) (by omega)
    refine ⟨K + 1, fun k hk => ?_⟩
    obtain ⟨m, rfl, hm'⟩ := pred_of hk
    show corncribref23_at.l0 (m + 1) l a (i : Int) = _
    simp only [corncribref23_at.l0]
    rw [if_pos (by omega), if_pos (by omega), rd96_nat l i hi, List.drop_eq_getElem_cons hi, w64n i _ hi hm, bytesLess_eq, ByteArray.toList_eq, ByteArray.toList_eq]
    unfold atR
    by_cases h : kb l[i] < a.data.toList
    · rw [if_pos (by simpa [kb] using h), if_pos h]
      refine (hK m hm').trans ?_
      simp only
      congr 2
      omega
    · rw [if_neg (by simpa [kb] using h), if_neg h]
      rfl
theorem at_f (l : List S96) (a : ByteArray) (hm : l.length ≤ 9223372036854775807) : Ev (fun k => corncribref23_at.f k l a) (((atR l a.data.toList).1 : Int), (atR l a.data.toList).2) := by
  obtain ⟨K, hK⟩ := at_from l a hm l.length 0 (by omega)
  refine ⟨K, fun k hk => ?_⟩
  have := hK k hk
  simp only [List.drop_zero, Nat.zero_add] at this
  exact this
theorem at_le (l : List S96) (k : List UInt8) : (atR l k).1 ≤ l.length := by
  induction l with
  | nil => simp [atR]
  | cons x r ih =>
    unfold atR
    split
    · simp only [List.length_cons]; omega
    · simp
theorem at_lt (l : List S96) (k : List UInt8) (h : (atR l k).2 = true) : (atR l k).1 < l.length := by
  induction l with
  | nil => simp [atR] at h
  | cons x r ih =>
    unfold atR at h ⊢
    split
    · rename_i hx
      rw [if_pos hx] at h
      have := ih h
      simp only [List.length_cons]
      omega
    · simp
theorem putR_eq (l : List S96) (y : S96) : putR l y = l.take (atR l (kb y)).1 ++ [y] ++ l.drop (if (atR l (kb y)).2 = true then (atR l (kb y)).1 + 1 else (atR l (kb y)).1) := by
  induction l with
  | nil => simp [putR, atR]
  | cons x r ih =>
    unfold putR atR
    by_cases h : kb x < kb y
    · rw [if_pos h, if_pos h, ih]
      cases (atR r (kb y)).2 <;> simp
    · rw [if_neg h, if_neg h]
      by_cases e : kb x = kb y
      · rw [if_pos e]
        simp [e]
      · rw [if_neg e]
        simp [e]
theorem put_bind (l : List S96) (n : Nat) (b : Bool) (y : S96) (hn : n ≤ l.length) (hlt : b = true → n < l.length) (hm : l.length ≤ 1000000) (F : Nat → Nat → Bool) (hF : ∀ i j, i + j ≤ 1000003 → F i j = true) :
    (if 0 ≤ (n : Int) then (if (n : Int) ≤ (l.length : Int) then ((some (l.take (n : Int).toNat)).bind fun y106 => (if F 0 y106.length = true then ((some (([] : List S96) ++ y106)).bind fun y110 => (if F y110.length 0 = true then ((some (y110 ++ [y])).bind fun y113 =>
      (if b = true then (if 0 ≤ (wrap64 ((n : Int) + 1)) then (if (wrap64 ((n : Int) + 1)) ≤ (l.length : Int) then ((some (l.drop ((wrap64 ((n : Int) + 1)) : Int).toNat)).bind fun y116 => (if F y113.length y116.length = true then (some (y113 ++ y116)) else (none))) else (none)) else (none)) else
      ((some (l.drop (n : Int).toNat)).bind fun y123 => (if F y113.length y123.length = true then (some (y113 ++ y123)) else (none))))) else (none))) else (none))) else (none)) else (none)) = some (l.take n ++ [y] ++ l.drop (if b = true then n + 1 else n)) := by
  have g3 : (0 : Int) ≤ (n : Int) := by omega
  have g4 : (n : Int) ≤ (l.length : Int) := by omega
  simp only [g3, g4, Option.bind_some, Int.toNat_natCast, if_true, List.nil_append]
  rw [hF _ _ (by rw [List.length_take]; omega), if_pos rfl, hF _ _ (by rw [List.length_take]; omega), if_pos rfl]
  cases b with
  | true =>
    have hl := hlt rfl
    have hw := w64n n _ hl (by omega)
    have g1 : (0 : Int) ≤ ((n + 1 : Nat) : Int) := by omega
    have g2 : ((n + 1 : Nat) : Int) ≤ (l.length : Int) := by omega
    simp only [if_true, hw, g1, g2, Int.toNat_natCast]
    rw [hF _ _ (by simp only [List.length_append, List.length_take, List.length_drop, List.length_cons, List.length_nil]; omega), if_pos rfl]
  | false =>
    simp only [Bool.false_eq_true, if_false]
    rw [hF _ _ (by simp only [List.length_append, List.length_take, List.length_drop, List.length_cons, List.length_nil]; omega), if_pos rfl]
def roomB (i j : Nat) : Bool := decide (i + j < 3518437208883)
theorem room_ok (i j : Nat) (h : i + j ≤ 1000003) : roomB i j = true := decide_eq_true (Nat.lt_of_le_of_lt h (by decide))
theorem put_f (l : List S96) (y : S96) (hm : l.length ≤ 1000000) : Ev (fun k => corncribref23_put.f k l y.f0 y.f1 y.f2) (putR l y) := by
  obtain ⟨a, v, fd⟩ := y
  obtain ⟨K, hK⟩ := at_f l a (by omega)
  refine ⟨K, fun k hk => ?_⟩
  have hb := put_bind l (atR l a.data.toList).1 (atR l a.data.toList).2 ⟨a, v, fd⟩ (at_le l _) (at_lt l _) hm roomB room_ok
  have hk' : corncribref23_at.f k l a = some (((atR l a.data.toList).1 : Int), (atR l a.data.toList).2) := hK k hk
  rw [putR_eq]
  show corncribref23_put.f k l a v fd = _
  unfold corncribref23_put.f
  rw [hk', Option.bind_some]
  refine Eq.trans ?_ hb
  simp only [roomB, decide_eq_true_eq, List.length_nil, Nat.zero_add, Nat.add_zero]
/-! what is in it -/
def keysR (l : List S96) : List (List UInt8) := l.map kb
theorem put_mem (l : List S96) (y : S96) (q : List UInt8) : q ∈ keysR (putR l y) ↔ q ∈ keysR l ∨ q = kb y := by
  induction l with
  | nil => simp [putR, keysR]
  | cons x r ih =>
    unfold putR
    split
    · unfold keysR at ih ⊢
      rw [List.map_cons, List.mem_cons, ih, List.map_cons, List.mem_cons]
      exact or_assoc.symm
    · split
      · rename_i e
        unfold keysR
        rw [List.map_cons, List.mem_cons, List.map_cons, List.mem_cons, e]
        constructor
        · rintro (h | h)
          · exact .inr h
          · exact .inl (.inr h)
        · rintro ((h | h) | h)
          · exact .inl h
          · exact .inr h
          · exact .inl h
      · unfold keysR
        rw [List.map_cons, List.mem_cons]
        exact Or.comm
theorem put_up (l : List S96) (y : S96) (h : Up (keysR l)) : Up (keysR (putR l y)) := by
  induction l with
  | nil => exact List.pairwise_singleton _ _
  | cons x r ih =>
    obtain ⟨h1, h2⟩ := List.pairwise_cons.1 (show (kb x :: keysR r).Pairwise _ from h)
    unfold putR
    split
    · rename_i hx
      refine List.pairwise_cons.2 ⟨fun z hz => ?_, ih h2⟩
      rcases (put_mem r y z).1 hz with hz | hz
      · exact h1 z hz
      · rw [hz]; exact hx
    · split
      · rename_i e
        refine List.pairwise_cons.2 ⟨fun z hz => ?_, h2⟩
        rw [← e]
        exact h1 z hz
      · rename_i h3 h4
        have hk := lt_or (kb x) (kb y) h3 h4
        refine List.pairwise_cons.2 ⟨fun z hz => ?_, h⟩
        rcases List.mem_cons.1 hz with hz | hz
        · rw [hz]; exact hk
        · exact List.lt_trans hk (h1 z hz)
theorem look_mem (l : List S96) (q : List UInt8) : (lookR l q).isSome = true ↔ q ∈ keysR l := by
  induction l with
  | nil => simp [lookR, keysR]
  | cons x r ih =>
    unfold lookR keysR
    rw [List.map_cons, List.mem_cons]
    split
    · rename_i e
      simp [e]
    · rename_i e
      rw [ih]
      constructor
      · exact fun h => .inr h
      · rintro (h | h)
        · exact absurd h e
        · exact h
theorem look_put (l : List S96) (y : S96) (h : Up (keysR l)) : lookR (putR l y) = tput (lookR l) (kb y) (y.f1, y.f2) := by
  funext q
  induction l with
  | nil =>
    unfold putR lookR tput
    split <;> simp_all [lookR]
  | cons x r ih =>
    obtain ⟨h1, h2⟩ := List.pairwise_cons.1 (show (kb x :: keysR r).Pairwise _ from h)
    have ih := ih h2
    unfold putR
    split
    · rename_i hx
      unfold tput at ih ⊢
      by_cases e : q = kb x
      · have ne : q ≠ kb y := fun e2 => by rw [← e, e2] at hx; exact List.lt_irrefl _ hx
        simp only [lookR]
        rw [if_pos e, if_neg ne, if_pos e]
      · simp only [lookR]
        rw [if_neg e, ih, if_neg e]
    · split
      · rename_i e
        unfold tput
        simp only [lookR]
        by_cases e2 : q = kb y
        · rw [if_pos e2, if_pos e2]
        · rw [if_neg e2, if_neg e2, if_neg (by rw [e]; exact e2)]
      · unfold tput
        simp only [lookR]
theorem at_look (l : List S96) (k : List UInt8) (h : Up (keysR l)) : (atR l k).2 = (lookR l k).isSome := by
  induction l with
  | nil => rfl
  | cons x r ih =>
    obtain ⟨h1, h2⟩ := List.pairwise_cons.1 (show (kb x :: keysR r).Pairwise _ from h)
    unfold atR lookR
    by_cases hx : kb x < k
    · rw [if_pos hx, if_neg (fun e => by rw [e] at hx; exact List.lt_irrefl _ hx)]
      exact ih h2
    · rw [if_neg hx]
      by_cases e : k = kb x
      · rw [if_pos e]
        simp [e]
      · rw [if_neg e]
        have hn : (lookR r k).isSome = false := by
          cases hc : (lookR r k).isSome with
          | false => rfl
          | true => exact absurd (h1 k ((look_mem r k).1 hc)) hx
        rw [hn]
        have : kb x ≠ k := fun e2 => e e2.symm
        simp [this]
theorem at_item (l : List S96) (k : List UInt8) (h : Up (keysR l)) (hb : (atR l k).2 = true) : lookR l k = some ((rd_T96 l ((atR l k).1 : Int)).f1, (rd_T96 l ((atR l k).1 : Int)).f2) := by
  rw [rd96_nat l _ (at_lt l k hb)]
  induction l with
  | nil => simp [atR] at hb
  | cons x r ih =>
    obtain ⟨h1, h2⟩ := List.pairwise_cons.1 (show (kb x :: keysR r).Pairwise _ from h)
    unfold lookR
    by_cases hx : kb x < k
    · have e1 : atR (x :: r) k = ((atR r k).1 + 1, (atR r k).2) := by conv => lhs; unfold atR; rw [if_pos hx]
      rw [if_neg (fun e => by rw [e] at hx; exact List.lt_irrefl _ hx)]
      have hb' : (atR r k).2 = true := by rw [e1] at hb; exact hb
      rw [ih h2 hb']
      simp only [e1, List.getElem_cons_succ]
    · have e1 : atR (x :: r) k = (0, kb x == k) := by conv => lhs; unfold atR; rw [if_neg hx]
      rw [e1] at hb
      have : kb x = k := by simpa using hb
      rw [if_pos this.symm]
      simp only [e1, List.getElem_cons_zero]
theorem put_len (l : List S96) (y : S96) (h : Up (keysR l)) : (putR l y).length = if (lookR l (kb y)).isSome then l.length else l.length + 1 := by
  rw [putR_eq, ← at_look l (kb y) h]
  have h1 := at_le l (kb y)
  have h2 := at_lt l (kb y)
  cases hb : (atR l (kb y)).2 with
  | true =>
    have := h2 hb
    simp only [List.length_append, List.length_take, List.length_drop, List.length_cons, List.length_nil]
    simp; omega
  | false =>
    simp only [List.length_append, List.length_take, List.length_drop, List.length_cons, List.length_nil]
    simp; omega
theorem keys_from (l : List S96) (hm : l.length ≤ 1000000) (d : Nat) : ∀ i, i + d = l.length → Ev (fun k => corncribref23_Keys.l0 k l ((l.take i).map (·.f0)) (i : Int)) (l.map (·.f0)) := by
  induction d with
  | zero =>
    intro i hd
    refine ⟨1, fun k hk => ?_⟩
    obtain ⟨m, rfl, hm⟩ := pred_of (K := 0) hk
    show corncribref23_Keys.l0 (m + 1) l _ (i : Int) = _
    simp only [corncribref23_Keys.l0]
    rw [if_neg (by omega), List.take_of_length_le (by omega)]
  | succ d ih =>
    intro i hd
    have hi : i < l.length := by omega
    obtain ⟨K, hK⟩ := ih (i + 1) (by omega)
    refine ⟨K + 1, fun k hk => ?_⟩
    obtain ⟨m, rfl, hm'⟩ := pred_of hk
    show corncribref23_Keys.l0 (m + 1) l _ (i : Int) = _
    simp only [corncribref23_Keys.l0]
    rw [if_pos (by omega), if_pos (by omega), if_pos (by rw [List.length_map, List.length_take]; omega), rd96_nat l i hi, w64n i _ hi (by omega)]
    have := hK m hm'
    rw [List.take_succ_eq_append_getElem hi, List.map_append] at this
    exact this
theorem keys_f (l : List S96) (hm : l.length ≤ 1000000) : Ev (fun k => corncribref23_Keys.f k l) (l.map (·.f0)) := keys_from l hm l.length 0 (by omega)
theorem sameTexts_from (a : List ByteArray) (hm : a.length ≤ 9223372036854775807) (d : Nat) : ∀ i, i + d = a.length → Ev (fun k => corncribbook_SameTexts.l0 k a a (i : Int)) true := by
  induction d with
  | zero =>
    intro i hd
    refine ⟨1, fun k hk => ?_⟩
    obtain ⟨m, rfl, hm⟩ := pred_of (K := 0) hk
    show corncribbook_SameTexts.l0 (m + 1) a a (i : Int) = _
    simp only [corncribbook_SameTexts.l0]
    rw [if_neg (by omega)]
  | succ d ih =>
    intro i hd
    obtain ⟨K, hK⟩ := ih (i + 1) (by omega)
    refine ⟨K + 1, fun k hk => ?_⟩
    obtain ⟨m, rfl, hm'⟩ := pred_of hk
    show corncribbook_SameTexts.l0 (m + 1) a a (i : Int) = _
    simp only [corncribbook_SameTexts.l0]
    rw [if_pos (by omega), if_pos (by omega), if_pos (by omega), if_pos trivial, w64n i _ (show i < a.length by omega) hm]
    exact hK m hm'
theorem sameTexts_f (a : List ByteArray) (hm : a.length ≤ 9223372036854775807) : Ev (fun k => corncribbook_SameTexts.f k a a) true := by
  obtain ⟨K, hK⟩ := sameTexts_from a hm a.length 0 (by omega)
  refine ⟨K, fun k hk => ?_⟩
  show corncribbook_SameTexts.f k a a = _
  unfold corncribbook_SameTexts.f
  rw [if_pos rfl]
  exact hK k hk
theorem spoil_from (d : Nat) : ∀ (a : List ByteArray) (i : Nat), a.length ≤ 9223372036854775807 → i + d = a.length → ∃ v, Ev (fun k => corncribbook_SpoilTexts.l0 k a (i : Int)) v := by
  induction d with
  | zero =>
    intro a i hm hd
    refine ⟨a, 1, fun k hk => ?_⟩
    obtain ⟨m, rfl, hm⟩ := pred_of (K := 0) hk
    show corncribbook_SpoilTexts.l0 (m + 1) a (i : Int) = _
    simp only [corncribbook_SpoilTexts.l0]
    rw [if_neg (by omega)]
  | succ d ih =>
    intro a i hm hd
    obtain ⟨v, K, hK⟩ := ih (a.set i (⟨#[115, 112, 111, 105, 108, 116]⟩ : ByteArray)) (i + 1) (by simpa using hm) (by simp; omega)
    refine ⟨v, K + 1, fun k hk => ?_⟩
    obtain ⟨m, rfl, hm'⟩ := pred_of hk
    show corncribbook_SpoilTexts.l0 (m + 1) a (i : Int) = _
    simp only [corncribbook_SpoilTexts.l0]
    rw [if_pos (by omega), if_pos (by omega), w64n i _ (show i < a.length by omega) hm, Int.toNat_natCast]
    exact hK m hm'
theorem spoil_f (a : List ByteArray) (hm : a.length ≤ 9223372036854775807) : ∃ v, Ev (fun k => corncribbook_SpoilTexts.f k a) v := spoil_from a.length a 0 hm (by omega)
theorem key_f (s : ByteArray) : corncribref07_Key.f s = some (Txn.keyB s) := by
  unfold corncribref07_Key.f Txn.keyB
  rw [ByteArray.toList_eq]
  have e : s.data.toList.isEmpty = decide (s.size = 0) := by
    show _ = decide (s.data.size = 0)
    rw [← Array.length_toList]
    cases s.data.toList <;> simp
  rw [e]
  by_cases h : (s.size : Int) ≥ 1
  · rw [if_pos h]
    have h0 : ¬ s.size = 0 := by omega
    have e2 : decide ((s.size : Int) ≤ 32) = decide (s.size ≤ 32) := by rw [decide_eq_decide]; omega
    simp [h0, e2]
  · rw [if_neg h]
    have h0 : s.size = 0 := by omega
    simp [h0]
end Go.Proofs.Yteibcojjbcihbaa.PT
