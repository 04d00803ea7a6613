/- What is wrong with records: a closed form; records that may be have few and short keys. -/
-- IMPORTS
-- END IMPORTS
import Derived.Test.YtaldfbmjmpkmmaaPL0
import Derived.Test.YtaldfbmjmpkmmaaPLf58
import Derived.Test.YtaldfbmjmpkmmaaHCheck
import Derived.Test.YtaldfbmjmpkmmaaHClash
import Derived.Test.YtaldfbmjmpkmmaaHFunc
namespace Go.Proofs.Ytaldfbmjmpkmmaa.PL.Lk
open Go.Proofs.Ytaldfbmjmpkmmaa.PL Go.RowKit Go.Proofs.YtaldfbmjmpkmmaaW.PrintWords Go.Proofs.YtaldfbmjmpkmmaaW.PrintLast Go.Proofs.YtaldfbmjmpkmmaaW.PrintMore Go.Maps Mk
set_option linter.unusedVariables false
set_option linter.unusedSimpArgs false

def sizesOk (r : S35) : Prop := r.f7.length < 8796093022208 ∧ r.f8.length < 8796093022208
def recVR (r : S35) : Int := recV r.f0 r.f1 r.f2 r.f3 r.f4 r.f5 r.f6 r.f7 r.f8
def prepB (r : S35) : Bool := r.f0 == 1 && recVR r == 0
def wrongV (l : List S35) : Int := if 256 < l.length then 2 else if l.all prepB = true then 0 else 80
theorem check_f (r : S35) (h : sizesOk r) : record_Check.f r.f0 r.f1 r.f2 r.f3 r.f4 r.f5 r.f6 r.f7 r.f8 = some (recVR r) := by
 unfold record_Check.f recVR
 exact if_pos h
theorem rd25_nat (l : List S35) (i : Nat) (h : i < l.length) : rd_T35 l (i : Int) = l[i] := by
 unfold rd_T35; simp [List.getElem?_eq_getElem h]
theorem wrong_from (l : List S35) (hl : l.length ≤ 9223372036854775807) (hs : ∀ r, r ∈ l → sizesOk r) (d : Nat) : ∀ (k i : Nat), i + d = l.length → d < k →
 locks_wrong.l0 k l (l.length : Int) (i : Int) = some (if (l.drop i).all prepB = true then 0 else 80) := by
 induction d with
 | zero =>
  intro k i hd hk
  obtain ⟨k, rfl⟩ : ∃ m, k = m + 1 := ⟨k - 1, by omega⟩
  simp only [locks_wrong.l0]
  rw [if_neg (by omega), List.drop_of_length_le (by omega)]
  rfl
 | succ d ih =>
  intro k i hd hk
  obtain ⟨k, rfl⟩ : ∃ m, k = m + 1 := ⟨k - 1, by omega⟩
  have hi : i < l.length := by omega
  have e1 : l.drop i = l[i] :: l.drop (i + 1) := (List.drop_eq_getElem_cons hi)
  have e3 : wrap64 ((i : Int) + 1) = ((i + 1 : Nat) : Int) := by rw [w64 _ (by omega) (by omega)]; omega
  simp only [locks_wrong.l0]
  rw [if_pos (by omega), if_pos (by omega), if_pos (by omega), rd25_nat l i hi, check_f _ (hs _ (List.getElem_mem hi)), e1, List.all_cons, e3]
  by_cases h1 : l[i].f0 = 1
  ·rw [if_pos h1, Option.bind_some]
   by_cases h2 : recVR l[i] = 0
   ·rw [if_pos h2, ih k (i + 1) (by omega) (by omega)]
    simp [prepB, h1, h2]
   ·rw [if_neg h2]
    simp [prepB, h1, h2]
  ·rw [if_neg h1]
   simp [prepB, h1]
theorem wrong_f (l : List S35) (hl : l.length ≤ 9223372036854775807) (hs : ∀ r, r ∈ l → sizesOk r) (k : Nat) (hk : l.length < k) : locks_wrong.f k l = some (wrongV l) := by
 unfold locks_wrong.f wrongV
 by_cases h : 256 < l.length
 ·rw [if_pos (by omega), if_pos h]
 ·rw [if_neg (by omega), if_neg h]
  exact wrong_from l hl hs l.length k 0 (by omega) hk

theorem ris_size : ∀ (l : List ByteArray) (q : Option (List UInt8)), ris q l = true → ∀ s, s ∈ l → s.size ≤ 32
 | [], _, _, s, hs => by cases hs
 | a :: r, q, h, s, hs => by
  have hk : keyB a = true ∧ ris (some a.toList) r = true := by
   cases q <;> simp only [ris, Bool.and_eq_true] at h
   ·exact h
   ·exact ⟨h.1, h.2.2⟩
  rcases List.mem_cons.1 hs with rfl | hs
  ·have := hk.1
   unfold keyB at this
   simp only [Bool.and_eq_true, decide_eq_true_eq] at this
   exact this.2
  ·exact ris_size r _ hk.2 s hs
theorem listed_small (l7 : List ByteArray) (l8 : List S56) (h : listedB l7 l8 = true) : small l7 ∧ small (wkeys l8) ∧ l7.length ≤ 16 ∧ l8.length ≤ 16 := by
 unfold listedB writesB at h
 simp only [Bool.and_eq_true, decide_eq_true_eq] at h
 obtain ⟨h1, h2, h3, h4, h5⟩ := h
 refine ⟨⟨by omega, fun s hs => ?_⟩, ⟨by unfold wkeys; rw [List.length_map]; omega, fun s hs => ?_⟩, h1, h4⟩
 ·have := ris_size l7 none h2 s hs; omega
 ·have := ris_size _ none h5 s hs; omega
theorem recVR_listed (r : S35) (h : prepB r = true) : listedB r.f7 r.f8 = true := by
 unfold prepB at h
 simp only [Bool.and_eq_true, beq_iff_eq] at h
 obtain ⟨h1, h2⟩ := h
 unfold recVR recV at h2
 split at h2
 ·cases h2
 ·split at h2
  ·rename_i hok
   rw [ok1 h1] at hok
   simp only [Bool.and_eq_true] at hok
   exact hok.1.1
  ·cases h2
theorem prep_small (r : S35) (h : prepB r = true) : smallR r :=
 ⟨(listed_small _ _ (recVR_listed r h)).1, (listed_small _ _ (recVR_listed r h)).2.1⟩
theorem smallB_of (l : List ByteArray) (h : small l) : smallB l = true := by
 unfold smallB
 rw [Bool.and_eq_true, decide_eq_true_eq, List.all_eq_true]
 exact ⟨h.1, fun s hs => by simpa using h.2 s hs⟩
theorem clash_f (a b : S35) (ha : smallR a) (hb : smallR b) : locks_clash.f a.f0 a.f1 a.f2 a.f3 a.f4 a.f5 a.f6 a.f7 a.f8 b.f0 b.f1 b.f2 b.f3 b.f4 b.f5 b.f6 b.f7 b.f8 = some (clashR a b) := by
 unfold locks_clash.f
 rw [if_pos ⟨smallB_of _ ha.1, smallB_of _ ha.2, smallB_of _ hb.1, smallB_of _ hb.2⟩]
 rfl
theorem wrong_zero (l : List S35) (h : wrongV l = 0) : l.length ≤ 256 ∧ ∀ r, r ∈ l → prepB r = true := by
 unfold wrongV at h
 split at h
 ·cases h
 ·rename_i hl
  split at h
  ·rename_i ha
   exact ⟨by omega, fun r hr => List.all_eq_true.1 ha r hr⟩
  ·cases h
end Go.Proofs.Ytaldfbmjmpkmmaa.PL.Lk
