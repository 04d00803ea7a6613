/- What a torn sector holds. -/
import Derived.Test.YteibcojjbcihbaaHFlushed
namespace Go.Proofs.Yteibcojjbcihbaa.Sec
open Go.RowKit Go.Maps Go.Proofs.Yteibcojjbcihbaa.Mk
set_option linter.unusedVariables false
set_option linter.unusedSimpArgs false
/-- A beginning of t, then the rest of s. -/
def Tear (t s r : List UInt8) : Prop := ∃ n, n ≤ 64 ∧ r = t.take n ++ s.drop n
theorem up_get {ks : List Int} (h : ks.Pairwise (fun a b => a < b)) {i j : Nat} (hi : i < j) (hj : j < ks.length) : ks[i] < ks[j] := List.pairwise_iff_getElem.1 h i j (by omega) hj hi
theorem torn_spec (S : List (List UInt8)) (f : Cache) (ks picks : List Int) (hk : KeysOf ks f) (hr : ∀ i, i ∈ ks → 0 ≤ i ∧ i < S.length) : ∀ j, j ≤ ks.length → ∀ i (hi : i < S.length),
    ∃ r, (torn S f ks picks j)[i]? = some r ∧ (((i : Int) ∈ ks.take j ∧ Tear (textAt f i) S[i] r) ∨ ((i : Int) ∉ ks.take j ∧ r = S[i]))
  | 0, _, i, hi => ⟨S[i], by rw [show torn S f ks picks 0 = S from rfl, List.getElem?_eq_getElem hi], .inr ⟨by simp, rfl⟩⟩
  | j + 1, hj, i, hi => by
    have hjl : j < ks.length := by omega
    obtain ⟨r, h1, h2⟩ := torn_spec S f ks picks hk hr j (by omega) i hi
    have hkj : ks.getD j 0 = ks[j] := rdI ks j hjl
    have hrg := hr ks[j] (List.getElem_mem hjl)
    have htk : ∀ x : Int, x ∈ ks.take (j + 1) ↔ x ∈ ks.take j ∨ x = ks[j] := fun x => by
      rw [List.take_succ_eq_append_getElem hjl, List.mem_append, List.mem_singleton]
    have hnot : ks[j] ∉ ks.take j := fun hm => by
      obtain ⟨i', hi', e⟩ := List.mem_take_iff_getElem.1 hm
      have := up_get hk.up (show i' < j by omega) hjl
      rw [e] at this
      exact Int.lt_irrefl _ this
    unfold torn
    rw [hkj, List.getElem?_set]
    by_cases e : ks[j].toNat = i
    · have ei : ks[j] = (i : Int) := by omega
      rw [if_pos e, if_pos (by rw [torn_len]; omega)]
      have hr0 : r = S[i] := by
        rcases h2 with ⟨h, _⟩ | ⟨_, h⟩
        · exact absurd h (by rw [← ei]; exact hnot)
        · exact h
      have hgd : (torn S f ks picks j).getD ks[j].toNat [] = S[i] := by rw [List.getD_eq_getElem?_getD, e, h1, hr0]; rfl
      refine ⟨_, rfl, .inl ⟨(htk _).2 (.inr ei.symm), pickN (picks.getD j 0), pick_le _, ?_⟩⟩
      rw [hgd, ei]
    · rw [if_neg e]
      refine ⟨r, h1, ?_⟩
      have ei : (i : Int) ≠ ks[j] := by omega
      rcases h2 with ⟨h, ht⟩ | ⟨h, ht⟩
      · exact .inl ⟨(htk _).2 (.inl h), ht⟩
      · exact .inr ⟨fun hm => by rcases (htk _).1 hm with h' | h'; exact h h'; exact ei h', ht⟩
/-- What each sector had, and what was written last: in one array each. -/
structure Both (L1 L2 : List ByteArray) (f : Cache) : Prop where
  at_ : ∀ j (h1 : j < L1.length) (h2 : j < L2.length), f (j : Int) = some L2[j] ∨ (f (j : Int) = none ∧ L2[j] = L1[j])
theorem Both.put {L1 L2 : List ByteArray} {f : Cache} (h : Both L1 L2 f) (p : Nat) (s : ByteArray) : Both L1 (L2.set p s) (cput f (p : Int) s) := by
  refine ⟨fun j h1 h2 => ?_⟩
  rw [List.length_set] at h2
  unfold cput
  rw [List.getElem_set]
  by_cases e : p = j
  · subst e
    rw [if_pos rfl, if_pos rfl]
    exact .inl rfl
  · rw [if_neg (by omega), if_neg e]
    exact h.at_ j h1 h2
def bytesL (L : List ByteArray) : List (List UInt8) := L.map (fun s => s.data.toList)
theorem torn_both {L1 L2 : List ByteArray} {f : Cache} {ks picks : List Int} (h : Both L1 L2 f) (hk : KeysOf ks f) (hl : L1.length = L2.length) (hr : ∀ i s, f i = some s → 0 ≤ i ∧ i < L1.length) (j : Nat) (h1 : j < L1.length) (h2 : j < L2.length) :
    ∃ r, (torn (bytesL L1) f ks picks ks.length)[j]? = some r ∧ Tear L2[j].data.toList L1[j].data.toList r := by
  have hlen : (bytesL L1).length = L1.length := List.length_map _
  have hS : (bytesL L1)[j]'(by rw [hlen]; exact h1) = L1[j].data.toList := by unfold bytesL; rw [List.getElem_map]
  obtain ⟨r, e, hs⟩ := torn_spec (bytesL L1) f ks picks hk (fun i hi => by
    obtain ⟨s, hs⟩ := Option.isSome_iff_exists.1 ((hk.mem i).1 hi)
    have := hr i s hs
    rw [hlen]
    exact this) ks.length (Nat.le_refl _) j (by rw [hlen]; exact h1)
  refine ⟨r, e, ?_⟩
  rw [hS] at hs
  rcases hs with ⟨hm, ht⟩ | ⟨hm, ht⟩
  · rcases h.at_ j h1 h2 with hf | ⟨hf, _⟩
    · unfold textAt at ht
      rw [hf] at ht
      exact ht
    · rw [List.take_length] at hm
      have := (hk.mem _).1 hm
      rw [hf] at this
      cases this
  · exact ⟨0, Nat.zero_le _, by rw [ht]; simp⟩
theorem flushed_all {L : List ByteArray} {f : Cache} {n : Nat} (hL : L.length = n) (h : ∀ j (hj : j < L.length), f (j : Int) = some L[j]) : flushed (List.replicate n (zeros 64)) f = bytesL L := by
  apply List.ext_getElem?
  intro j
  unfold flushed bytesL
  rw [List.getElem?_mapIdx, List.getElem?_replicate, List.getElem?_map]
  by_cases hj : j < n
  · rw [if_pos hj, List.getElem?_eq_getElem (by omega)]
    simp [h j (by omega)]
  · rw [if_neg hj, List.getElem?_eq_none (by omega)]
    rfl
end Go.Proofs.Yteibcojjbcihbaa.Sec
