/- Those that are admitted: as a list of records; they are quiet together. -/
import Derived.Test.YtpfhdgacjeklaaaHBlock
namespace Go.Proofs.Ytpfhdgacjeklaaa.PLocks
open Go.RowKit Go.Proofs.YtpfhdgacjeklaaaW.PrintWords Go.Maps Mk
set_option linter.unusedVariables false
set_option linter.unusedSimpArgs false

def someTo (l : List S25) (k : Nat) : List S25 := (admitTo l k).map (rd_T25 l)
def clashes (s : List S25) (r : S25) : Bool := s.any (fun x => clashR x r)
theorem some_any (l : List S25) (k : Nat) (r : S25) : (admitTo l k).any (fun j => clashR (rd_T25 l j) r) = clashes (someTo l k) r := by
  unfold clashes someTo
  rw [List.any_map]
  rfl
theorem admit_succ (l : List S25) (k : Nat) : admitTo l (k + 1) = if clashes (someTo l k) (rd_T25 l (k : Int)) = true then admitTo l k else admitTo l k ++ [(k : Int)] := by
  rw [← some_any]; rfl
theorem some_succ (l : List S25) (k : Nat) : someTo l (k + 1) = if clashes (someTo l k) (rd_T25 l (k : Int)) = true then someTo l k else someTo l k ++ [rd_T25 l (k : Int)] := by
  show (admitTo l (k + 1)).map (rd_T25 l) = _
  rw [admit_succ]
  split
  · rfl
  · rw [List.map_append]; rfl
theorem some_len (l : List S25) (k : Nat) : (someTo l k).length = (admitTo l k).length := by simp [someTo]
theorem some_mem (l : List S25) (k : Nat) (hk : k ≤ l.length) (x : S25) (h : x ∈ someTo l k) : x ∈ l := by
  unfold someTo at h
  obtain ⟨j, hj, rfl⟩ := List.mem_map.1 h
  have := admitTo_mem l k j hj
  obtain ⟨n, rfl⟩ : ∃ n : Nat, j = (n : Int) := ⟨j.toNat, by omega⟩
  rw [rd25_nat l n (by omega)]
  exact List.getElem_mem _
def Calm (s : List S25) : Prop := s.Pairwise (fun a b => clashR a b = false)
theorem some_calm (l : List S25) : ∀ k, Calm (someTo l k)
  | 0 => List.Pairwise.nil
  | k + 1 => by
    rw [some_succ]
    split
    · exact some_calm l k
    · rename_i h
      refine List.pairwise_append.2 ⟨some_calm l k, List.pairwise_singleton _ _, ?_⟩
      intro a ha b hb
      rw [List.mem_singleton.1 hb]
      have h2 : clashes (someTo l k) (rd_T25 l (k : Int)) = false := by simpa using h
      unfold clashes at h2
      rw [List.any_eq_false] at h2
      simpa using h2 a ha
theorem calm_admit (s : List S25) (h : Calm s) : ∀ k, k ≤ s.length → admitTo s k = (List.range k).map (fun n => ((n : Nat) : Int))
  | 0, _ => rfl
  | k + 1, hk => by
    have ih := calm_admit s h k (by omega)
    have hno : (admitTo s k).any (fun j => clashR (rd_T25 s j) (rd_T25 s (k : Int))) = false := by
      rw [List.any_eq_false]
      intro j hj
      rw [ih] at hj
      obtain ⟨n, hn, rfl⟩ := List.mem_map.1 hj
      have hn' := List.mem_range.1 hn
      rw [rd25_nat s n (by omega), rd25_nat s k (by omega)]
      have := (List.pairwise_iff_getElem.1 h) n k (by omega) (by omega) hn'
      simpa using this
    show (if (admitTo s k).any (fun j => clashR (rd_T25 s j) (rd_T25 s (k : Int))) = true then admitTo s k else admitTo s k ++ [(k : Int)]) = _
    rw [hno, if_neg (by decide), ih, List.range_succ, List.map_append]
    rfl
theorem wrong_none (s : List S25) (hl : s.length ≤ 256) (h : ∀ x, x ∈ s → prepB x = true) : wrongV s = 0 := by
  unfold wrongV
  rw [if_neg (by omega), if_pos (List.all_eq_true.2 h)]
theorem calm_quiet (s : List S25) (hl : s.length ≤ 256) (h : ∀ x, x ∈ s → prepB x = true) (hc : Calm s) : quietV s = (true, 0) := by
  have ha : admitV s = (admitTo s s.length, 0) := by unfold admitV; rw [if_pos (wrong_none s hl h)]
  unfold quietV
  rw [ha, calm_admit s hc s.length (Nat.le_refl _)]
  simp
theorem block_any (s : List S25) (r : S25) : ∀ k, k ≤ s.length → (blockTo s r k = [] ↔ ∀ n, n < k → clashR (rd_T25 s (n : Int)) r = false)
  | 0, _ => by simp [blockTo]
  | k + 1, hk => by
    have ih := block_any s r k (by omega)
    unfold blockTo
    split
    · rename_i h
      constructor
      · intro h2; simp at h2
      · intro h2
        rw [h2 k (by omega)] at h
        cases h
    · rename_i h
      rw [ih]
      constructor
      · intro h2 n hn
        by_cases e : n = k
        · subst e; simpa using h
        · exact h2 n (by omega)
      · intro h2 n hn
        exact h2 n (by omega)
theorem block_some (s : List S25) (r : S25) (h : clashes s r = true) : blockTo s r s.length ≠ [] := by
  intro h2
  rw [block_any s r s.length (Nat.le_refl _)] at h2
  unfold clashes at h
  obtain ⟨x, hx, hc⟩ := List.any_eq_true.1 h
  obtain ⟨n, hn, rfl⟩ := List.getElem_of_mem hx
  have := h2 n hn
  rw [rd25_nat s n hn, hc] at this
  cases this
theorem admit_prefix (l : List S25) : ∀ (n k : Nat), k ≤ n → ∃ rest, admitTo l n = admitTo l k ++ rest ∧ ∀ j, j ∈ rest → (k : Int) ≤ j
  | 0, k, h => ⟨[], by obtain rfl : k = 0 := by omega
                       simp, fun j hj => by cases hj⟩
  | n + 1, k, h => by
    by_cases e : k = n + 1
    · subst e
      exact ⟨[], by simp, fun j hj => by cases hj⟩
    · obtain ⟨rest, hr, hm⟩ := admit_prefix l n k (by omega)
      rw [admit_succ]
      split
      · exact ⟨rest, hr, hm⟩
      · refine ⟨rest ++ [(n : Int)], by rw [hr, List.append_assoc], ?_⟩
        intro j hj
        rcases List.mem_append.1 hj with hj | hj
        · exact hm j hj
        · rw [List.mem_singleton.1 hj]; omega
/-- Is record k the next one that is admitted? -/
theorem admit_at (l : List S25) (n k : Nat) (hk : k < n) :
    (clashes (someTo l k) (rd_T25 l (k : Int)) = false → (admitTo l k).length < (admitTo l n).length ∧ (admitTo l n)[(admitTo l k).length]? = some (k : Int)) ∧
    (clashes (someTo l k) (rd_T25 l (k : Int)) = true → ∀ j, (admitTo l n)[(admitTo l k).length]? = some j → j ≠ (k : Int)) := by
  obtain ⟨rest, hr, hm⟩ := admit_prefix l n (k + 1) (by omega)
  rw [admit_succ] at hr
  constructor
  · intro h
    rw [h, if_neg (by decide)] at hr
    rw [hr]
    constructor
    · simp
    · simp
  · intro h j hj
    rw [h, if_pos rfl] at hr
    rw [hr, List.getElem?_append_right (Nat.le_refl _), Nat.sub_self] at hj
    have := hm j (List.mem_of_getElem? hj)
    omega
end Go.Proofs.Ytpfhdgacjeklaaa.PLocks
