/- LocksGrow, the plain part: a list with one record more. -/
import Derived.Test.YtaldfbmjmpkmmaaHKeys
import Derived.Test.YtaldfbmjmpkmmaaHMapL
namespace Go.Proofs.Ytaldfbmjmpkmmaa.PL.Lk
open Go Go.Proofs.Ytaldfbmjmpkmmaa.PL Go.RowKit Go.Proofs.YtaldfbmjmpkmmaaW.PrintWords Go.Maps Mk
set_option linter.unusedVariables false
theorem rd_app (l : List S35) (r : S35) (j : Nat) (h : j < l.length) : rd_T35 (l ++ [r]) (j : Int) = rd_T35 l (j : Int) := by
  rw [rd25_nat _ j (by simp; omega), rd25_nat l j h, List.getElem_append_left h]
theorem admit_app (l : List S35) (r : S35) : ∀ k, k ≤ l.length → admitTo (l ++ [r]) k = admitTo l k
  | 0, _ => rfl
  | k + 1, h => by
    have ih := admit_app l r k (by omega)
    unfold admitTo
    rw [ih, rd_app l r k (by omega)]
    have he : ∀ j ∈ admitTo l k, clashR (rd_T35 (l ++ [r]) j) (rd_T35 l (k : Int)) = clashR (rd_T35 l j) (rd_T35 l (k : Int)) := fun j hj => by
      have := admitTo_mem l k j hj
      obtain ⟨n, rfl⟩ : ∃ n : Nat, j = (n : Int) := ⟨j.toNat, by omega⟩
      rw [rd_app l r n (by omega)]
    have ha : (admitTo l k).any (fun j => clashR (rd_T35 (l ++ [r]) j) (rd_T35 l (k : Int))) = (admitTo l k).any (fun j => clashR (rd_T35 l j) (rd_T35 l (k : Int))) := by
      rw [Bool.eq_iff_iff, List.any_eq_true, List.any_eq_true]
      exact ⟨fun ⟨j, hj, h⟩ => ⟨j, hj, (he j hj) ▸ h⟩, fun ⟨j, hj, h⟩ => ⟨j, hj, (he j hj).symm ▸ h⟩⟩
    rw [ha]
theorem admit_grow (l : List S35) (r : S35) : ∃ rest, admitTo (l ++ [r]) (l ++ [r]).length = admitTo l l.length ++ rest := by
  have hl : (l ++ [r]).length = l.length + 1 := by simp
  rw [hl]
  have h := admit_app l r l.length (Nat.le_refl _)
  have e : admitTo (l ++ [r]) (l.length + 1) = if (admitTo (l ++ [r]) l.length).any (fun j => clashR (rd_T35 (l ++ [r]) j) (rd_T35 (l ++ [r]) (l.length : Int))) = true then admitTo (l ++ [r]) l.length else admitTo (l ++ [r]) l.length ++ [(l.length : Int)] := rfl
  rw [e, h]
  split
  · exact ⟨[], by simp⟩
  · exact ⟨_, rfl⟩
theorem wrong_small (l : List S35) (hl : l.length ≤ 256) : wrongV l = if l.all prepB = true then 0 else 80 := by
  unfold wrongV
  rw [if_neg (by omega)]
theorem wrong_grow (l : List S35) (r : S35) (hl : l.length ≤ 200) (h : wrongV l ≠ 0) : wrongV (l ++ [r]) = wrongV l := by
  have hl2 : (l ++ [r]).length ≤ 256 := by rw [List.length_append, List.length_singleton]; omega
  rw [wrong_small l (by omega)] at h ⊢
  rw [wrong_small _ hl2]
  by_cases ha : l.all prepB = true
  · rw [if_pos ha] at h; exact absurd rfl h
  · rw [if_neg ha, if_neg (by rw [List.all_append, Bool.and_eq_true]; exact fun h => ha h.1)]
theorem wrong_one (l : List S35) (r : S35) (h : wrongV (l ++ [r]) = 0) : wrongV [r] = 0 := by
  have h2 := (wrong_zero _ h).2
  rw [wrong_small _ (by simp), if_pos (by simpa using h2 r (by simp))]
def kl (l : List S35) : List (List UInt8) := uniq (strs (l.flatMap recKeys))
theorem kl_mem (l : List S35) (x : List UInt8) : x ∈ kl l ↔ ∃ a ∈ l, x ∈ strs (recKeys a) := by
  unfold kl strs
  rw [mem_uniq, List.mem_map]
  constructor
  · rintro ⟨s, hs, rfl⟩
    obtain ⟨a, ha, hs⟩ := List.mem_flatMap.1 hs
    exact ⟨a, ha, List.mem_map.2 ⟨s, hs, rfl⟩⟩
  · rintro ⟨a, ha, hs⟩
    obtain ⟨s, hs2, rfl⟩ := List.mem_map.1 hs
    exact ⟨s, List.mem_flatMap.2 ⟨a, ha, hs2⟩, rfl⟩
theorem kl_grow (l : List S35) (r : S35) : uniq (kl l ++ kl [r]) = kl (l ++ [r]) := by
  refine up_ext (up_uniq _) (up_uniq _) (fun x => ?_)
  show x ∈ uniq (kl l ++ kl [r]) ↔ x ∈ kl (l ++ [r])
  rw [mem_uniq, List.mem_append, kl_mem, kl_mem, kl_mem]
  constructor
  · rintro (⟨a, ha, h⟩ | ⟨a, ha, h⟩)
    · exact ⟨a, List.mem_append_left _ ha, h⟩
    · exact ⟨a, List.mem_append_right _ ha, h⟩
  · rintro ⟨a, ha, h⟩
    rcases List.mem_append.1 ha with ha | ha
    · exact .inl ⟨a, ha, h⟩
    · exact .inr ⟨a, ha, h⟩
theorem keys_zero (l : List S35) (h : wrongV l = 0) : keysV l = (bytesOfL (kl l), 0) := by unfold keysV kl; rw [if_pos h]
theorem admit_zero (l : List S35) (h : wrongV l = 0) : admitV l = (admitTo l l.length, 0) := by unfold admitV; rw [if_pos h]
theorem kl_len (l : List S35) (h : wrongV l = 0) : (kl l).length ≤ 100000 := by
  have h1 := wrong_zero l h
  have h2 := uniq_len (strs (l.flatMap recKeys))
  have h3 : (strs (l.flatMap recKeys)).length ≤ 32 * l.length := by
    rw [strs_len]
    have : ∀ (m : List S35), (∀ r, r ∈ m → prepB r = true) → (m.flatMap recKeys).length ≤ 32 * m.length := fun m => by
      induction m with
      | nil => intro _; simp
      | cons a m ih =>
        intro hm
        have ha := prep_len a (hm a List.mem_cons_self)
        have := ih (fun r hr => hm r (List.mem_cons_of_mem _ hr))
        rw [List.flatMap_cons, List.length_append, List.length_cons]
        have h5 : (recKeys a).length ≤ 32 := by
          unfold recKeys wkeys
          rw [List.length_append, List.length_map]
          omega
        omega
    exact this l h1.2
  have h4 := h1.1
  unfold kl
  omega
/-! The set of the keys, as a map to true. -/
def litOf (k : List UInt8) : Lit := .string k
theorem lit_self (k : List UInt8) : (litOf k).sameKey (litOf k) = true := by simp [litOf, Lit.sameKey]
def inF (ks : List (List UInt8)) (q : Lit) : Bool := ks.any (fun k => q.sameKey (litOf k))
def setF (ks : List (List UInt8)) : Lit → Option Value := fun q => if inF ks q = true then some (.bool true) else none
theorem setF_nil : setF [] = fun _ => none := by funext q; rfl
theorem setF_put (ks : List (List UInt8)) (k : List UInt8) : lput (setF ks) (litOf k) (.bool true) = setF (ks ++ [k]) := by
  funext q
  have e : inF (ks ++ [k]) q = (inF ks q || q.sameKey (litOf k)) := by simp [inF]
  unfold lput setF
  rw [e]
  by_cases h : q.sameKey (litOf k) = true
  · rw [if_pos h, h, Bool.or_true, if_pos rfl]
  · rw [if_neg h, Bool.eq_false_iff.2 h, Bool.or_false]
theorem inF_iff (ks : List (List UInt8)) (q : Lit) : inF ks q = true ↔ ∃ k ∈ ks, q = litOf k := by
  unfold inF
  rw [List.any_eq_true]
  constructor
  · rintro ⟨k, hk, h⟩
    exact ⟨k, hk, WideAt.sameKey_eq h⟩
  · rintro ⟨k, hk, rfl⟩
    exact ⟨k, hk, lit_self k⟩
theorem setF_has (ks : List (List UInt8)) (k : List UInt8) (h : k ∈ ks) : setF ks (litOf k) = some (.bool true) := by
  unfold setF
  rw [if_pos ((inF_iff ks _).2 ⟨k, h, rfl⟩)]
theorem lit_inj {a b : List UInt8} (h : litOf a = litOf b) : a = b := by
  unfold litOf at h
  injection h
theorem setF_nodup (ks : List (List UInt8)) : ((uniq ks).map litOf).Nodup := List.Pairwise.map _ (fun a b hab e => hab (lit_inj e)) (up_nodup (up_uniq ks))
theorem setF_iff (ks : List (List UInt8)) (q : Lit) : (setF ks q).isSome = true ↔ q ∈ (uniq ks).map litOf := by
  have e : (setF ks q).isSome = inF ks q := by
    unfold setF
    cases inF ks q <;> rfl
  rw [e, inF_iff, List.mem_map]
  constructor
  · rintro ⟨k, hk, rfl⟩
    exact ⟨k, (mem_uniq ks k).2 hk, rfl⟩
  · rintro ⟨k, hk, rfl⟩
    exact ⟨k, (mem_uniq ks k).1 hk, rfl⟩
end Go.Proofs.Ytaldfbmjmpkmmaa.PL.Lk
