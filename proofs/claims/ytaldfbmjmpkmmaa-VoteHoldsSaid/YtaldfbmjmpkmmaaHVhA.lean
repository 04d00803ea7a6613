/- VoteHolds, plain. -/
import Derived.Test.YtaldfbmjmpkmmaaHVtC
import Derived.Test.YtaldfbmjmpkmmaaHLtF
import Derived.Test.YtaldfbmjmpkmmaaM4504a7
namespace Go.Proofs.Ytaldfbmjmpkmmaa.PL
open Go.RowKit Go.Proofs.YtaldfbmjmpkmmaaW.PrintWords Go.Proofs.YtaldfbmjmpkmmaaW.PrintLast Go.Proofs.YtaldfbmjmpkmmaaW.PrintMore
set_option linter.unusedVariables false
set_option linter.unusedSimpArgs false
set_option linter.unusedSectionVars false
/-- No two prepared records write the same key. -/
def Excl (s : Sh) : Prop := ∀ a ∈ s.P, ∀ b ∈ s.P, ∀ k, wrote a k = true → wrote b k = true → a.f1 = b.f1
theorem Excl.sub {s t : Sh} (h : Excl s) (hs : ∀ a ∈ t.P, a ∈ s.P) : Excl t := fun a ha b hb k h1 h2 => h a (hs a ha) b (hs b hb) k h1 h2
theorem prep_excl {s : Sh} (h : Excl s) (r : Rec) : Excl (prepV s r).2 := by
  unfold prepV
  split
  · exact h
  · split
    · exact h
    · rename_i hh
      split
      · exact h
      · have hno : ∀ p ∈ s.P, ∀ k, wrote r k = true → wrote p k = true → False := by
          intro p hp k h1 h2
          apply hh
          unfold wrote at h1
          obtain ⟨w, hw, hk⟩ := List.any_eq_true.1 h1
          simp only [beq_iff_eq] at hk
          subst hk
          rw [Bool.or_eq_true]
          right
          refine List.any_eq_true.2 ⟨w, hw, ?_⟩
          unfold heldV
          refine List.any_eq_true.2 ⟨p, hp, ?_⟩
          unfold heldR
          rw [h2]
          rfl
        intro a ha b hb k h1 h2
        simp only at ha hb
        rw [pput_mem] at ha hb
        rcases ha with rfl | ha
        · rcases hb with rfl | hb
          · rfl
          · exact (hno b hb k h1 h2).elim
        · rcases hb with rfl | hb
          · exact (hno a ha k h2 h1).elim
          · exact h a ha b hb k h1 h2
theorem end_excl {s : Sh} (h : Excl s) (t ts : Int) : Excl (endV s t ts) := h.sub (fun a ha => by
  unfold endV at ha
  exact (List.mem_filter.1 ha).1)
theorem do_excl {s : Sh} (h : Excl s) (t ts : Int) : Excl (doV s t ts).2 := by
  unfold doV
  split
  · exact h
  · split
    · exact h
    · split
      · split
        · exact end_excl (h.sub (fun a ha => ha)) t ts
        · exact h
      · exact end_excl h t ts
theorem apply_excl {s : Sh} (h : Excl s) (r : Rec) : Excl (applyV s r).2 := by
  unfold applyV
  split
  · split
    · exact prep_excl h r
    · split
      · exact do_excl h _ _
      · split
        · unfold sweepV
          split
          · exact h
          · exact h.sub (fun a ha => ha)
        · split
          · split
            · exact h.sub (fun a ha => ha)
            · exact h
          · exact h
  · exact h
theorem fold_excl : ∀ (l : List Rec) {s : Sh}, Excl s → Excl (l.foldl (fun s r => (applyV s r).2) s)
  | [], _, h => h
  | r :: l, _, h => fold_excl l (apply_excl h r)
theorem madeV_excl (l : List Rec) : Excl (madeV l) := fold_excl _ (fun a ha => by simp [sh0] at ha)
/-- The record that ends a transaction undone. -/
def undo (t : Int) : Rec := ⟨2, t, 0, 0, ⟨#[]⟩, ⟨#[]⟩, false, [], []⟩
theorem undo_ok {t : Int} (h1 : ¬ t < 1) (h2 : ¬ 1125899906842623 < t) : okR (undo t) = 0 := by
  unfold okR recV undo
  have h0 : rangeBad t 0 0 = false := by
    unfold rangeBad
    simp
    omega
  rw [h0, if_neg (by decide), ok2 rfl]
  have h3 : (0 : Int) < t := by omega
  simp [noneB, bareB, h3]
theorem prep_is {s : Sh} {t : Int} {r : Rec} (h : prepOf s t = some r) : r ∈ s.P ∧ r.f1 = t := by
  unfold prepOf at h
  exact ⟨List.mem_of_find?_eq_some h, by simpa using List.find?_some h⟩
theorem prep_some_any (s : Sh) (t : Int) : (prepOf s t).isSome = s.P.any (fun r => decide (r.f1 = t)) := by
  unfold prepOf
  rw [Bool.eq_iff_iff]
  simp [List.find?_isSome]
theorem tell_prep (s : Sh) (t : Int) : ((tellV s t).1 == 2) = (prepOf s t).isSome := by
  rw [prep_some_any]
  rcases state_cases s t with ⟨h1, h2⟩ | ⟨h1, h2⟩
  · unfold tellV
    rw [h1, h2]
    rfl
  · rw [h1]
    unfold tellV
    rcases h2 with ⟨-, h2⟩ | ⟨e, -, ⟨-, h2⟩ | ⟨-, h2⟩⟩
    · rw [h2]; rfl
    · rw [h2]; rfl
    · rw [h2]; rfl
theorem held_mine {s : Sh} {r : Rec} (h : r ∈ s.P) {w : Wr} (hw : w ∈ r.f8) : heldV s (kb w.f0) false = true := by
  unfold heldV
  refine List.any_eq_true.2 ⟨r, h, ?_⟩
  unfold heldR wrote
  rw [List.any_eq_true.2 ⟨w, hw, by simp⟩]
  rfl
theorem holds_read {s : Sh} {r : Rec} (h : r ∈ s.P) {w : Wr} (hw : w ∈ r.f8) (t : Int) : (readV s (kb w.f0) t).1 = 3 ∨ ((readV s (kb w.f0) t).1 = 4 ∧ t < s.over) := by
  unfold readV
  by_cases ho : t < s.over
  · rw [if_pos ho]
    exact .inr ⟨rfl, ho⟩
  · rw [if_neg ho, held_mine h hw, if_pos rfl]
    exact .inl rfl
theorem undo_apply {s : Sh} {t : Int} (h1 : ¬ t < 1) (h2 : ¬ 1125899906842623 < t) (hp : (prepOf s t).isSome = true) : applyV s (undo t) = (0, endV s t 0) := by
  unfold applyV
  rw [if_pos (undo_ok h1 h2), if_neg (by simp [undo]), if_pos (show (undo t).f0 = 2 from rfl)]
  show doV s t 0 = _
  rw [prep_some_any] at hp
  unfold doV
  have hs : stateV s t = (1, 0) := by unfold stateV; rw [if_pos hp]
  rw [hs]
  rfl
theorem undo_free {s : Sh} (hx : Excl s) {r : Rec} (h : r ∈ s.P) {w : Wr} (hw : w ∈ r.f8) (t : Int) : (readV (endV s r.f1 0) (kb w.f0) t).1 ≠ 3 := by
  have hf : heldV (endV s r.f1 0) (kb w.f0) false = false := by
    cases hh : heldV (endV s r.f1 0) (kb w.f0) false with
    | false => rfl
    | true =>
      exfalso
      unfold heldV at hh
      obtain ⟨p, hp, hk⟩ := List.any_eq_true.1 hh
      unfold endV at hp
      obtain ⟨hp1, hp2⟩ := List.mem_filter.1 hp
      unfold heldR at hk
      rw [Bool.false_and, Bool.or_false] at hk
      have := hx p hp1 r h (kb w.f0) hk (by unfold wrote; exact List.any_eq_true.2 ⟨w, hw, by simp⟩)
      simp [this] at hp2
  unfold readV
  split
  · simp
  · rw [hf, if_neg (by decide)]
    split
    · simp
    · split <;> simp
/-! the letters -/
theorem ask_ok {t : Int} (h1 : ¬ t < 1) (h2 : ¬ 1125899906842623 < t) : mineV 7 1 2 t 0 0 ⟨#[]⟩ [] [] 7 2 = 0 := by
  have hd1 : decide (t < 1) = false := decide_eq_false h1
  have hd2 : decide (1125899906842623 < t) = false := decide_eq_false h2
  have hh : headB 1 2 t 0 0 = true := by
    unfold headB
    rw [hd1, hd2]
    rfl
  have hl : letV 7 1 2 t 0 0 ⟨#[]⟩ [] [] = 0 := by
    have hr : (kindB 7 && restB 7 0 ⟨#[]⟩ [] []) = true := by kernel_rfl
    unfold letV letB
    rw [hh, hr]
    rfl
  unfold mineV
  rw [if_pos ⟨hl, rfl, rfl⟩]
theorem read_ok {t : Int} (h1 : ¬ t < 0) (h2 : ¬ 1125899906842624 < t) {x : ByteArray} (hx : keyB x = true) : mineV 1 100 0 7 t 0 ⟨#[]⟩ [x] [] 1 0 = 0 := by
  have hd1 : decide (t < 0) = false := decide_eq_false h1
  have hd2 : decide (1125899906842624 < t) = false := decide_eq_false h2
  have hh : headB 100 0 7 t 0 = true := by
    unfold headB
    rw [hd1, hd2]
    rfl
  have hk : keysV 1 [x] = true := by
    unfold keysV
    rw [if_pos (.inr rfl)]
    exact hx
  have hl : letV 1 100 0 7 t 0 ⟨#[]⟩ [x] [] = 0 := by
    have hr : (!decide (mostV 1 < 0)) = true := by kernel_rfl
    have h8 : (writV 1 [] && textV 1 0 ⟨#[]⟩) = true := by kernel_rfl
    have h1 : kindB 1 = true := by kernel_rfl
    unfold letV letB restB
    rw [hh, hk, hr, h8, h1]
    rfl
  unfold mineV
  rw [if_pos ⟨hl, rfl, rfl⟩]
theorem wr_key {s : Sh} (hs : ShOk s) {r : Rec} (h : r ∈ s.P) {w : Wr} (hw : w ∈ r.f8) : keyB w.f0 = true := (prep_lists (hs.recs r h).1 (hs.recs r h).2).1.key8 w hw
end Go.Proofs.Ytaldfbmjmpkmmaa.PL
