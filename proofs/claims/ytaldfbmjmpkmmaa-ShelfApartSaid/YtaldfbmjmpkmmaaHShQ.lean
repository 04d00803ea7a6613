/- The shelf, plain: each record keeps what a shelf has to be; what is read stays. -/
import Derived.Test.YtaldfbmjmpkmmaaHShP
namespace Go.Proofs.Ytaldfbmjmpkmmaa.PL
open Go.RowKit
set_option linter.unusedVariables false
/-! records -/
theorem okR_all {r : Rec} (h : okR r = 0) : (0 ≤ r.f1 ∧ r.f1 ≤ 1125899906842623) ∧ (0 ≤ r.f2 ∧ r.f2 ≤ 1125899906842624) ∧ recOk r.f0 r.f1 r.f2 r.f3 r.f4 r.f5 r.f6 r.f7 r.f8 = true := by
  unfold okR recV at h
  split at h
  · cases h
  · rename_i hb
    split at h
    · rename_i hk
      unfold rangeBad at hb
      simp only [Bool.or_eq_true, decide_eq_true_eq, not_or] at hb
      exact ⟨by omega, by omega, hk⟩
    · cases h
theorem ris_keys : ∀ (l : List ByteArray) (q : Option (List UInt8)), ris q l = true → ∀ k ∈ l, keyB k = true
  | [], _, _, k, hk => by cases hk
  | s :: r, none, h, k, hk => by
    rw [ris, Bool.and_eq_true] at h
    rcases List.mem_cons.1 hk with rfl | hk
    · exact h.1
    · exact ris_keys r _ h.2 k hk
  | s :: r, some q, h, k, hk => by
    rw [ris, Bool.and_eq_true, Bool.and_eq_true] at h
    rcases List.mem_cons.1 hk with rfl | hk
    · exact h.1
    · exact ris_keys r _ h.2.2 k hk
theorem ris_above : ∀ (l : List ByteArray) (q : List UInt8), ris (some q) l = true → (∀ k ∈ l, Op.bytesLess q (kb k) = true) ∧ l.Pairwise (fun a b => Op.bytesLess (kb a) (kb b) = true)
  | [], _, _ => ⟨by simp, by simp⟩
  | s :: r, q, h => by
    rw [ris, Bool.and_eq_true, Bool.and_eq_true, kb_toList] at h
    obtain ⟨h1, h2⟩ := ris_above r _ h.2.2
    refine ⟨fun k hk => ?_, List.pairwise_cons.2 ⟨h1, h2⟩⟩
    rcases List.mem_cons.1 hk with rfl | hk
    · exact h.2.1
    · exact kl_trans h.2.1 (h1 k hk)
theorem rising_pair {l : List ByteArray} (h : risingB l = true) : l.Pairwise (fun a b => Op.bytesLess (kb a) (kb b) = true) := by
  cases l with
  | nil => simp
  | cons s r =>
    unfold risingB at h
    rw [ris, Bool.and_eq_true, kb_toList] at h
    obtain ⟨h1, h2⟩ := ris_above r _ h.2
    exact List.pairwise_cons.2 ⟨h1, h2⟩
theorem key_size {s : ByteArray} (h : keyB s = true) : s.size ≤ 32 := by
  unfold keyB at h
  rw [Bool.and_eq_true] at h
  exact of_decide_eq_true h.2
structure ListsOk (r : Rec) : Prop where
  few7 : r.f7.length ≤ 16
  few8 : r.f8.length ≤ 16
  key7 : ∀ k ∈ r.f7, keyB k = true
  key8 : ∀ w ∈ r.f8, keyB w.f0 = true
  rise7 : r.f7.Pairwise (fun a b => Op.bytesLess (kb a) (kb b) = true)
  rise8 : r.f8.Pairwise (fun a b => Op.bytesLess (wkey a) (wkey b) = true)
  shard : ∀ w ∈ r.f8, w.f1.size ≤ 2052 ∧ (w.f2 = true → w.f1.toList = [])
theorem ListsOk.apart {r : Rec} (h : ListsOk r) : (r.f8.map wkey).Nodup := List.pairwise_map.2 (h.rise8.imp (fun h => kl_ne h))
theorem prep_lists {r : Rec} (h0 : r.f0 = 1) (h : okR r = 0) : ListsOk r ∧ 0 < r.f1 := by
  have h2 := (okR_all h).2.2
  unfold recOk at h2
  rw [if_pos h0, Bool.and_eq_true, Bool.and_eq_true] at h2
  obtain ⟨⟨hl, ht⟩, _⟩ := h2
  unfold listedB writesB at hl
  simp only [Bool.and_eq_true, decide_eq_true_eq, List.all_eq_true] at hl
  obtain ⟨a1, a2, a3, a4, a5⟩ := hl
  refine ⟨⟨a1, a4, ris_keys _ _ a2, fun w hw => ris_keys _ _ a5 _ (List.mem_map.2 ⟨w, hw, rfl⟩), rising_pair a2, List.pairwise_map.1 (rising_pair a5), fun w hw => ?_⟩, of_decide_eq_true ht⟩
  have := a3 w hw
  unfold shardB at this
  rw [Bool.and_eq_true, decide_eq_true_eq] at this
  refine ⟨this.1, fun hd => ?_⟩
  have h3 := this.2
  rw [hd] at h3
  simpa using h3
theorem do_facts {r : Rec} (h0 : r.f0 = 2) (h : okR r = 0) : 0 < r.f1 := by
  have h2 := (okR_all h).2.2
  unfold recOk at h2
  rw [if_neg (by omega), if_pos h0] at h2
  simp only [Bool.and_eq_true, decide_eq_true_eq] at h2
  exact h2.2.1
theorem ver_facts {r : Rec} (h0 : r.f0 = 3) (h : okR r = 0) : 0 < r.f2 ∧ keyB r.f4 = true ∧ r.f5.size ≤ 2052 ∧ (r.f6 = true → r.f5.toList = []) := by
  have h2 := (okR_all h).2.2
  unfold recOk at h2
  rw [if_neg (by omega), if_neg (by omega), if_neg (by omega), if_neg (by omega), if_pos h0] at h2
  simp only [Bool.and_eq_true, decide_eq_true_eq] at h2
  obtain ⟨_, h3, h4, h5, h6, _⟩ := h2
  refine ⟨h3, h4, h5, fun hd => ?_⟩
  rw [hd] at h6
  simpa using h6
/-! what a shelf has to be -/
/-- What a shelf's lists have to be. -/
structure ShOk (s : Sh) : Prop where
  keys : KOk s.K
  rise : s.P.Pairwise (fun a b => a.f1 < b.f1)
  few : s.P.length ≤ 1024
  recs : ∀ r ∈ s.P, r.f0 = 1 ∧ okR r = 0
  ends : s.E.length ≤ 1025
  over : 0 ≤ s.over ∧ s.over ≤ 1125899906842624
theorem sh0_ok : ShOk sh0 := ⟨KOk.nil, by simp [sh0], by simp [sh0], by simp [sh0], by simp [sh0], by simp [sh0]⟩
theorem state_cases (s : Sh) (t : Int) : (s.P.any (fun r => decide (r.f1 = t)) = true ∧ stateV s t = (1, 0)) ∨ (s.P.any (fun r => decide (r.f1 = t)) = false ∧
    ((s.E.find? (fun e => decide (e.1 = t)) = none ∧ stateV s t = (0, 0)) ∨ ∃ e, s.E.find? (fun e => decide (e.1 = t)) = some e ∧ ((e.2 = 0 ∧ stateV s t = (3, 0)) ∨ (e.2 ≠ 0 ∧ stateV s t = (2, e.2))))) := by
  unfold stateV
  cases hp : s.P.any (fun r => decide (r.f1 = t)) with
  | true => exact .inl ⟨rfl, rfl⟩
  | false =>
    refine .inr ⟨rfl, ?_⟩
    cases he : s.E.find? (fun e => decide (e.1 = t)) with
    | none => exact .inl ⟨rfl, rfl⟩
    | some e =>
      refine .inr ⟨e, rfl, ?_⟩
      by_cases h0 : e.2 = 0
      · exact .inl ⟨h0, by simp [h0]⟩
      · exact .inr ⟨h0, by simp [h0]⟩
theorem state_zero {s : Sh} {t : Int} (h : ¬ 0 < (stateV s t).1) : (∀ r ∈ s.P, r.f1 ≠ t) ∧ s.E.find? (fun e => decide (e.1 = t)) = none := by
  rcases state_cases s t with ⟨_, h2⟩ | ⟨h1, ⟨h2, h3⟩ | ⟨e, h2, ⟨_, h3⟩ | ⟨_, h3⟩⟩⟩
  · rw [h2] at h; simp at h
  · exact ⟨fun r hr e => by
      have := List.any_eq_false.1 h1 r hr
      exact this (decide_eq_true e), h2⟩
  · rw [h3] at h; simp at h
  · rw [h3] at h; simp at h
theorem pput_mem (r x : Rec) : ∀ l : List Rec, x ∈ pput l r ↔ x = r ∨ x ∈ l
  | [] => by simp [pput]
  | y :: l => by
    unfold pput
    split
    · rw [List.mem_cons, pput_mem r x l, List.mem_cons]
      constructor
      · rintro (h | h | h)
        · exact .inr (.inl h)
        · exact .inl h
        · exact .inr (.inr h)
      · rintro (h | h | h)
        · exact .inr (.inl h)
        · exact .inl h
        · exact .inr (.inr h)
    · rw [List.mem_cons]
theorem pput_len (r : Rec) : ∀ l : List Rec, (pput l r).length = l.length + 1
  | [] => rfl
  | y :: l => by
    unfold pput
    split
    · rw [List.length_cons, pput_len r l, List.length_cons]
    · rfl
theorem pput_rise (r : Rec) : ∀ {l : List Rec}, l.Pairwise (fun a b => a.f1 < b.f1) → (∀ x ∈ l, x.f1 ≠ r.f1) → (pput l r).Pairwise (fun a b => a.f1 < b.f1)
  | [], _, _ => by simp [pput]
  | y :: l, h, hn => by
    obtain ⟨h1, h2⟩ := List.pairwise_cons.1 h
    unfold pput
    split
    · rename_i hlt
      refine List.pairwise_cons.2 ⟨fun x hx => ?_, pput_rise r h2 (fun x hx => hn x (List.mem_cons_of_mem _ hx))⟩
      rcases (pput_mem r x l).1 hx with rfl | hx
      · exact hlt
      · exact h1 x hx
    · rename_i hlt
      have hy := hn y List.mem_cons_self
      refine List.pairwise_cons.2 ⟨fun x hx => ?_, h⟩
      rcases List.mem_cons.1 hx with rfl | hx
      · omega
      · have := h1 x hx
        omega
theorem prepV_ok {s : Sh} {r : Rec} (h : ShOk s) (h0 : r.f0 = 1) (hr : okR r = 0) : ShOk (prepV s r).2 := by
  unfold prepV
  split
  · exact h
  · rename_i hs
    split
    · exact h
    · split
      · exact h
      · rename_i hl
        refine ⟨h.keys, pput_rise r h.rise (state_zero hs).1, ?_, fun x hx => ?_, h.ends, h.over⟩
        · show (pput s.P r).length ≤ 1024
          rw [pput_len]
          omega
        · rcases (pput_mem r x s.P).1 hx with rfl | hx
          · exact ⟨h0, hr⟩
          · exact h.recs x hx
theorem endE_len {E : List (Int × Int)} {B : Nat} (hB : 1024 ≤ B) (h : E.length ≤ B) (x : Int × Int) : (endE E x).length ≤ B := by
  unfold endE
  split
  · rw [List.length_drop, List.length_append, List.length_singleton]
    omega
  · omega
theorem endV_ok {s : Sh} (h : ShOk s) (t ts : Int) : ShOk (endV s t ts) :=
  ⟨h.keys, h.rise.filter _, Nat.le_trans (List.length_filter_le _ _) h.few, fun r hr => h.recs r (List.mem_filter.1 hr).1, endE_len (by omega) h.ends _, h.over⟩
theorem room_put {s : Sh} {l : List Wr} {ts : Int} (h0 : roomV s l ts = 0) (hts : 1 ≤ ts ∧ ts ≤ 1125899906842624) (ha : (l.map wkey).Nodup) (hs : ∀ w ∈ l, w.f1.size ≤ 2052 ∧ (w.f2 = true → w.f1.toList = [])) : PutOk s.K l ts := by
  unfold roomV at h0
  split at h0
  · cases h0
  · rename_i hl
    refine ⟨ha, fun w hw => ?_, fun w hw => ⟨hts.1, hts.2, (hs w hw).1, (hs w hw).2⟩, h0⟩
    have : ¬ ts ≤ lastV (look s.K (wkey w)) := fun hc => hl (List.any_eq_true.2 ⟨w, hw, decide_eq_true hc⟩)
    omega
theorem writesOf_some {s : Sh} {t : Int} (h : (stateV s t).1 = 1) : ∃ r ∈ s.P, r.f1 = t ∧ writesOf s t = r.f8 := by
  unfold writesOf
  cases hf : s.P.find? (fun r => decide (r.f1 = t)) with
  | none =>
    rcases state_cases s t with ⟨h1, _⟩ | ⟨_, ⟨_, h3⟩ | ⟨e, _, ⟨_, h3⟩ | ⟨_, h3⟩⟩⟩
    · obtain ⟨r, hr, hrt⟩ := List.any_eq_true.1 h1
      exact absurd hrt (List.find?_eq_none.1 hf r hr)
    · rw [h3] at h; cases h
    · rw [h3] at h; cases h
    · rw [h3] at h; cases h
  | some r => exact ⟨r, List.mem_of_find?_eq_some hf, of_decide_eq_true (by simpa using List.find?_some hf), rfl⟩
theorem do_put {s : Sh} (h : ShOk s) {t ts : Int} (hts : 0 < ts ∧ ts ≤ 1125899906842624) (h1 : (stateV s t).1 = 1) (h0 : roomV s (writesOf s t) ts = 0) : PutOk s.K (writesOf s t) ts := by
  obtain ⟨r, hr, _, e⟩ := writesOf_some h1
  obtain ⟨hl, _⟩ := prep_lists (h.recs r hr).1 (h.recs r hr).2
  exact room_put h0 (by omega) (by rw [e]; exact hl.apart) (by rw [e]; exact hl.shard)
theorem doV_ok {s : Sh} (h : ShOk s) {t ts : Int} (hts : 0 ≤ ts ∧ ts ≤ 1125899906842624) : ShOk (doV s t ts).2 := by
  unfold doV
  split
  · exact h
  · split
    · exact h
    · split
      · rename_i hc
        split
        · rename_i h0
          have hp := do_put h (by omega) hc.1 h0
          exact endV_ok (s := { s with K := putV s.K (writesOf s t) ts }) ⟨putV_ok _ h.keys hp, h.rise, h.few, h.recs, h.ends, h.over⟩ t ts
        · exact h
      · exact endV_ok h t ts
theorem sweepV_ok {s : Sh} (h : ShOk s) {t : Int} (ht : t ≤ 1125899906842624) : ShOk (sweepV s t).2 := by
  unfold sweepV
  split
  · exact h
  · exact ⟨h.keys.sweep t, h.rise, h.few, h.recs, h.ends, ⟨by have := h.over; show 0 ≤ t; omega, ht⟩⟩
theorem ver_put {s : Sh} {r : Rec} (h0 : r.f0 = 3) (hr : okR r = 0) (hm : roomV s [verW r] r.f2 = 0) : PutOk s.K [verW r] r.f2 := by
  obtain ⟨h1, h2, h3, h4⟩ := ver_facts h0 hr
  exact room_put hm (by have := (okR_all hr).2.1; omega) (by simp) (fun w hw => by rw [List.mem_singleton.1 hw]; exact ⟨h3, h4⟩)
theorem applyV_ok {s : Sh} (h : ShOk s) (r : Rec) : ShOk (applyV s r).2 := by
  unfold applyV
  split
  · rename_i hr
    split
    · rename_i h0
      exact prepV_ok h h0 hr
    · split
      · exact doV_ok h (okR_all hr).2.1
      · split
        · exact sweepV_ok h (okR_all hr).2.1.2
        · split
          · rename_i h0
            split
            · rename_i hm
              exact ⟨putV_ok _ h.keys (ver_put h0 hr hm), h.rise, h.few, h.recs, h.ends, h.over⟩
            · exact h
          · exact h
  · exact h
theorem applyV_ends {s : Sh} (h : s.E.length ≤ 1024) (r : Rec) : (applyV s r).2.E.length ≤ 1024 := by
  unfold applyV
  split
  · split
    · unfold prepV
      split
      · exact h
      · split
        · exact h
        · split
          · exact h
          · exact h
    · split
      · unfold doV
        split
        · exact h
        · split
          · exact h
          · split
            · split
              · exact endE_len (Nat.le_refl _) h _
              · exact h
            · exact endE_len (Nat.le_refl _) h _
      · split
        · unfold sweepV
          split
          · exact h
          · exact h
        · split
          · split
            · exact h
            · exact h
          · exact h
  · exact h
theorem fold_ends : ∀ (l : List Rec) {s : Sh}, s.E.length ≤ 1024 → (l.foldl (fun s r => (applyV s r).2) s).E.length ≤ 1024
  | [], _, h => h
  | r :: l, _, h => fold_ends l (applyV_ends h r)
theorem madeV_ends (l : List Rec) : (madeV l).E.length ≤ 1024 := fold_ends _ (by simp [sh0])
theorem fold_ok : ∀ (l : List Rec) {s : Sh}, ShOk s → ShOk (l.foldl (fun s r => (applyV s r).2) s)
  | [], _, h => h
  | r :: l, _, h => fold_ok l (applyV_ok h r)
theorem madeV_ok (l : List Rec) : ShOk (madeV l) := fold_ok _ sh0_ok
/-! what is read stays -/
/-- What is read of a time: as it was, or what was dead is gone. -/
def Stays (s : Sh) (k : Key) (t : Int) (x : Ver × Bool) : Prop := s.over ≤ t ∧ (atV (look s.K k) t = x ∨ (x.2 = true ∧ x.1.f2 = true ∧ atV (look s.K k) t = (zVer, false)))
theorem stays_step {s : Sh} (h : ShOk s) {k : Key} {t : Int} {x : Ver × Bool} (hx : Stays s k t x) (r : Rec) (hc : ¬ (r.f0 ≠ 1 ∧ r.f0 ≠ 4 ∧ r.f2 ≠ 0 ∧ r.f2 ≤ t)) (hs : ¬ (r.f0 = 4 ∧ t < r.f2)) : Stays (applyV s r).2 k t x := by
  have hput : ∀ (l : List Wr) (ts : Int), t < ts → ∀ s' : Sh, s'.over = s.over → s'.K = putV s.K l ts → Stays s' k t x := fun l ts hlt s' ho hk => by
    refine ⟨by rw [ho]; exact hx.1, ?_⟩
    rw [hk, put_at l _ _ _ _ hlt]
    exact hx.2
  unfold applyV
  split
  · rename_i hr
    split
    · unfold prepV
      split
      · exact hx
      · split
        · exact hx
        · split
          · exact hx
          · exact hx
    · rename_i h1
      split
      · rename_i h2
        unfold doV
        split
        · exact hx
        · split
          · exact hx
          · split
            · rename_i hd
              split
              · exact hput _ r.f2 (by omega) _ rfl rfl
              · exact hx
            · exact hx
      · split
        · rename_i h4
          unfold sweepV
          split
          · exact hx
          · refine ⟨by show r.f2 ≤ t; omega, ?_⟩
            show atV (look (sweepK s.K r.f2) k) t = x ∨ _
            rw [look_sweep h.keys.rise]
            rcases sweep_at (look s.K k) r.f2 t (by omega) with e | ⟨e1, e2, e3⟩
            · rw [e]
              exact hx.2
            · rcases hx.2 with e | ⟨e4, e5, e6⟩
              · rw [e] at e1 e2
                exact .inr ⟨e1, e2, e3⟩
              · rw [e6] at e1
                cases e1
        · split
          · rename_i h3
            split
            · have := (ver_facts h3 hr).1
              exact hput _ r.f2 (by omega) _ rfl rfl
            · exact hx
          · exact hx
  · exact hx
/-- What is read first. -/
theorem stays_first {s : Sh} {k : Key} {t : Int} (h3 : (readV s k t).1 ≠ 3) (h4 : (readV s k t).1 ≠ 4) : Stays s k t (atV (look s.K k) t) := by
  refine ⟨?_, .inl rfl⟩
  by_cases hc : t < s.over
  · exact absurd (by unfold readV; rw [if_pos hc]) h4
  · omega
theorem readV_at {s : Sh} {k : Key} {t : Int} (h3 : (readV s k t).1 ≠ 3) (h4 : s.over ≤ t) :
    readV s k t = if (atV (look s.K k) t).2 = false then (0, (atV (look s.K k) t).1) else if (atV (look s.K k) t).1.f2 = true then (2, (atV (look s.K k) t).1) else (1, (atV (look s.K k) t).1) := by
  have ho : ¬ t < s.over := by omega
  by_cases hh : heldV s k false = true
  · exact absurd (by unfold readV; rw [if_neg ho, if_pos hh]) h3
  · unfold readV
    rw [if_neg ho, if_neg hh]
/-- .. and is read again. -/
theorem stays_read {s s1 : Sh} {k : Key} {t : Int} (h3 : (readV s k t).1 ≠ 3) (h4 : (readV s k t).1 ≠ 4) (hx : Stays s1 k t (atV (look s.K k) t)) (g3 : (readV s1 k t).1 ≠ 3) : readV s1 k t = readV s k t ∨ ((readV s k t).1 = 2 ∧ (readV s1 k t).1 = 0) := by
  rw [readV_at g3 hx.1, readV_at h3 (stays_first h3 h4).1]
  rcases hx.2 with e | ⟨e1, e2, e3⟩
  · rw [e]
    exact .inl rfl
  · rw [e3, e1, e2]
    exact .inr ⟨by simp, by simp⟩
end Go.Proofs.Ytaldfbmjmpkmmaa.PL
