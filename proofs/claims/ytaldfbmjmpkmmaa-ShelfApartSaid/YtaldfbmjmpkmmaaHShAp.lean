/- ShelfApart: the plain law; what is known in its loops. -/
import Derived.Test.YtaldfbmjmpkmmaaHShO
import Derived.Test.YtaldfbmjmpkmmaaHShNa
namespace Go.Proofs.Ytaldfbmjmpkmmaa.PL
open Go.RowKit Go.Proofs.YtaldfbmjmpkmmaaW.PrintWords Go.Proofs.YtaldfbmjmpkmmaaW.PrintLast Go.Proofs.YtaldfbmjmpkmmaaW.PrintMore Go.Shelf Go.Maps Go.WideMaps Go.Proofs.Ytaldfbmjmpkmmaa.Mk
set_option linter.unusedVariables false
set_option linter.unusedSimpArgs false
set_option linter.unusedSectionVars false
/-- Prepared ones: who writes is alone. -/
structure PApart (P : List Rec) : Prop where
  ww : ∀ a ∈ P, ∀ c ∈ P, a.f1 ≠ c.f1 → ∀ k, wrote a k = true → wrote c k = false
  wk : ∀ a ∈ P, ∀ c ∈ P, a.f1 ≠ c.f1 → ∀ k, wrote a k = true → watches c k = false
theorem wrote_mem {r : Rec} {k : Key} (h : wrote r k = true) : ∃ w ∈ r.f8, wkey w = k := by
  obtain ⟨w, hw, he⟩ := List.any_eq_true.1 h
  exact ⟨w, hw, by simpa [wkey] using he⟩
theorem wrote_of {r : Rec} {w : Wr} (h : w ∈ r.f8) : wrote r (wkey w) = true := List.any_eq_true.2 ⟨w, h, by simp [wkey]⟩
theorem watch_mem {r : Rec} {k : Key} (h : watches r k = true) : ∃ q ∈ r.f7, kb q = k := by
  obtain ⟨q, hq, he⟩ := List.any_eq_true.1 h
  exact ⟨q, hq, by simpa using he⟩
theorem watch_of {r : Rec} {q : ByteArray} (h : q ∈ r.f7) : watches r (kb q) = true := List.any_eq_true.2 ⟨q, h, by simp⟩
theorem held_none {s : Sh} {k : Key} {wt : Bool} (h : heldV s k wt = false) : ∀ r ∈ s.P, wrote r k = false ∧ (wt = true → watches r k = false) := fun r hr => by
  have h1 := List.any_eq_false.1 h r hr
  unfold heldR at h1
  rw [Bool.not_eq_true, Bool.or_eq_false_iff] at h1
  exact ⟨h1.1, fun e => by subst e; simpa using h1.2⟩
theorem papart_prep {s : Sh} {r : Rec} (h : PApart s.P) : PApart (prepV s r).2.P := by
  unfold prepV
  split
  · exact h
  · split
    · exact h
    · rename_i hh
      split
      · exact h
      · rw [Bool.or_eq_true, not_or, Bool.not_eq_true, Bool.not_eq_true] at hh
        have h1 : ∀ k, watches r k = true → ∀ a ∈ s.P, wrote a k = false := fun k hk a ha => by
          obtain ⟨q, hq, rfl⟩ := watch_mem hk
          have := List.any_eq_false.1 hh.1 q hq
          rw [Bool.not_eq_true] at this
          exact (held_none this a ha).1
        have h2 : ∀ k, wrote r k = true → ∀ a ∈ s.P, wrote a k = false ∧ watches a k = false := fun k hk a ha => by
          obtain ⟨w, hw, rfl⟩ := wrote_mem hk
          have := List.any_eq_false.1 hh.2 w hw
          rw [Bool.not_eq_true] at this
          have := held_none this a ha
          exact ⟨this.1, this.2 rfl⟩
        refine ⟨fun a ha c hc hne k hk => ?_, fun a ha c hc hne k hk => ?_⟩
        · rcases (pput_mem r a s.P).1 ha with rfl | ha'
          · rcases (pput_mem a c s.P).1 hc with rfl | hc
            · exact absurd rfl hne
            · exact (h2 k hk c hc).1
          · rcases (pput_mem r c s.P).1 hc with rfl | hc
            · cases hw : wrote c k with
              | false => rfl
              | true => rw [(h2 k hw a ha').1] at hk; cases hk
            · exact h.ww a ha' c hc hne k hk
        · rcases (pput_mem r a s.P).1 ha with rfl | ha'
          · rcases (pput_mem a c s.P).1 hc with rfl | hc
            · exact absurd rfl hne
            · exact (h2 k hk c hc).2
          · rcases (pput_mem r c s.P).1 hc with rfl | hc
            · cases hw : watches c k with
              | false => rfl
              | true => rw [h1 k hw a ha'] at hk; cases hk
            · exact h.wk a ha' c hc hne k hk
theorem papart_sub {P Q : List Rec} (h : PApart P) (hs : ∀ r ∈ Q, r ∈ P) : PApart Q := ⟨fun a ha c hc => h.ww a (hs a ha) c (hs c hc), fun a ha c hc => h.wk a (hs a ha) c (hs c hc)⟩
theorem papart_end {s : Sh} (h : PApart s.P) (t ts : Int) : PApart (endV s t ts).P := papart_sub h (fun r hr => (List.mem_filter.1 hr).1)
theorem papart_apply {s : Sh} (h : PApart s.P) (r : Rec) : PApart (applyV s r).2.P := by
  unfold applyV
  split
  · split
    · exact papart_prep h
    · split
      · unfold doV
        split
        · exact h
        · split
          · exact h
          · split
            · split
              · exact papart_sub h (fun r hr => (List.mem_filter.1 hr).1)
              · exact h
            · exact papart_end h _ _
      · split
        · unfold sweepV
          split
          · exact h
          · exact h
        · split
          · split
            · exact h
            · exact h
          · exact h
  · exact h
theorem papart_fold : ∀ (l : List Rec) {s : Sh}, PApart s.P → PApart (l.foldl (fun s r => (applyV s r).2) s).P
  | [], _, h => h
  | r :: l, _, h => papart_fold l (papart_apply h r)
theorem papart_made (l : List Rec) : PApart (madeV l).P := papart_fold _ ⟨by simp [sh0], by simp [sh0]⟩
/-- The i-th prepared one is found by its number. -/
theorem prepOf_at {s : Sh} (h : ShOk s) (i : Nat) (hi : i < s.P.length) : prepOf s (s.P[i]).f1 = some s.P[i] := by
  unfold prepOf
  cases hf : s.P.find? (fun r => decide (r.f1 = (s.P[i]).f1)) with
  | none => exact absurd (decide_eq_true rfl) (List.find?_eq_none.1 hf _ (List.getElem_mem hi))
  | some r =>
    have h1 : r ∈ s.P := List.mem_of_find?_eq_some hf
    have h2 : r.f1 = (s.P[i]).f1 := of_decide_eq_true (by simpa using List.find?_some hf)
    rw [prep_one h.rise h1 (List.getElem_mem hi) h2]
theorem read_held {s : Sh} (h : ShOk s) {k : Key} (hk : heldV s k false = true) : readV s k 1125899906842624 = (3, zVer) := by
  unfold readV
  have := h.over
  rw [if_neg (by omega), if_pos hk]
theorem held_wrote {s : Sh} {r : Rec} (hr : r ∈ s.P) {k : Key} (h : wrote r k = true) (wt : Bool) : heldV s k wt = true := List.any_eq_true.2 ⟨r, hr, by unfold heldR; rw [h]; rfl⟩
theorem held_watch {s : Sh} {r : Rec} (hr : r ∈ s.P) {k : Key} (h : watches r k = true) : heldV s k true = true := List.any_eq_true.2 ⟨r, hr, by unfold heldR; rw [h]; simp⟩
/-- What 'holds' has: of the first i, and of the i-th one's first j writes. -/
def HoldsOk (P : List Rec) (i j : Nat) (f : Lit → Option Value) : Prop :=
  ∀ q v, f q = some v → ∃ a k, q = sk k ∧ v = .int .i64 a.f1 ∧ ((a ∈ P.take i ∧ wrote a k = true) ∨ (P[i]? = some a ∧ ∃ w ∈ a.f8.take j, wkey w = k))
theorem holds_none {P : List Rec} (hp : PApart P) (hd : P.Pairwise (fun a b => a.f1 < b.f1)) {i j : Nat} {f : Lit → Option Value} (h : HoldsOk P i j f) {a : Rec} (ha : P[i]? = some a) (hap : (a.f8.map wkey).Nodup) {w : Wr} (hw : a.f8[j]? = some w) : f (sk (wkey w)) = none := by
  obtain ⟨hi, hia⟩ := List.getElem?_eq_some_iff.1 ha
  cases hf : f (sk (wkey w)) with
  | none => rfl
  | some v =>
    obtain ⟨c, k, e, _, hc⟩ := h _ v hf
    have e : wkey w = k := by unfold sk at e; injection e
    subst e
    have hwa : wrote a (wkey w) = true := wrote_of (List.mem_of_getElem? hw)
    rcases hc with ⟨h1, h2⟩ | ⟨h1, u, hu, he⟩
    · obtain ⟨n, hn, hnc⟩ := List.getElem_of_mem h1
      have hni : n < i := by simp at hn; omega
      rw [List.getElem_take] at hnc
      have hlt : c.f1 < a.f1 := by
        rw [← hnc, ← hia]
        exact List.pairwise_iff_getElem.1 hd n i (by omega) hi hni
      have := hp.ww c (List.mem_of_mem_take h1) a (by rw [← hia]; exact List.getElem_mem hi) (by omega) _ h2
      rw [hwa] at this
      cases this
    · rw [ha] at h1
      obtain rfl := Option.some.inj h1
      obtain ⟨n, hn, hnu⟩ := List.getElem_of_mem hu
      have hnj : n < j ∧ n < a.f8.length := by simp at hn; omega
      rw [List.getElem_take] at hnu
      obtain ⟨hj, hjw⟩ := List.getElem?_eq_some_iff.1 hw
      have hlt := List.pairwise_iff_getElem.1 hap n j (by simpa using hnj.2) (by simpa using hj) hnj.1
      simp only [List.getElem_map] at hlt
      exact absurd (by rw [hnu, hjw]; exact he) hlt
theorem holds_put {P : List Rec} {i j : Nat} {f : Lit → Option Value} (h : HoldsOk P i j f) {a : Rec} (ha : P[i]? = some a) {w : Wr} (hw : a.f8[j]? = some w) : HoldsOk P i (j + 1) (lput f (sk (wkey w)) (.int .i64 a.f1)) := fun q v hq => by
  unfold lput at hq
  obtain ⟨hj, hjw⟩ := List.getElem?_eq_some_iff.1 hw
  split at hq
  · rename_i hs
    obtain rfl := Option.some.inj hq
    exact ⟨a, wkey w, WideAt.sameKey_eq hs, rfl, .inr ⟨ha, w, by rw [List.take_succ_eq_append_getElem hj, hjw]; simp, rfl⟩⟩
  · obtain ⟨c, k, e, e2, hc⟩ := h q v hq
    refine ⟨c, k, e, e2, ?_⟩
    rcases hc with hc | ⟨h1, u, hu, he⟩
    · exact .inl hc
    · have : a = c := by rw [ha] at h1; exact Option.some.inj h1
      subst this
      exact .inr ⟨h1, u, by rw [List.take_succ_eq_append_getElem hj]; exact List.mem_append_left _ hu, he⟩
theorem holds_next {P : List Rec} {i : Nat} {f : Lit → Option Value} {a : Rec} (ha : P[i]? = some a) (h : HoldsOk P i a.f8.length f) : HoldsOk P (i + 1) 0 f := fun q v hq => by
  obtain ⟨hi, hia⟩ := List.getElem?_eq_some_iff.1 ha
  obtain ⟨c, k, e, e2, hc⟩ := h q v hq
  refine ⟨c, k, e, e2, .inl ?_⟩
  rw [List.take_succ_eq_append_getElem hi, hia]
  rcases hc with ⟨h1, h2⟩ | ⟨h1, u, hu, he⟩
  · exact ⟨List.mem_append_left _ h1, h2⟩
  · have : a = c := by rw [ha] at h1; exact Option.some.inj h1
    subst this
    exact ⟨by simp, by rw [← he]; exact wrote_of (List.mem_of_mem_take hu)⟩
/-- Of what is watched: nobody else holds it. -/
theorem holds_watch {P : List Rec} (hp : PApart P) {f : Lit → Option Value} (h : HoldsOk P P.length 0 f) {a : Rec} (ha : a ∈ P) {q : ByteArray} (hq : q ∈ a.f7) : f (sk (kb q)) = none ∨ f (sk (kb q)) = some (.int .i64 a.f1) := by
  cases hf : f (sk (kb q)) with
  | none => exact .inl rfl
  | some v =>
    right
    obtain ⟨c, k, e, e2, hc⟩ := h _ v hf
    have e : kb q = k := by unfold sk at e; injection e
    subst e
    rw [e2]
    rcases hc with ⟨h1, h2⟩ | ⟨h1, u, hu, he⟩
    · by_cases hne : c.f1 = a.f1
      · rw [hne]
      · have := hp.wk c (List.mem_of_mem_take h1) a ha hne _ h2
        rw [watch_of hq] at this
        cases this
    · simp at hu
/-- What is known in the loops: the two maps, and the shelf beside them. -/
structure ApSt (w : World) (n0 b bh bw : Nat) (s : Sh) (wz : World) (nh nw : Nat) (fh fw : Lit → Option Value) : Prop where
  below : Below w.heap.size w wz
  holds : MapL Try.prog 9 wz bh nh fh
  watch : MapL Try.prog 9 wz bw nw fw
  sh : ShAt wz (fun g => g < n0) b 960 s
  lo : w.heap.size ≤ n0
  h0 : n0 ≤ bh
  w0 : n0 ≤ bw
  ne : bh ≠ bw
section
variable {w wz wy : World} {n0 b bh bw nh nw : Nat} {s : Sh} {fh fw : Lit → Option Value}
theorem ApSt.step (h : ApSt w n0 b bh bw s wz nh nw fh fw) (hb : Below wz.heap.size wz wy) : ApSt w n0 b bh bw s wy nh nw fh fw :=
  ⟨h.below.trans (hb.mono h.below.size), h.holds.below hb, h.watch.below hb, h.sh.below hb, h.lo, h.h0, h.w0, h.ne⟩
theorem below_grown {n : Nat} {bq : Nat} {w0 : World} (h : Below n w0 wz) (hg : wz.grownBy wy (some bq)) (hn : n ≤ wz.heap.size) (hq : n ≤ bq) : Below n w0 wy :=
  ⟨hg.os.trans h.os, hg.tape.trans h.tape, hg.output.trans h.output, Nat.le_trans h.size hg.size, fun g hlt => (hg.block g (by omega) (fun e => by injection e with e; omega)).trans (h.block g hlt)⟩
theorem ApSt.putH (h : ApSt w n0 b bh bw s wz nh nw fh fw) (hg : wz.grownBy wy (some bh)) {f2 : Lit → Option Value} {n2 : Nat} (hm : MapL Try.prog 9 wy bh n2 f2) : ApSt w n0 b bh bw s wy n2 nw f2 fw :=
  ⟨below_grown h.below hg h.below.size (Nat.le_trans h.lo h.h0), hm, h.watch.kept hg (fun e => h.ne (by injection e with e; exact e.symm)), h.sh.apart (Chg.of_grown (ok := fun g => n0 ≤ g) hg h.h0) (fun g hg => by omega), h.lo, h.h0, h.w0, h.ne⟩
theorem ApSt.putW (h : ApSt w n0 b bh bw s wz nh nw fh fw) (hg : wz.grownBy wy (some bw)) {f2 : Lit → Option Value} {n2 : Nat} (hm : MapL Try.prog 9 wy bw n2 f2) : ApSt w n0 b bh bw s wy nh n2 fh f2 :=
  ⟨below_grown h.below hg h.below.size (Nat.le_trans h.lo h.w0), h.holds.kept hg (fun e => h.ne (by injection e)), hm, h.sh.apart (Chg.of_grown (ok := fun g => n0 ≤ g) hg h.w0) (fun g hg => by omega), h.lo, h.h0, h.w0, h.ne⟩
end
theorem zeroI (w : World) : (zeroValue 3).run Try.prog w = .ok (.int .i64 0) w := by kernel_rfl
end Go.Proofs.Ytaldfbmjmpkmmaa.PL
