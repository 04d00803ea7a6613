/- A transaction's writes: write, Put, Delete; New. -/
import Derived.Test.YteibcojjbcihbaaHTxn
namespace Go.Proofs.Yteibcojjbcihbaa.Txn
open Go.RowKit Go.Proofs.YteibcojjbcihbaaW.PrintWords Go.Proofs.YteibcojjbcihbaaW.PrintLast Go.Proofs.YteibcojjbcihbaaW.PrintMore Go.Maps Mk
attribute [local go_sem] Mk.str_leq Mk.str_gtr Mk.str_geq
set_option linter.unusedVariables false
set_option linter.unusedSimpArgs false
theorem blk_newI {W : World} {n : Nat} {o : Obj} (h : W.heap.size = n) : (W.alloc o).heap[n]? = some o := h ▸ blk_new W o
/-- A guarded operation whose guard holds is run as one without. -/
theorem unguard {P : Program} {ops : Array Oper} {Q : Exit → Act → World → Prop} {rest : List Oper} {o : Oper} {a : Act} {w : World}
    (hw : Region.wanted o (yielded ops a.tmps) = true) (h : wpList P ops Q ({ o with guard := none } :: rest) a w) : wpList P ops Q (o :: rest) a w := by
  unfold wpList at *
  rw [if_pos hw]
  rw [if_pos (by rfl)] at h
  exact h
theorem two_cells {w : World} {g : Nat} {t : Nat} {v0 v1 : Value} (h : w.heap[g]? = some (.cells #[v0, v1] t (0, 0))) : w.cell? ⟨g, 0, none⟩ = some v0 ∧ w.cell? ⟨g, 1, none⟩ = some v1 :=
  ⟨(blk_cell h 0).trans rfl, (blk_cell h 1).trans rfl⟩
set_option maxRecDepth 100000 in
set_option maxHeartbeats 1000000 in
/-- write. -/
theorem write_walk (w : World) (b br bw : Nat) (num ts : Int) (N sr sw : Nat) (fr fw : Tab) (h : TxnAt w b br bw num ts N sr sw fr fw) (k v : ByteArray) (fd : Bool) (hk : k.size ≤ maxLen) (hv : v.size ≤ maxLen) (hN : N < maxLen) :
    Calls Try.prog 39 #[.pointer (some ⟨b, 0, none⟩), .string k, .agg #[.string v, .bool fd]] w fun e w' => e = .returned (.int .i64 (writeV fw sw k v)) ∧ w.grownBy w' (some bw) ∧
      TxnAt w' b br bw num ts (N + 1) sr (if writeV fw sw k v = 0 then (if (fw k.data.toList).isSome then sw else sw + 1) else sw) fr (if writeV fw sw k v = 0 then tput fw k.data.toList (v, fd) else fw) := by
  have HK := Aside0.mk (fun w => wrong_walk w k v hk hv)
  have HS := Aside0.mk (And.intro hk hN)
  have H := Aside0.mk h
  have HN : Aside0 (writeV fw sw k v = if wrongV k v = 0 then (if (fw k.data.toList).isSome = false ∧ sw = 16 then 2 else 0) else wrongV k v) := ⟨rfl⟩
  clear hk hv h hN
  obtain ⟨s1, hs1⟩ : ∃ x, x = (if writeV fw sw k v = 0 then (if (fw k.data.toList).isSome then sw else sw + 1) else sw) := ⟨_, rfl⟩
  obtain ⟨f1, hf1⟩ : ∃ x, x = (if writeV fw sw k v = 0 then tput fw k.data.toList (v, fd) else fw) := ⟨_, rfl⟩
  rw [← hs1, ← hf1]
  have HE : Aside0 (s1 = (if writeV fw sw k v = 0 then (if (fw k.data.toList).isSome then sw else sw + 1) else sw) ∧ f1 = (if writeV fw sw k v = 0 then tput fw k.data.toList (v, fd) else fw)) := ⟨hs1, hf1⟩
  clear hs1 hf1
  generalize writeV fw sw k v = r at *
  have HEN : Aside0 (r ≠ 0 → s1 = sw ∧ f1 = fw) := ⟨fun h => by rw [HE.out.1, HE.out.2, if_neg h, if_neg h]; exact ⟨rfl, rfl⟩⟩
  have HX : Aside0 ((w.alloc (.cells #[.string v, .bool fd] 88)).heap[w.heap.size]? = some (.cells #[.string v, .bool fd] 88 (0, 0))) := ⟨blk_new _ _⟩
  go_enter Try.func39, Try.ntmps39
  go_wp2_with fail
  refine (HK.out _).mono ?_
  rintro e w1 ⟨rfl, hb⟩
  have hb1 : Below w.heap.size w w1 := (below_alloc (Below.refl _ w) _).trans (hb.mono (by simp))
  have HX1 := Aside0.mk (blk_below HX.out hb)
  have HB := Aside0.mk (grownBy_of_below hb1 (some bw))
  have HT := Aside0.mk (H.out.below hb1)
  have HL : Aside0 (w.heap.size < w1.heap.size) := ⟨by have := hb.size; simp at this; omega⟩
  clear hb HK H HX hb1
  generalize hg : w.heap.size = g at *
  by_cases hw : wrongV k v = 0
  · rw [if_pos hw] at HN
    rw [hw]
    clear hw
    obtain ⟨c1, c2, c3, c0⟩ := HT.out.cells
    cases hf : fw k.data.toList with
    | none =>
      have HF := Aside0.mk hf
      rw [hf] at HN
      clear hf
      have HT2 := Aside0.mk (HT.out.below (below_alloc (Below.refl _ _) (Obj.cells #[Value.string { data := #[] }, Value.bool false] 88)))
      have HB2 := Aside0.mk (HB.out.trans (grownBy_of_below (below_alloc (Below.refl _ _) (Obj.cells #[Value.string { data := #[] }, Value.bool false] 88)) (some bw)))
      have HX2 := Aside0.mk (blk_alloc HX1.out (Obj.cells #[Value.string { data := #[] }, Value.bool false] 88))
      obtain ⟨d1, d2, d3, d0⟩ := HT2.out.cells
      obtain ⟨x0, x1⟩ := two_cells HX2.out
      by_cases hs : sw = 16
      · rw [if_pos ⟨rfl, hs⟩] at HN
        obtain ⟨e1, e2⟩ := HEN.out (by rw [HN.out]; decide)
        have HX : Aside0 (s1 = sw ∧ f1 = fw) := ⟨e1, e2⟩
        clear e1 e2
        subst hs
        go_wp2_with (first
          | (at_lookup; refine TabAt.look0 HT.out.writes rfl _ _ 84 88 rfl Try.underlying84 (zero88 _) rfl k rfl HS.out.1 HF.out ?_)
          | (at_len; refine unguard (by rfl) ?_; refine TabAt.len HT2.out.writes rfl _ 84 88 rfl Try.underlying84 rfl ?_))
        go_ret
        exact ⟨by rw [HN.out]; rfl, HB2.out, by rw [HX.out.1, HX.out.2]; exact ⟨HT2.out.box, HT2.out.reads.mono (Nat.le_succ _), HT2.out.writes.mono (Nat.le_succ _), HT2.out.ne⟩⟩
      · rw [if_neg (fun h => hs h.2)] at HN
        go_wp2_with (first
          | (at_lookup; refine TabAt.look0 HT.out.writes rfl _ _ 84 88 rfl Try.underlying84 (zero88 _) rfl k rfl HS.out.1 HF.out ?_)
          | (at_len; refine unguard (by rfl) ?_; refine TabAt.len HT2.out.writes rfl _ 84 88 rfl Try.underlying84 rfl ?_))
        clear c1 c2 c3 c0
        generalize w1.alloc (Obj.cells #[Value.string { data := #[] }, Value.bool false] 88) = w2 at *
        have y3 : ({ w2 with drawn := w2.drawn + 1 } : World).cell? ⟨b, 3, none⟩ = some (.map (some bw)) := d3
        have y0 : ({ w2 with drawn := w2.drawn + 1 } : World).cell? ⟨g, 0, none⟩ = some (.string v) := x0
        have y1 : ({ w2 with drawn := w2.drawn + 1 } : World).cell? ⟨g, 1, none⟩ = some (.bool fd) := x1
        go_still_tail 6, (by kernel_rfl)
        clear y0 y1 y3 d0 d1 d2 d3 x0 x1
        have HT3 : Aside0 (TxnAt w2.drew b br bw num ts N sr sw fr fw) := ⟨HT2.out.below (below_drew1 (Below.refl _ _))⟩
        change wpList _ _ _ _ _ w2.drew
        refine TabAt.store HT3.out.writes rfl _ _ _ 84 88 rfl Try.underlying84 HS.out.2 rfl k rfl HS.out.1 v fd rfl ?_
        intro w3 hm3 hg3
        go_wp2
        go_ret
        rw [HF.out] at hm3
        exact ⟨by rw [HN.out]; rfl, HB2.out.trans ((grownBy_of_below (below_drew1 (Below.refl _ _)) (some bw)).trans hg3), by
          rw [HE.out.1, HE.out.2, HN.out, if_pos rfl, if_pos rfl, HF.out]
          exact ⟨blk_grown HT3.out.box hg3 (by have := HT3.out.apart.2; intro h; injection h with h; exact this h), (HT3.out.reads.kept hg3 (by have := HT3.out.ne; intro h; injection h with h; exact this h)).mono (Nat.le_succ _), hm3, HT3.out.ne⟩⟩
    | some y =>
      have HF := Aside0.mk hf
      rw [hf] at HN
      clear hf
      have HT2 := Aside0.mk (HT.out.below (below_alloc (Below.refl _ _) (Obj.cells #[Value.string y.1, Value.bool y.2] 88)))
      have HB2 := Aside0.mk (HB.out.trans (grownBy_of_below (below_alloc (Below.refl _ _) (Obj.cells #[Value.string y.1, Value.bool y.2] 88)) (some bw)))
      have HX2 := Aside0.mk (blk_alloc HX1.out (Obj.cells #[Value.string y.1, Value.bool y.2] 88))
      obtain ⟨d1, d2, d3, d0⟩ := HT2.out.cells
      obtain ⟨x0, x1⟩ := two_cells HX2.out
      rw [if_neg (by simp)] at HN
      go_wp2_with (first
        | (at_lookup; refine TabAt.look1 HT.out.writes rfl _ _ 84 88 rfl Try.underlying84 (zero88 _) rfl k rfl HS.out.1 HF.out ?_)
        | (at_len; refine unguard (by rfl) ?_; refine TabAt.len HT2.out.writes rfl _ 84 88 rfl Try.underlying84 rfl ?_))
      clear c1 c2 c3 c0
      generalize w1.alloc (Obj.cells #[Value.string y.1, Value.bool y.2] 88) = w2 at *
      have y3 : ({ w2 with drawn := w2.drawn + 1 } : World).cell? ⟨b, 3, none⟩ = some (.map (some bw)) := d3
      have y0 : ({ w2 with drawn := w2.drawn + 1 } : World).cell? ⟨g, 0, none⟩ = some (.string v) := x0
      have y1 : ({ w2 with drawn := w2.drawn + 1 } : World).cell? ⟨g, 1, none⟩ = some (.bool fd) := x1
      go_still_tail 6, (by kernel_rfl)
      clear y0 y1 y3 d0 d1 d2 d3 x0 x1
      have HT3 : Aside0 (TxnAt w2.drew b br bw num ts N sr sw fr fw) := ⟨HT2.out.below (below_drew1 (Below.refl _ _))⟩
      change wpList _ _ _ _ _ w2.drew
      refine TabAt.store HT3.out.writes rfl _ _ _ 84 88 rfl Try.underlying84 HS.out.2 rfl k rfl HS.out.1 v fd rfl ?_
      intro w3 hm3 hg3
      go_wp2
      go_ret
      rw [HF.out] at hm3
      exact ⟨by rw [HN.out]; rfl, HB2.out.trans ((grownBy_of_below (below_drew1 (Below.refl _ _)) (some bw)).trans hg3), by
        rw [HE.out.1, HE.out.2, HN.out, if_pos rfl, if_pos rfl, HF.out]
        exact ⟨blk_grown HT3.out.box hg3 (by have := HT3.out.apart.2; intro h; injection h with h; exact this h), (HT3.out.reads.kept hg3 (by have := HT3.out.ne; intro h; injection h with h; exact this h)).mono (Nat.le_succ _), hm3, HT3.out.ne⟩⟩
  · rw [if_neg hw] at HN
    obtain ⟨e1, e2⟩ := HEN.out (by rw [HN.out]; exact hw)
    have HX : Aside0 (s1 = sw ∧ f1 = fw) := ⟨e1, e2⟩
    have hb : (wrongV k v != 0) = true := by simpa using hw
    generalize wrongV k v = x at *
    clear hw e1 e2
    go_wp2
    go_ret
    exact ⟨by rw [HN.out]; rfl, HB.out, by rw [HX.out.1, HX.out.2]; exact ⟨HT.out.box, HT.out.reads.mono (Nat.le_succ _), HT.out.writes.mono (Nat.le_succ _), HT.out.ne⟩⟩

set_option maxRecDepth 100000 in
/-- Put. -/
theorem put_walk (w : World) (b br bw : Nat) (num ts : Int) (N sr sw : Nat) (fr fw : Tab) (h : TxnAt w b br bw num ts N sr sw fr fw) (k v : ByteArray) (hk : k.size ≤ maxLen) (hv : v.size ≤ maxLen) (hN : N < maxLen) :
    Calls Try.prog 13 #[.pointer (some ⟨b, 0, none⟩), .string k, .string v] w fun e w' => e = .returned (.int .i64 (writeV fw sw k v)) ∧ w.grownBy w' (some bw) ∧
      TxnAt w' b br bw num ts (N + 1) sr (if writeV fw sw k v = 0 then (if (fw k.data.toList).isSome then sw else sw + 1) else sw) fr (if writeV fw sw k v = 0 then tput fw k.data.toList (v, true) else fw) := by
  have HW := Aside0.mk (write_walk w b br bw num ts N sr sw fr fw h k v true hk hv hN)
  clear h hk hv hN
  generalize (if writeV fw sw k v = 0 then (if (fw k.data.toList).isSome then sw else sw + 1) else sw) = s1 at *
  generalize (if writeV fw sw k v = 0 then tput fw k.data.toList (v, true) else fw) = f1 at *
  go_enter Try.func13, Try.ntmps13
  go_wp2_with fail
  refine HW.out.mono ?_
  rintro e w1 ⟨rfl, hg, ht⟩
  have HG := Aside0.mk (And.intro hg ht)
  clear hg ht HW
  go_wp2
  go_ret
  exact ⟨rfl, HG.out⟩
set_option maxRecDepth 100000 in
/-- Delete. -/
theorem delete_walk (w : World) (b br bw : Nat) (num ts : Int) (N sr sw : Nat) (fr fw : Tab) (h : TxnAt w b br bw num ts N sr sw fr fw) (k : ByteArray) (hk : k.size ≤ maxLen) (hN : N < maxLen) :
    Calls Try.prog 14 #[.pointer (some ⟨b, 0, none⟩), .string k] w fun e w' => e = .returned (.int .i64 (writeV fw sw k ⟨#[]⟩)) ∧ w.grownBy w' (some bw) ∧
      TxnAt w' b br bw num ts (N + 1) sr (if writeV fw sw k ⟨#[]⟩ = 0 then (if (fw k.data.toList).isSome then sw else sw + 1) else sw) fr (if writeV fw sw k ⟨#[]⟩ = 0 then tput fw k.data.toList it0 else fw) := by
  have HW := Aside0.mk (write_walk w b br bw num ts N sr sw fr fw h k ⟨#[]⟩ false hk (by decide) hN)
  clear h hk hN
  show Calls _ _ _ _ fun e w' => e = .returned (.int .i64 (writeV fw sw k ⟨#[]⟩)) ∧ w.grownBy w' (some bw) ∧
      TxnAt w' b br bw num ts (N + 1) sr (if writeV fw sw k ⟨#[]⟩ = 0 then (if (fw k.data.toList).isSome then sw else sw + 1) else sw) fr (if writeV fw sw k ⟨#[]⟩ = 0 then tput fw k.data.toList (⟨#[]⟩, false) else fw)
  generalize (if writeV fw sw k ⟨#[]⟩ = 0 then (if (fw k.data.toList).isSome then sw else sw + 1) else sw) = s1 at *
  generalize (if writeV fw sw k ⟨#[]⟩ = 0 then tput fw k.data.toList (⟨#[]⟩, false) else fw) = f1 at *
  go_enter Try.func14, Try.ntmps14
  go_wp2_with fail
  refine HW.out.mono ?_
  rintro e w1 ⟨rfl, hg, ht⟩
  have HG := Aside0.mk (And.intro hg ht)
  clear hg ht HW
  go_wp2
  go_ret
  exact ⟨rfl, HG.out⟩
def newBad (n t : Int) : Bool := decide (n < 1) || decide (1125899906842623 < n) || decide (t < 0) || decide (1125899906842624 < t)
set_option maxRecDepth 100000 in
/-- New. -/
theorem new_walk (w : World) (n t : Int) (hc : newBad n t = false) : Calls Try.prog 9 #[.int .i64 n, .int .i64 t] w fun e w' => Below w.heap.size w w' ∧
      ∃ b br bw : Nat, w.heap.size ≤ b ∧ w.heap.size ≤ br ∧ w.heap.size ≤ bw ∧ e = .returned (.tuple #[.pointer (some ⟨b, 0, none⟩), .int .i64 0]) ∧ TxnAt w' b br bw n t 0 0 0 (fun _ => none) (fun _ => none) := by
  have hmm := @run_makeMap Try.prog
  have hnb : newBad n t = (decide (n < 1) || decide (1125899906842623 < n) || decide (t < 0) || decide (1125899906842624 < t)) := rfl
  rw [hc] at hnb
  simp at hnb
  obtain ⟨⟨⟨h1, h2⟩, h3⟩, h4⟩ := hnb
  clear hc
  go_enter Try.func9, Try.ntmps9
  go_wp2
  go_ret2
  refine ⟨below_alloc (below_alloc (below_alloc (Below.refl _ _) _) _) _, w.heap.size + 1 + 1, w.heap.size, w.heap.size + 1, by omega, by omega, by omega, rfl, ⟨by repeat (first | (refine blk_newI ?_; simp; done) | refine blk_alloc ?_ _), ?_, ?_, by omega⟩⟩
  · exact (TabAt.made w).below (below_alloc (below_alloc (Below.refl _ _) _) _)
  · have := (TabAt.made (w.alloc (.map #[] 0))).below (below_alloc (Below.refl _ _) (.cells #[.int .i64 n, .int .i64 t, .map (some w.heap.size), .map (some (w.heap.size + 1))] 86))
    simpa using this
set_option maxRecDepth 100000 in
theorem new_bad (w : World) (n t : Int) (hc : newBad n t = true) : Calls Try.prog 9 #[.int .i64 n, .int .i64 t] w fun e w' => e = .returned (.tuple #[.pointer none, .int .i64 1]) ∧ Below w.heap.size w w' := by
  have hnb : newBad n t = (decide (n < 1) || decide (1125899906842623 < n) || decide (t < 0) || decide (1125899906842624 < t)) := rfl
  rw [hc] at hnb
  have HN := Aside0.mk hnb
  clear hc hnb
  by_cases h1 : n < 1
  · go_enter Try.func9, Try.ntmps9
    go_wp2
    go_ret2
    exact ⟨rfl, Below.refl _ _⟩
  · by_cases h2 : 1125899906842623 < n
    · go_enter Try.func9, Try.ntmps9
      go_wp2
      go_ret2
      exact ⟨rfl, Below.refl _ _⟩
    · by_cases h3 : t < 0
      · go_enter Try.func9, Try.ntmps9
        go_wp2
        go_ret2
        exact ⟨rfl, Below.refl _ _⟩
      · have h4 : 1125899906842624 < t := by
          have := HN.out.symm
          simp only [Bool.or_eq_true, decide_eq_true_eq] at this
          omega
        go_enter Try.func9, Try.ntmps9
        go_wp2
        go_ret2
        exact ⟨rfl, Below.refl _ _⟩
end Go.Proofs.Yteibcojjbcihbaa.Txn
