/- step: a call, of both. -/
import Derived.Test.YteibcojjbcihbaaHRefT2
namespace Go.Proofs.Yteibcojjbcihbaa.PT
open Go.RowKit Go.Proofs.YteibcojjbcihbaaW.PrintWords Go.Proofs.YteibcojjbcihbaaW.PrintLast Go.Proofs.YteibcojjbcihbaaW.PrintMore Go.Maps
open Mk (Up)
open Go.Proofs.Yteibcojjbcihbaa.Txn (Tab TabAt TxnAt tput it0 keyB wrongV noteV writeV getV unguard newBad)
theorem some_ne {a b : Nat} (h : a ≠ b) : (some a : Option Nat) ≠ some b := fun e => h (by injection e)
theorem Txn_four {w : World} {g : Nat} {t : Nat} {v0 v1 v2 v3 : Value} (h : w.heap[g]? = some (.cells #[v0, v1, v2, v3] t (0, 0))) : w.cell? ⟨g, 0, none⟩ = some v0 ∧ w.cell? ⟨g, 1, none⟩ = some v1 ∧ w.cell? ⟨g, 2, none⟩ = some v2 ∧ w.cell? ⟨g, 3, none⟩ = some v3 :=
  ⟨(blk_cell h 0).trans rfl, (blk_cell h 1).trans rfl, (blk_cell h 2).trans rfl, (blk_cell h 3).trans rfl⟩
attribute [local go_sem] Mk.str_leq Mk.str_gtr Mk.str_geq
set_option linter.unusedVariables false
set_option linter.unusedSimpArgs false
/-- Both transactions, side by side. -/
structure PairAt (w0 w : World) (b br bw rb : Nat) (num ts : Int) (N : Nat) (vR vW : Value) (R W : List S96) : Prop where
  txn : TxnAt w b br bw num ts N R.length W.length (lookR R) (lookR W)
  ref : RefT w rb num ts vR vW R W
  upR : Up (keysR R)
  upW : Up (keysR W)
  lR : R.length ≤ 16
  lW : W.length ≤ 16
  bel : Below w0.heap.size w0 w
  b1 : w0.heap.size ≤ br
  b2 : w0.heap.size ≤ bw
  b3 : w0.heap.size ≤ rb
section
variable {w0 w w' : World} {b br bw rb : Nat} {num ts : Int} {N : Nat} {vR vW : Value} {R W : List S96}
theorem map_not {P : Program} {k : TypeId} {n sz : Nat} {f : List UInt8 → Option Value} {m : Nat} (h : Mk.MapV P k w m n sz f) {cells : Array Value} {t : TypeId} : w.heap[m]? ≠ some (.cells cells t (0, 0)) := by
  obtain ⟨D, ho, _⟩ := h
  obtain ⟨es, clock, hb, _⟩ := ho
  rw [hb]
  intro e
  injection e with e
  cases e
theorem tab_not {m N sz : Nat} {f : Tab} (h : TabAt w m N sz f) {cells : Array Value} {t : TypeId} : w.heap[m]? ≠ some (.cells cells t (0, 0)) := by
  obtain ⟨n, _, h⟩ := h
  exact map_not h
theorem PairAt.below (h : PairAt w0 w b br bw rb num ts N vR vW R W) (hb : Below w.heap.size w w') : PairAt w0 w' b br bw rb num ts N vR vW R W :=
  ⟨h.txn.below hb, h.ref.below hb, h.upR, h.upW, h.lR, h.lW, h.bel.trans (hb.mono h.bel.size), h.b1, h.b2, h.b3⟩
theorem PairAt.ne (h : PairAt w0 w b br bw rb num ts N vR vW R W) : rb ≠ b ∧ rb ≠ br ∧ rb ≠ bw :=
  ⟨(fun e => by
    have h1 := h.txn.box
    rw [← e, h.ref.box] at h1
    injection h1 with h1
    injection h1 with _ h1 _
    cases h1), fun e => tab_not h.txn.reads (by rw [← e]; exact h.ref.box), fun e => tab_not h.txn.writes (by rw [← e]; exact h.ref.box)⟩
theorem PairAt.mono (h : PairAt w0 w b br bw rb num ts N vR vW R W) : PairAt w0 w b br bw rb num ts (N + 1) vR vW R W :=
  ⟨⟨h.txn.box, h.txn.reads.mono (Nat.le_succ _), h.txn.writes.mono (Nat.le_succ _), h.txn.ne⟩, h.ref, h.upR, h.upW, h.lR, h.lW, h.bel, h.b1, h.b2, h.b3⟩
/-- The real one's box and maps stand while the other one's box changes. -/
theorem TxnAt.keptR {sr sw : Nat} {fr fw : Tab} (h : TxnAt w b br bw num ts N sr sw fr fw) (hg : w.grownBy w' (some rb)) (hne : rb ≠ b ∧ rb ≠ br ∧ rb ≠ bw) : TxnAt w' b br bw num ts N sr sw fr fw :=
  h.kept hg (some_ne hne.1.symm) (some_ne hne.2.1.symm) (some_ne hne.2.2.symm)
end
theorem note_len {R : List S96} {k v : ByteArray} {fd : Bool} (h : noteV (lookR R) R.length k v fd = 0) (hl : R.length ≤ 16) : (lookR R k.data.toList).isSome = false ∧ R.length + 1 ≤ 16 := by
  unfold noteV at h
  split at h
  · split at h
    · cases h
    · split at h
      · cases h
      · rename_i h2
        split at h
        · cases h
        · exact ⟨by simpa using h2, by omega⟩
  · exact absurd h (by assumption)
theorem write_len {W : List S96} {k v : ByteArray} (h : writeV (lookR W) W.length k v = 0) (hl : W.length ≤ 16) : (lookR W k.data.toList).isSome = true ∨ W.length + 1 ≤ 16 := by
  unfold writeV at h
  split at h
  · split at h
    · cases h
    · rename_i h2
      cases hc : (lookR W k.data.toList).isSome with
      | true => exact .inl rfl
      | false => exact .inr (by have : ¬ W.length = 16 := fun e => h2 ⟨hc, e⟩; omega)
  · exact absurd h (by assumption)
section
variable {w0 w w1 w2 : World} {b br bw rb : Nat} {num ts : Int} {N : Nat} {vR vW v' : Value} {R W : List S96} {k v : ByteArray} {fd : Bool}
/-- Both have noted. -/
theorem PairAt.noted (h : PairAt w0 w b br bw rb num ts N vR vW R W) (hg1 : w.grownBy w1 (some br))
    (ht : TxnAt w1 b br bw num ts (N + 1) (if noteV (lookR R) R.length k v fd = 0 then R.length + 1 else R.length) W.length (if noteV (lookR R) R.length k v fd = 0 then tput (lookR R) k.data.toList (v, fd) else lookR R) (lookR W))
    (hg2 : w1.grownBy w2 (some rb)) (hr : RefT w2 rb num ts v' vW (if noteV (lookR R) R.length k v fd = 0 then putR R ⟨k, v, fd⟩ else R) W) :
    PairAt w0 w2 b br bw rb num ts (N + 1) v' vW (if noteV (lookR R) R.length k v fd = 0 then putR R ⟨k, v, fd⟩ else R) W := by
  have ht2 := TxnAt.keptR ht hg2 h.ne
  have hb1 : Below w0.heap.size w0 w1 := h.bel.grown hg1 h.bel.size (fun j hj => by cases hj; exact h.b1)
  have hb2 : Below w0.heap.size w0 w2 := hb1.grown hg2 hb1.size (fun j hj => by cases hj; exact h.b3)
  by_cases hz : noteV (lookR R) R.length k v fd = 0
  · rw [if_pos hz] at hr ⊢
    rw [if_pos hz, if_pos hz] at ht2
    obtain ⟨hn, hl⟩ := note_len hz h.lR
    have e1 := look_put R ⟨k, v, fd⟩ h.upR
    have e2 := put_len R ⟨k, v, fd⟩ h.upR
    have ek : kb ⟨k, v, fd⟩ = k.data.toList := rfl
    rw [ek] at e1 e2
    rw [hn, if_neg (by decide)] at e2
    rw [← e1, ← e2] at ht2
    exact ⟨ht2, hr, put_up R _ h.upR, h.upW, by rw [e2]; exact hl, h.lW, hb2, h.b1, h.b2, h.b3⟩
  · rw [if_neg hz] at hr ⊢
    rw [if_neg hz, if_neg hz] at ht2
    exact ⟨ht2, hr, h.upR, h.upW, h.lR, h.lW, hb2, h.b1, h.b2, h.b3⟩
/-- Both have written. -/
theorem PairAt.wrote (h : PairAt w0 w b br bw rb num ts N vR vW R W) (hg1 : w.grownBy w1 (some bw))
    (ht : TxnAt w1 b br bw num ts (N + 1) R.length (if writeV (lookR W) W.length k v = 0 then (if (lookR W k.data.toList).isSome then W.length else W.length + 1) else W.length) (lookR R) (if writeV (lookR W) W.length k v = 0 then tput (lookR W) k.data.toList (v, fd) else lookR W))
    (hg2 : w1.grownBy w2 (some rb)) (hr : RefT w2 rb num ts vR v' R (if writeV (lookR W) W.length k v = 0 then putR W ⟨k, v, fd⟩ else W)) :
    PairAt w0 w2 b br bw rb num ts (N + 1) vR v' R (if writeV (lookR W) W.length k v = 0 then putR W ⟨k, v, fd⟩ else W) := by
  have ht2 := TxnAt.keptR ht hg2 h.ne
  have hb1 : Below w0.heap.size w0 w1 := h.bel.grown hg1 h.bel.size (fun j hj => by cases hj; exact h.b2)
  have hb2 : Below w0.heap.size w0 w2 := hb1.grown hg2 hb1.size (fun j hj => by cases hj; exact h.b3)
  by_cases hz : writeV (lookR W) W.length k v = 0
  · rw [if_pos hz] at hr ⊢
    rw [if_pos hz, if_pos hz] at ht2
    have hl := write_len hz h.lW
    have e1 := look_put W ⟨k, v, fd⟩ h.upW
    have e2 := put_len W ⟨k, v, fd⟩ h.upW
    have ek : kb ⟨k, v, fd⟩ = k.data.toList := rfl
    rw [ek] at e1 e2
    rw [← e1, ← e2] at ht2
    refine ⟨ht2, hr, h.upR, put_up W _ h.upW, h.lR, ?_, hb2, h.b1, h.b2, h.b3⟩
    rw [e2]
    have := h.lW
    split
    · omega
    · rename_i hc
      rcases hl with hl | hl
      · exact absurd hl hc
      · exact hl
  · rw [if_neg hz] at hr ⊢
    rw [if_neg hz, if_neg hz] at ht2
    exact ⟨ht2, hr, h.upR, h.upW, h.lR, h.lW, hb2, h.b1, h.b2, h.b3⟩
end
theorem cell_but' {w w' : World} {b : Nat} (h : w.grownBy w' (some b)) {a : Addr} {v : Value} (hc : w.cell? a = some v) (hne : a.block ≠ b) : w'.cell? a = some v := Mk.cell_but h hne hc
set_option maxRecDepth 100000 in
set_option maxHeartbeats 4000000 in
theorem step_walk (w0 w : World) (b br bw rb : Nat) (num ts : Int) (N : Nat) (vR vW : Value) (R W : List S96) (h : PairAt w0 w b br bw rb num ts N vR vW R W) (kd : Int) (key val : ByteArray) (fd : Bool) (hk : key.size ≤ maxLen) (hv : val.size ≤ maxLen) (hN : N < maxLen) :
    Calls Try.prog 19 #[.pointer (some ⟨b, 0, none⟩), .pointer (some ⟨rb, 0, none⟩), .agg #[.int .i64 kd, .string key, .string val, .bool fd]] w fun e w' => ∃ (vR' vW' : Value) (R' W' : List S96), e = .returned (.bool true) ∧ PairAt w0 w' b br bw rb num ts (N + 1) vR' vW' R' W' := by
  have H := Aside0.mk h
  have HS := Aside0.mk (And.intro hk (And.intro hv hN))
  have HNE := Aside0.mk h.ne
  have HGE : Aside0 (w.heap.size ≠ b ∧ w.heap.size ≠ br ∧ w.heap.size ≠ bw ∧ w.heap.size ≠ rb) := ⟨⟨Nat.ne_of_gt h.txn.lt, Nat.ne_of_gt h.txn.reads.lt, Nat.ne_of_gt h.txn.writes.lt, Nat.ne_of_gt h.ref.lt⟩⟩
  clear h hk hv hN
  go_enter Try.func19, Try.ntmps19
  go_wp2_with fail
  refine (Txn.among_walk _ kd).mono ?_
  rintro e w1 ⟨rfl, hb⟩
  have HX : Aside0 (w1.heap[w.heap.size]? = some (.cells #[Value.int IntKind.i64 kd, Value.string key, Value.string val, Value.bool fd] 30 (0, 0))) := ⟨blk_below (blk_new w _) hb⟩
  have HP := Aside0.mk ((H.out.below (below_alloc (Below.refl _ _) (Obj.cells #[Value.int IntKind.i64 kd, Value.string key, Value.string val, Value.bool fd] 30))).below hb)
  clear hb H
  generalize w.heap.size = g at *
  generalize (kd.tmod 4 + 4).tmod 4 = r at *
  obtain ⟨c0, c1, c2, c3⟩ := Txn_four HX.out
  by_cases h0 : r = 0
  · subst h0
    go_wp2_with fail
    refine (Txn.get_walk w1 b br bw num ts N _ _ _ _ HP.out.txn key HS.out.1).mono ?_
    rintro e w2 ⟨rfl, hb⟩
    have HX2 := Aside0.mk (blk_below HX.out hb)
    have HP2 := Aside0.mk (HP.out.below hb)
    clear hb c0 c1 c2 c3 HX HP
    obtain ⟨c0, c1, c2, c3⟩ := Txn_four HX2.out
    go_wp2_with fail
    refine (refGet_walk w2 rb num ts vR vW R W HP2.out.ref HP2.out.upR HP2.out.upW HP2.out.lR HP2.out.lW key).mono ?_
    rintro e w3 ⟨rfl, hb⟩
    have HP3 := Aside0.mk (HP2.out.below hb)
    clear hb c0 c1 c2 c3 HX2 HP2
    generalize getV (lookR R) (lookR W) key = x at *
    go_wp2
    go_ret
    exact ⟨vR, vW, R, W, by simp, HP3.out.mono⟩
  · have h0b : (r == 0) = false := by simpa using h0
    have HPd : Aside0 (PairAt w0 w1.drew b br bw rb num ts N vR vW R W) := ⟨HP.out.below (below_drew1 (Below.refl _ _))⟩
    by_cases h1 : r = 1
    · subst h1
      clear h0
      go_wp2_with fail
      go_region_held3 (fun w' => w'.cell? ⟨g, 1, none⟩ = some (.string key) ∧ w'.cell? ⟨g, 2, none⟩ = some (.string val) ∧ w'.cell? ⟨g, 3, none⟩ = some (.bool fd)) (first | exact ⟨c1, c2, c3⟩ | exact ⟨d1, d2, d3⟩ | exact ⟨e1, e2, e3⟩)
        (first
          | (go_at_call 12; refine (Txn.note_walk _ b br bw num ts N _ _ _ _ HPd.out.txn key val fd HS.out.1 HS.out.2.1 HS.out.2.2).mono ?_; rintro e w5 ⟨rfl, hg5, ht5⟩; have d1 := cell_but' hg5 c1 HGE.out.2.1; have d2 := cell_but' hg5 c2 HGE.out.2.1; have d3 := cell_but' hg5 c3 HGE.out.2.1)
          | (go_at_call 45; refine (refNote_walk _ rb num ts vR vW R W (HPd.out.ref.grown hg5 (some_ne HNE.out.2.1) (fun k cells e => by injection e with e; subst e; exact tab_not HPd.out.txn.reads)) HPd.out.upR HPd.out.lR key val fd).mono ?_; rintro e w6 ⟨v6, rfl, hg6, hr6⟩; have e1 := cell_but' hg6 d1 HGE.out.2.2.2; have e2 := cell_but' hg6 d2 HGE.out.2.2.2; have e3 := cell_but' hg6 d3 HGE.out.2.2.2))
      go_wp2
      go_ret
      exact ⟨v6, vW, _, W, rfl, HPd.out.noted hg5 ht5 hg6 hr6⟩
    · have h1b : (r == 1) = false := by simpa using h1
      by_cases h2 : r = 2
      · subst h2
        clear h0 h1
        go_wp2_with fail
        go_region_held3 (fun w' => w'.cell? ⟨g, 1, none⟩ = some (.string key) ∧ w'.cell? ⟨g, 2, none⟩ = some (.string val)) (first | exact ⟨c1, c2⟩ | exact ⟨d1, d2⟩ | exact ⟨e1, e2⟩)
          (first
            | (go_at_call 13; refine (Txn.put_walk _ b br bw num ts N _ _ _ _ HPd.out.txn key val HS.out.1 HS.out.2.1 HS.out.2.2).mono ?_; rintro e w5 ⟨rfl, hg5, ht5⟩; have d1 := cell_but' hg5 c1 HGE.out.2.2.1; have d2 := cell_but' hg5 c2 HGE.out.2.2.1)
            | (go_at_call 46; refine (refWrite_walk _ rb num ts vR vW R W (HPd.out.ref.grown hg5 (some_ne HNE.out.2.2) (fun k cells e => by injection e with e; subst e; exact tab_not HPd.out.txn.writes)) HPd.out.upW HPd.out.lW key val true).mono ?_; rintro e w6 ⟨v6, rfl, hg6, hr6⟩; have e1 := cell_but' hg6 d1 HGE.out.2.2.2; have e2 := cell_but' hg6 d2 HGE.out.2.2.2))
        go_wp2
        go_ret
        exact ⟨vR, v6, R, _, rfl, HPd.out.wrote hg5 ht5 hg6 hr6⟩
      · have h2b : (r == 2) = false := by simpa using h2
        clear h0 h1 h2
        go_wp2_with fail
        go_region_held3 (fun w' => w'.cell? ⟨g, 1, none⟩ = some (.string key)) (first | exact c1 | exact d1 | exact e1)
          (first
            | (go_at_call 14; refine (Txn.delete_walk _ b br bw num ts N _ _ _ _ HPd.out.txn key HS.out.1 HS.out.2.2).mono ?_; rintro e w5 ⟨rfl, hg5, ht5⟩; have d1 := cell_but' hg5 c1 HGE.out.2.2.1)
            | (go_at_call 46; refine (refWrite_walk _ rb num ts vR vW R W (HPd.out.ref.grown hg5 (some_ne HNE.out.2.2) (fun k cells e => by injection e with e; subst e; exact tab_not HPd.out.txn.writes)) HPd.out.upW HPd.out.lW key ⟨#[]⟩ false).mono ?_; rintro e w6 ⟨v6, rfl, hg6, hr6⟩; have e1 := cell_but' hg6 d1 HGE.out.2.2.2))
        go_wp2
        go_ret
        exact ⟨vR, v6, R, _, rfl, HPd.out.wrote hg5 ht5 hg6 hr6⟩
end Go.Proofs.Yteibcojjbcihbaa.PT
