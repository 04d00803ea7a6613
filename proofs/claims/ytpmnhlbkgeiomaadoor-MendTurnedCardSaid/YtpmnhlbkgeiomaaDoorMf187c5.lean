/- Texts of this proof, one behind the other (merged by a program of this session). -/
import Derived.Test.YtpmnhlbkgeiomaaDoorM0481f5
namespace Go.Proofs.YtpmnhlbkgeiomaaDoor.Grd
open Go.RowKit Go.Proofs.YtpmnhlbkgeiomaaDoorW.PrintWords Go.Proofs.YtpmnhlbkgeiomaaDoorW.PrintLast Go.Proofs.YtpmnhlbkgeiomaaDoorW.PrintMore Go.Proofs.YtpmnhlbkgeiomaaDoor.Gf Go.Proofs.YtpmnhlbkgeiomaaDoor.Rowb Go.Proofs.YtpmnhlbkgeiomaaDoor.Fld
set_option linter.unusedVariables false
set_option linter.unusedSimpArgs false
def gridV (g n cap : Nat) : Value := .slice (some ⟨g, 0, none⟩) n cap
/-- What stands beside the grids. -/
structure Side (w : World) (b2 gs : Nat) (cs : Array Value) (W : World) : Prop where
  res : W.heap[b2]? = some (.cells #[.int .i64 0, .int .i64 0, .string ⟨#[]⟩] 90 (0, 0))
  swaps : W.heap[gs]? = some (.cells cs 135 (0, 0))
  bel : Below w.heap.size w W
theorem Side.grown {w W W' : World} {b2 gs b : Nat} {cs : Array Value} (h : Side w b2 gs cs W) (hg : W.grownBy W' (some b)) (hb : w.heap.size ≤ b) (h1 : b2 ≠ b) (h2 : gs ≠ b) : Side w b2 gs cs W' :=
  ⟨blk_grown h.res hg (fun e => h1 (by injection e)), blk_grown h.swaps hg (fun e => h2 (by injection e)), h.bel.trans (below_grown hg hb h.bel.size)⟩
theorem row_ne_blk {w : World} {g p : Nat} {l : List UInt8} {cs : Array Value} {t : TypeId} {fr : Nat × Nat} (h : RowS w p l) (hg : w.heap[g]? = some (.cells cs t fr)) (ht : 5 ≠ t) : g ≠ p := by
  obtain ⟨sp, fr, h, _⟩ := h
  intro e
  subst e
  rw [h] at hg
  injection hg with hg
  injection hg with _ hg _
  exact ht hg
theorem blk_ne_blk {w : World} {g p : Nat} {cs cs' : Array Value} {t t' : TypeId} {fr fr' : Nat × Nat} (h : w.heap[p]? = some (.cells cs' t' fr')) (hg : w.heap[g]? = some (.cells cs t fr)) (ht : t' ≠ t) : g ≠ p := by
  intro e
  subst e
  rw [h] at hg
  injection hg with hg
  injection hg with _ hg _
  exact ht hg
/-- The state: left grid L at gl, right grid R at gr. -/
def State (w : World) (b2 gs : Nat) (cs : Array Value) (f n : Nat) (vL vR : Nat × Nat) (W : World) (L R : Grid) : Prop :=
  ∃ ps qs, TwoAt W w.heap.size (gridV vL.1 n vL.2) ps L (gridV vR.1 n vR.2) qs R f ∧ Side w b2 gs cs W
section
variable {w : World} {b2 gs f n : Nat} {cs : Array Value} {vL vR : Nat × Nat} {W : World} {L R : Grid}
theorem State.symm (h : State w b2 gs cs f n vL vR W L R) : State w b2 gs cs f n vR vL W R L := by
  obtain ⟨ps, qs, h1, h2⟩ := h
  exact ⟨qs, ps, h1.symm, h2⟩
theorem State.heap {W' : World} (h : State w b2 gs cs f n vL vR W L R) (hb : Below W.heap.size W W') : State w b2 gs cs f n vL vR W' L R := by
  obtain ⟨ps, qs, h1, h2⟩ := h
  exact ⟨ps, qs, ⟨h1.gl.below hb, h1.gr.below hb, h1.sep, h1.own, h1.field.below hb⟩, ⟨blk_below h2.res hb, blk_below h2.swaps hb, h2.bel.trans (hb.mono h2.bel.size)⟩⟩
theorem State.row {W' : World} {ps qs : List (Nat × Nat)} {L' : Grid} (h : TwoAt W w.heap.size (gridV vL.1 n vL.2) ps L (gridV vR.1 n vR.2) qs R f) (hs : Side w b2 gs cs W) (hl : GridAt W' w.heap.size (gridV vL.1 n vL.2) ps L') (hf : FieldAt W' f) {p : Nat × Nat} (hp : p ∈ ps) (hg : W.grownBy W' (some p.1)) :
    State w b2 gs cs f n vL vR W' L' R := by
  obtain ⟨l, hr, hb⟩ := h.gl.rowOf hp
  exact ⟨ps, qs, h.row hl hf hp hg, hs.grown hg hb (row_ne_blk hr hs.res (by decide)) (row_ne_blk hr hs.swaps (by decide))⟩
/-- A row is scaled. -/
theorem State.scale (h : State w b2 gs cs f n vL vR W L R) (hL : Sq n L) (hn : n ≤ 255) (c : Nat) (hc : c < n) (x : UInt8) :
    Calls Tryd.prog 74 #[gridV vL.1 n vL.2, .pointer (some ⟨f, 0, none⟩), .int .i64 (c : Int), .int .u8 (x.toNat : Int)] W fun e W' => e = .returned (.tuple #[]) ∧ State w b2 gs cs f n vL vR W' (gjS c x L) R := by
  obtain ⟨ps, qs, h1, h2⟩ := h
  have hcl : c < L.length := by rw [hL.len]; exact hc
  have hrl : L[c].length = n := by have := hL.rows c hc; rwa [rowAt_lt hcl] at this
  refine (scale_walk h1.gl h1.field c hcl (by omega) x).mono fun e W' ⟨he, hg, hf, hgr⟩ => ⟨he, ?_⟩
  unfold gjS
  rw [rowAt_lt hcl]
  exact State.row h1 h2 hg hf (List.getElem_mem _) hgr
/-- A row, scaled, is added to another one. -/
theorem State.add (h : State w b2 gs cs f n vL vR W L R) (hl : L.length = n) (hn : n ≤ 255) (i c : Nat) (hi : i < n) (hc : c < n) (hic : i ≠ c) (hri : (L[i]'(by omega)).length = n) (hrc : (L[c]'(by omega)).length = n) (x : UInt8) :
    Calls Tryd.prog 75 #[gridV vL.1 n vL.2, .pointer (some ⟨f, 0, none⟩), .int .i64 (i : Int), .int .u8 (x.toNat : Int), .int .i64 (c : Int)] W fun e W' => e = .returned (.tuple #[]) ∧ State w b2 gs cs f n vL vR W' (L.set i (addR x (L[c]'(by omega)) (L[i]'(by omega)))) R := by
  obtain ⟨ps, qs, h1, h2⟩ := h
  refine (add_walk h1.gl h1.field i c (by omega) (by omega) hic (by omega) (by omega) x).mono fun e W' ⟨he, hg, hf, hgr⟩ => ⟨he, ?_⟩
  exact State.row h1 h2 hg hf (List.getElem_mem _) hgr
/-- Two rows change places. -/
theorem State.swap (h : State w b2 gs cs f n vL vR W L R) (hl : L.length = n) (a b : Nat) (ha : a < n) (hb : b < n) :
    Calls Tryd.prog 73 #[gridV vL.1 n vL.2, .int .i64 (a : Int), .int .i64 (b : Int)] W fun e W' => e = .returned (.tuple #[]) ∧ State w b2 gs cs f n vL vR W' (swapR L a b) R := by
  obtain ⟨ps, qs, h1, h2⟩ := h
  refine (swap_walk h1.gl a b (by omega) (by omega)).mono fun e W' ⟨he, hg, hgr⟩ => ⟨he, ?_⟩
  have hgr' : W.grownBy W' (some vL.1) := hgr
  obtain ⟨_, hbg, cur, hh, _⟩ := h1.gl.outerSet (by omega)
  exact ⟨_, qs, h1.outer hg (by omega) (fun p hp => mem_swapL _ _ _ _ _ hp) hgr', h2.grown hgr' hbg (blk_ne_blk hh h2.res (by decide)) (blk_ne_blk hh h2.swaps (by decide))⟩
theorem State.read (h : State w b2 gs cs f n vL vR W L R) (hL : L.length = n) (i j : Nat) (hi : i < n) (hj : j < (L[i]'(by omega)).length) :
    ∃ p : Nat × Nat, W.cell? ⟨vL.1, i, none⟩ = some (.slice (some ⟨p.1, 0, none⟩) (L[i]'(by omega)).length p.2) ∧ W.cell? ⟨p.1, j, none⟩ = some (.int .u8 (((L[i]'(by omega))[j]).toNat : Int)) := by
  obtain ⟨ps, qs, h1, h2⟩ := h
  have hp : i < ps.length := by rw [h1.gl.len]; omega
  refine ⟨ps[i], (h1.gl.rowCell i (by omega) hp).1, ?_⟩
  exact (h1.gl.row i _ _ (List.getElem?_eq_getElem hp) (List.getElem?_eq_getElem (by omega))).2.2.cell j hj
theorem State.field (h : State w b2 gs cs f n vL vR W L R) : FieldAt W f := by
  obtain ⟨ps, qs, h1, h2⟩ := h
  exact h1.field
theorem State.side (h : State w b2 gs cs f n vL vR W L R) : Side w b2 gs cs W := by
  obtain ⟨ps, qs, h1, h2⟩ := h
  exact h2
end
end Go.Proofs.YtpmnhlbkgeiomaaDoor.Grd
namespace Go.Proofs.YtpmnhlbkgeiomaaDoor.Grd
open Go.RowKit Go.Proofs.YtpmnhlbkgeiomaaDoorW.PrintWords Go.Proofs.YtpmnhlbkgeiomaaDoorW.PrintLast Go.Proofs.YtpmnhlbkgeiomaaDoorW.PrintMore Go.Proofs.YtpmnhlbkgeiomaaDoor.Gf Go.Proofs.YtpmnhlbkgeiomaaDoor.Rowb Go.Proofs.YtpmnhlbkgeiomaaDoor.Fld
set_option linter.unusedVariables false
set_option linter.unusedSimpArgs false
theorem two_start {w w3 w4 : World} {B f : Nat} {vl vr : Value} {ps qs : List (Nat × Nat)} {M R : Grid} (hg : GridAt w3 B vl ps M) (hB : w.heap.size ≤ B) (hgr : GridAt w4 w3.heap.size vr qs R) (hw3 : w.heap.size ≤ w3.heap.size) (hb4 : Below w3.heap.size w3 w4) (hf : FieldAt w3 f) (hM : 0 < M.length) (hR : 0 < R.length) :
    ∃ (l r : Nat × Nat), vl = gridV l.1 M.length l.2 ∧ vr = gridV r.1 R.length r.2 ∧ TwoAt w4 w.heap.size vl ps M vr qs R f := by
  obtain ⟨gl, capl, curl, hvl, hgl, hhl, _, _⟩ := hg.form hM
  obtain ⟨gr, capr, curr, hvr, hgr2, hhr, _, _⟩ := hgr.form hR
  refine ⟨(gl, capl), (gr, capr), hvl, hvr, (hg.below hb4).lower hB, hgr.lower hw3, fun p hp q hq e => ?_, fun e => ?_, hf.below hb4⟩
  · obtain ⟨l, hr, _⟩ := hg.rowOf hp
    obtain ⟨l2, _, hq2⟩ := hgr.rowOf hq
    have := hr.lt
    omega
  · rw [hvl, hvr] at e
    have e' : gl = gr := by injection e
    have := blk_lt hhl
    omega
theorem step_facts {n c : Nat} {L Q R : Grid} (hL : Sq n L) (hc : c < n) (h : gj (n - c) c L Q = some R) :
    ∃ pv, pivot L c = pv ∧ c ≤ pv ∧ pv < n ∧ at2 L pv c ≠ 0 ∧ (∀ i, c ≤ i → i < pv → at2 L i c = 0) ∧ gj (n - (c + 1)) (c + 1) (stepL c L) (stepR c L Q) = some R := by
  obtain ⟨m, hm⟩ : ∃ m, n - c = m + 1 := ⟨n - c - 1, by omega⟩
  rw [hm] at h
  unfold gj at h
  by_cases e : pivot L c = L.length
  · rw [if_pos e] at h
    cases h
  · rw [if_neg e] at h
    have hle := pivotGo_le L c (L.length - c) c
    have hpv : pivot L c = pivotGo L c (L.length - c) c := rfl
    have hl := hL.len
    refine ⟨pivot L c, rfl, by omega, by omega, ?_, fun i h1 h2 => pivotGo_before L c (L.length - c) c i h1 (by omega), ?_⟩
    · rw [hpv]
      exact pivotGo_at L c _ c (by omega)
    · rw [show n - (c + 1) = m by omega]
      exact h
theorem at2_get {n : Nat} {L : Grid} (hL : Sq n L) (i j : Nat) (hi : i < n) (hj : j < n) : ∃ (h1 : i < L.length) (h2 : j < L[i].length), L[i][j] = at2 L i j := by
  have h1 : i < L.length := by rw [hL.len]; exact hi
  have hr := hL.rows i hi
  rw [rowAt_lt h1] at hr
  refine ⟨h1, by omega, ?_⟩
  unfold at2
  rw [rowAt_lt h1, List.getD_eq_getElem?_getD, List.getElem?_eq_getElem (by omega)]
  rfl
theorem State.peek {w : World} {b2 gs f n : Nat} {cs : Array Value} {vL vR : Nat × Nat} {W : World} {L R : Grid} (h : State w b2 gs cs f n vL vR W L R) (hL : Sq n L) (i j : Nat) (hi : i < n) (hj : j < n) :
    ∃ p : Nat × Nat, W.cell? ⟨vL.1, i, none⟩ = some (.slice (some ⟨p.1, 0, none⟩) n p.2) ∧ W.cell? ⟨p.1, j, none⟩ = some (.int .u8 ((at2 L i j).toNat : Int)) := by
  obtain ⟨h1, h2, e⟩ := at2_get hL i j hi hj
  obtain ⟨p, c1, c2⟩ := h.read hL.len i j hi h2
  have hr := hL.rows i hi
  rw [rowAt_lt h1] at hr
  rw [hr] at c1
  rw [e] at c2
  exact ⟨p, c1, c2⟩
theorem clear_read {w : World} {b2 gs f n : Nat} {cs : Array Value} {vL vR : Nat × Nat} {W : World} {L R : Grid} {i c : Nat} (h : State w b2 gs cs f n vL vR W (clearP c L L i) R) (hL : Sq n L) (hi : i < n) (hc : c < n) :
    ∃ p : Nat × Nat, W.cell? ⟨vL.1, i, none⟩ = some (.slice (some ⟨p.1, 0, none⟩) n p.2) ∧ W.cell? ⟨p.1, c, none⟩ = some (.int .u8 ((at2 L i c).toNat : Int)) := by
  obtain ⟨h1, h2, e⟩ := at2_get hL i c hi hc
  have hr := hL.rows i hi
  rw [rowAt_lt h1] at hr
  have eg : (clearP c L L i)[i]'(by rw [clearP_len]; exact h1) = L[i] := by rw [clearP_get _ _ _ _ _ h1, if_neg (by omega)]
  obtain ⟨p, c1, c2⟩ := h.read (by rw [clearP_len]; exact hL.len) i c hi (by rw [eg]; exact h2)
  have e3 : ((clearP c L L i)[i]'(by rw [clearP_len]; exact h1)).length = n := by rw [eg, hr]
  rw [e3] at c1
  refine ⟨p, c1, ?_⟩
  rw [c2]
  congr 3
  have : ((clearP c L L i)[i]'(by rw [clearP_len]; exact h1))[c]? = L[i][c]? := by rw [eg]
  rw [List.getElem?_eq_getElem (by rw [eg]; exact h2), List.getElem?_eq_getElem h2] at this
  injection this with this
  rw [this, e]
theorem State.clear {w : World} {b2 gs f n : Nat} {cs : Array Value} {vL vR : Nat × Nat} {W : World} {L M R : Grid} {i c : Nat} (h : State w b2 gs cs f n vL vR W (clearP c L M i) R) (hM : Sq n M) (hn : n ≤ 255) (hi : i < n) (hc : c < n) (hic : i ≠ c) :
    Calls Tryd.prog 75 #[gridV vL.1 n vL.2, .pointer (some ⟨f, 0, none⟩), .int .i64 (i : Int), .int .u8 ((at2 L i c).toNat : Int), .int .i64 (c : Int)] W fun e W' => e = .returned (.tuple #[]) ∧ State w b2 gs cs f n vL vR W' (clearP c L M (i + 1)) R := by
  have h1 : i < M.length := by rw [hM.len]; exact hi
  have h2 : c < M.length := by rw [hM.len]; exact hc
  have hri := hM.rows i hi
  have hrc := hM.rows c hc
  rw [rowAt_lt h1] at hri
  rw [rowAt_lt h2] at hrc
  have ei : (clearP c L M i)[i]'(by rw [clearP_len]; exact h1) = M[i] := by rw [clearP_get _ _ _ _ _ h1, if_neg (by omega)]
  have ec : (clearP c L M i)[c]'(by rw [clearP_len]; exact h2) = M[c] := by rw [clearP_get _ _ _ _ _ h2, if_neg (by omega)]
  have := h.add (by rw [clearP_len]; exact hM.len) hn i c hi hc hic (by rw [ei]; exact hri) (by rw [ec]; exact hrc) (at2 L i c)
  have e4 := clearP_set c L M i h1 hic
  rw [rowAt_lt h2] at e4
  have e5 : (clearP c L M i).set i (addR (at2 L i c) ((clearP c L M i)[c]'(by rw [clearP_len]; exact h2)) ((clearP c L M i)[i]'(by rw [clearP_len]; exact h1))) = clearP c L M (i + 1) := by
    rw [← e4]
    congr 1
    rw [ei, ec]
  rw [e5] at this
  exact this
theorem clear_keep {n i c : Nat} {L M : Grid} (hM : Sq n M) (hi : i < n) (hc : c < n) (h : i = c ∨ at2 L i c = 0) : clearP c L M (i + 1) = clearP c L M i := by
  have h1 : i < M.length := by rw [hM.len]; exact hi
  have hri := hM.rows i hi
  have hrc := hM.rows c hc
  rw [rowAt_lt h1] at hri
  refine clearP_same c L M i h1 (h.imp_right (fun e => ?_))
  rw [e]
  exact add_none _ _ (by rw [hrc, hri])
theorem clear_end {n c : Nat} {L M : Grid} (hM : Sq n M) : clearP c L M n = clearC c L M := by rw [← clearP_full, hM.len]
theorem TwoAt.alloc {w : World} {base f : Nat} {v u : Value} {ps qs : List (Nat × Nat)} {L R : Grid} (h : TwoAt w base v ps L u qs R f) (o : Obj) : TwoAt (w.alloc o) base v ps L u qs R f :=
  have hb : Below w.heap.size w (w.alloc o) := (Below.refl _ _).alloc (Nat.le_refl _) _
  ⟨h.gl.below hb, h.gr.below hb, h.sep, h.own, h.field.below hb⟩
theorem World.Below_trans_ {w w2 w3 : World} (h : Below w.heap.size w w2) (h3 : Below w2.heap.size w2 w3) : Below w.heap.size w w3 := h.trans (h3.mono h.size)
set_option maxRecDepth 100000 in
set_option maxHeartbeats 60000000 in
theorem inverse_walk (w : World) (n : Nat) (M R : Grid) (hM : Sq n M) (hn1 : 1 ≤ n) (hn2 : n ≤ 255) (hR : inverse M = some R) :
    Calls Tryd.prog 54 #[matV n n M.flatten] w fun e w' => e = .returned (.tuple #[matV n n R.flatten, .int .i64 0]) ∧ Below w.heap.size w w' := by
  have hrows : ∀ r, r ∈ M → r.length = n := fun r hr => by
    obtain ⟨i, hi, rfl⟩ := List.getElem_of_mem hr
    have := hM.rows i (by rw [← hM.len]; exact hi)
    rwa [rowAt_lt hi] at this
  have hfl : M.flatten.length = n * n := by rw [flat_len M hrows, hM.len]
  have HC : Aside0 (∀ W, Calls Tryd.prog 71 #[matV n n M.flatten] W fun e w' => e = .returned (.int .i64 0) ∧ Below W.heap.size W w') := ⟨fun W => check_walk W n n _ hn1 hn2 hn1 hn2 hfl⟩
  have HO : Aside0 (∀ W, Calls Tryd.prog 72 #[matV n n M.flatten] W (IsGrid M W)) := ⟨fun W => by
    have := of_walk W M n hrows (by rw [hM.len]; exact hn1) (by rw [hM.len]; exact hn2) hn2
    rw [hM.len] at this
    exact this⟩
  have H1 : Aside0 (∀ W, Calls Tryd.prog 64 #[.int .i64 (n : Int)] W (IsOne n W)) := ⟨fun W => one_walk W n hn2⟩
  have HN : Aside0 (∀ W, Calls Tryd.prog 45 #[] W (Made W)) := ⟨fun W => new_walk W⟩
  unfold matV at HC HO ⊢
  obtain ⟨t, ht⟩ : ∃ t : ByteArray, t = ⟨M.flatten.toArray⟩ := ⟨_, rfl⟩
  rw [← ht] at HC HO ⊢
  clear ht hfl hrows
  go_enter Tryd.func54, Tryd.ntmps54
  have hbx : (w.alloc (.cells #[.int .i64 (n : Int), .int .i64 (n : Int), .string t] 90)).heap[w.heap.size]? = some (.cells #[.int .i64 (n : Int), .int .i64 (n : Int), .string t] 90 (0, 0)) := blk_new _ _
  go_wp2_with fail
  refine (HC.out _).mono ?_
  rintro e w1 ⟨rfl, hb1⟩
  have hsz1 : w.heap.size + 2 ≤ w1.heap.size := by
    have := hb1.size
    simpa using this
  have X1 := Aside0.mk (blk_below (blk_alloc hbx (.cells #[.int .i64 0, .int .i64 0, .string ⟨#[]⟩] 90 (0, 0))) hb1)
  have R1 : Aside0 (w1.heap[w.heap.size + 1]? = some (.cells #[.int .i64 0, .int .i64 0, .string ⟨#[]⟩] 90 (0, 0))) := ⟨by
    have := blk_below (blk_new (w.alloc (.cells #[.int .i64 (n : Int), .int .i64 (n : Int), .string t] 90)) (.cells #[.int .i64 0, .int .i64 0, .string ⟨#[]⟩] 90 (0, 0))) hb1
    simpa using this⟩
  have B1 : Aside0 (Below w.heap.size w w1) := ⟨(((Below.refl _ _).alloc (Nat.le_refl _) _).alloc (by simp) _).trans (hb1.mono (by simp; omega))⟩
  clear hb1 hbx
  have c10 := blk_cell X1.out 0
  have c11 := blk_cell X1.out 1
  have c12 := blk_cell X1.out 2
  go_wp2_with fail
  refine (HN.out _).mono ?_
  rintro e w2 ⟨rfl, hf2, hb2⟩
  have X2 := Aside0.mk (blk_below X1.out hb2)
  have R2 := Aside0.mk (blk_below R1.out hb2)
  have B2 : Aside0 (Below w.heap.size w w2) := ⟨B1.out.trans (hb2.mono B1.out.size)⟩
  have F2 := Aside0.mk hf2
  have hfw : w.heap.size ≤ w1.heap.size := B1.out.size
  obtain ⟨f, hfe⟩ : ∃ f, w1.heap.size = f := ⟨_, rfl⟩
  rw [hfe] at F2 ⊢
  clear hb2 hf2 c10 c11 c12 X1 R1 B1 HN HC
  have c20 := blk_cell X2.out 0
  have c21 := blk_cell X2.out 1
  have c22 := blk_cell X2.out 2
  go_wp2_with fail
  go_region_law (first
    | (go_simp; go_at_call 72; refine (HO.out _).mono ?_; rintro e w3 ⟨vl, ps, rfl, hgl, hb3⟩; have X3 := Aside0.mk (blk_below (by exact X2.out) hb3); have R3 := Aside0.mk (blk_below (by exact R2.out) hb3); have F3 := Aside0.mk (Fld.FieldAt.below (by exact F2.out) hb3); have B3 : Aside0 (Below w.heap.size w w3) := ⟨World.Below_trans_ (by repeat (first | exact B2.out | apply below_drew1 | apply pw_below_drewN)) hb3⟩; have G3 := Aside0.mk hgl; have c30 := blk_cell X3.out 0; clear hb3 hgl)
    | (go_simp; go_at_call 64; refine (H1.out _).mono ?_; rintro e w4 ⟨vr, qs, rfl, hgr, _, hb4⟩; have HT := Aside0.mk (And.intro hgr hb4); clear hgr hb4))
  all_goals
    have hM0 : 0 < M.length := by rw [hM.len]; exact hn1
    have hol : (oneG n).length = n := by simp [oneG]
    obtain ⟨vL, vR, hvl, hvr, h2⟩ := two_start G3.out B2.out.size HT.out.1 B3.out.size (by exact HT.out.2) F3.out hM0 (by rw [hol]; exact hn1)
    rw [hM.len] at hvl
    rw [hol] at hvr
    have H2 := Aside0.mk h2
    have R4 := Aside0.mk (blk_below (by exact R3.out) (by exact HT.out.2))
    have B4 : Aside0 (Below w.heap.size w w4) := ⟨World.Below_trans_ (by exact B3.out) (by exact HT.out.2)⟩
    subst hvl hvr
    clear h2 HT G3 R3 B3 F3 X3 X2 R2 B2 F2 c30 c20 c21 c22 hM0 HO H1
    obtain ⟨gl, cl⟩ := vL
    obtain ⟨gr, cr⟩ := vR
    dsimp only [gridV]
    go_wp2_with fail
    have HS0 : Aside0 (State w (w.heap.size + 1) w4.heap.size #[.func (.func 73) #[.slice (some ⟨gl, 0, none⟩) n cl] #[], .func (.func 73) #[.slice (some ⟨gr, 0, none⟩) n cr] #[]] f n (gl, cl) (gr, cr) (w4.alloc (.cells #[.func (.func 73) #[.slice (some ⟨gl, 0, none⟩) n cl] #[], .func (.func 73) #[.slice (some ⟨gr, 0, none⟩) n cr] #[]] 135)) M (oneG n)) := ⟨ps, qs, H2.out.alloc _, blk_alloc R4.out _, blk_new _ _, B4.out.alloc B4.out.size _⟩
    have HJ0 : Aside0 (gj (n - 0) 0 M (oneG n) = some R ∧ Sq n M ∧ Sq n (oneG n)) := ⟨by have := hR; unfold inverse at this; rw [hM.len] at this; exact this, hM, one_sq n⟩
    obtain ⟨gs, hgs⟩ : ∃ gs, w4.heap.size = gs := ⟨_, rfl⟩
    rw [hgs] at HS0 ⊢
    have hgs2 : w.heap.size + 2 ≤ gs := by
      have := blk_lt R4.out
      omega
    clear hgs H2 R4 B4
    go_loopw [40] (fun i W => ∃ (c : Nat) (L Q : Grid), c ≤ n ∧ i = .int .i64 (c : Int) ∧ Aside0 (State w (w.heap.size + 1) gs #[.func (.func 73) #[.slice (some ⟨gl, 0, none⟩) n cl] #[], .func (.func 73) #[.slice (some ⟨gr, 0, none⟩) n cr] #[]] f n (gl, cl) (gr, cr) W L Q) ∧ Aside0 (gj (n - c) c L Q = some R ∧ Sq n L ∧ Sq n Q)) (fun i _ => n - (intOf i).toNat)
    case atStart => exact ⟨0, M, oneG n, by omega, rfl, HS0, HJ0⟩
    case round =>
      obtain ⟨c, L, Q, hcn, rfl, HS, HJ⟩ := hrel
      clear HS0 HJ0
      by_cases hlt : c < n
      · obtain ⟨pv, hpe, hcp, hpn, hpz, hpb, hgj⟩ := step_facts HJ.out.2.1 hlt HJ.out.1
        have HPB := Aside0.mk hpb
        have HPZ := Aside0.mk hpz
        have HPE := Aside0.mk hpe
        have HGJ := Aside0.mk hgj
        have HSL := Aside0.mk HJ.out.2.1
        have HSQ := Aside0.mk HJ.out.2.2
        clear hpb hpz hpe hgj HJ
        go_wp2_with fail
        go_loopw [9] (fun v W => ∃ a : Nat, c ≤ a ∧ a ≤ pv ∧ v = .int .i64 (a : Int) ∧ Aside0 (State w (w.heap.size + 1) gs #[.func (.func 73) #[.slice (some ⟨gl, 0, none⟩) n cl] #[], .func (.func 73) #[.slice (some ⟨gr, 0, none⟩) n cr] #[]] f n (gl, cl) (gr, cr) W L Q)) (fun v _ => n - (intOf v).toNat)
        case atStart => exact ⟨c, by omega, hcp, rfl, HS⟩
        case round =>
          obtain ⟨a, hca, hap, rfl, HS1⟩ := hrel
          clear HS
          obtain ⟨q, k1, k2⟩ := HS1.out.peek HSL.out a c (by omega) hlt
          obtain ⟨q1, q2⟩ := q
          have han : a < n := by omega
          by_cases hav : a = pv
          · subst hav
            obtain ⟨z, hz⟩ : ∃ z, (at2 L a c).toNat = z := ⟨_, rfl⟩
            have hz0 : ¬ z = 0 := fun e => HPZ.out (b_ext (by rw [hz, e]; rfl))
            rw [hz] at k2
            have hzl : z < 256 := by rw [← hz]; exact b_lt _
            clear hz
            go_wp2_with fail
            clear k1 k2 hz0 hzl
            go_loopw [67] (fun v W => ∃ k : Nat, k ≤ 2 ∧ v = .int .i64 (k : Int) ∧ Aside0 (State w (w.heap.size + 1) gs #[.func (.func 73) #[.slice (some ⟨gl, 0, none⟩) n cl] #[], .func (.func 73) #[.slice (some ⟨gr, 0, none⟩) n cr] #[]] f n (gl, cl) (gr, cr) W (if 1 ≤ k then swapR L c a else L) (if 2 ≤ k then swapR Q c a else Q))) (fun v _ => 2 - (intOf v).toNat)
            case atStart => exact ⟨0, by omega, rfl, HS1⟩
            case round =>
              obtain ⟨k, hk2, rfl, HS2⟩ := hrel
              clear HS1
              have hk3 : k = 0 ∨ k = 1 ∨ k = 2 := by omega
              rcases hk3 with rfl | rfl | rfl
              · rw [if_neg (by omega), if_neg (by omega)] at HS2
                have s0 := blk_cell HS2.out.side.swaps 0
                go_wp2_with fail
                refine (HS2.out.swap HSL.out.len c a hlt han).mono ?_
                rintro e w5 ⟨rfl, hs5⟩
                have HS5 := Aside0.mk hs5
                clear hs5 HS2 s0
                go_wp2_with fail
                go_roundw
                case rel => exact ⟨1, by omega, by go_num, HS5⟩
                case measure => simp [intOf]
              · rw [if_pos (by omega), if_neg (by omega)] at HS2
                have s1 := blk_cell HS2.out.side.swaps 1
                go_wp2_with fail
                refine (HS2.out.symm.swap HSQ.out.len c a hlt han).mono ?_
                rintro e w5 ⟨rfl, hs5⟩
                have HS5 := Aside0.mk hs5.symm
                clear hs5 HS2 s1
                go_wp2_with fail
                go_roundw
                case rel => exact ⟨2, by omega, by go_num, HS5⟩
                case measure => simp [intOf]
              · rw [if_pos (by omega), if_pos (by omega)] at HS2
                have hL1 : Sq n (swapR L c a) := sq_swap HSL.out hlt han
                have hQ1 : Sq n (swapR Q c a) := sq_swap HSQ.out hlt han
                have hat : at2 (swapR L c a) c c ≠ 0 := by
                  rw [at2_swap HSL.out hlt han]
                  by_cases e : c = a
                  · rw [if_pos e]
                    have := HPZ.out
                    rw [← e] at this
                    exact this
                  · rw [if_neg e, if_pos rfl]
                    exact HPZ.out
                obtain ⟨L1, hL1e⟩ : ∃ L1, L1 = swapR L c a := ⟨_, rfl⟩
                obtain ⟨Q1, hQ1e⟩ : ∃ Q1, Q1 = swapR Q c a := ⟨_, rfl⟩
                rw [← hL1e] at HS2 hL1 hat
                rw [← hQ1e] at HS2 hQ1
                obtain ⟨q, k1, k2⟩ := HS2.out.peek hL1 c c hlt hlt
                obtain ⟨q1, q2⟩ := q
                have HI : Aside0 (∀ W : World, W.heap = wr.heap → Calls Tryd.prog 65 #[.pointer (some ⟨f, 0, none⟩), .int .u8 ((at2 L1 c c).toNat : Int)] W fun e w' => e = .returned (.tuple #[.int .u8 ((ginv (at2 L1 c c)).toNat : Int), .int .i64 0]) ∧ Drawn0 W w') := ⟨fun W hW => inv_walk (by have := HS2.out.field; unfold FieldAt at this ⊢; rw [hW]; exact this) _ hat⟩
                have HX : Aside0 (gjBy c L = ginv (at2 L1 c c) ∧ gjL c L = L1 ∧ swapR Q c (pivot L c) = Q1) := ⟨by
                  have e1 : gjL c L = L1 := by unfold gjL; rw [HPE.out, hL1e]
                  refine ⟨by unfold gjBy; rw [e1], e1, by rw [HPE.out, hQ1e]⟩⟩
                clear hL1e hQ1e hat
                have HL1 := Aside0.mk hL1
                have HQ1 := Aside0.mk hQ1
                clear hL1 hQ1
                obtain ⟨y, hy⟩ : ∃ y, ginv (at2 L1 c c) = y := ⟨_, rfl⟩
                rw [hy] at HX HI
                obtain ⟨yo, hyo⟩ : ∃ yo, (at2 L1 c c).toNat = yo := ⟨_, rfl⟩
                have hyob : yo < 256 := by rw [← hyo]; exact b_lt _
                rw [hyo] at k2 HI
                have hyb := b_lt y
                clear hy hyo
                go_wp2_with fail
                refine (HI.out _ (by rfl)).mono ?_
                rintro e w6 ⟨rfl, ⟨nd, rfl⟩⟩
                have HS6 := Aside0.mk (HS2.out.heap (pw_below_drewN (Below.refl _ _) nd))
                clear HS2 HI k1 k2
                go_wp2_with fail
                refine (HS6.out.scale HL1.out hn2 c hlt y).mono ?_
                rintro e w7 ⟨rfl, hs7⟩
                have HS7 := Aside0.mk hs7
                clear hs7 HS6
                go_wp2_with fail
                refine (HS7.out.symm.scale HQ1.out hn2 c hlt y).mono ?_
                rintro e w8 ⟨rfl, hs8⟩
                have HS8 := Aside0.mk hs8.symm
                have hL2 : Sq n (gjS c y L1) := sq_scale HL1.out hlt y
                have hQ2 : Sq n (gjS c y Q1) := sq_scale HQ1.out hlt y
                have HST : Aside0 (clearC c (gjS c y L1) (gjS c y L1) = stepL c L ∧ clearC c (gjS c y L1) (gjS c y Q1) = stepR c L Q) := ⟨by
                  unfold stepL stepR
                  rw [HX.out.2.2, HX.out.1, HX.out.2.1]
                  obtain ⟨h1, h2, h3⟩ := HX.out
                  exact ⟨rfl, rfl⟩⟩
                obtain ⟨L2, hL2e⟩ : ∃ L2, gjS c y L1 = L2 := ⟨_, rfl⟩
                obtain ⟨Q2, hQ2e⟩ : ∃ Q2, gjS c y Q1 = Q2 := ⟨_, rfl⟩
                rw [hL2e] at HS8 hL2 HST
                rw [hQ2e] at HS8 hQ2 HST
                have HL2 := Aside0.mk hL2
                have HQ2 := Aside0.mk hQ2
                have HS9 : Aside0 (State w (w.heap.size + 1) gs #[.func (.func 73) #[.slice (some ⟨gl, 0, none⟩) n cl] #[], .func (.func 73) #[.slice (some ⟨gr, 0, none⟩) n cr] #[]] f n (gl, cl) (gr, cr) w8 (clearP c L2 L2 0) (clearP c L2 Q2 0)) := ⟨by rw [clearP_zero, clearP_zero]; exact HS8.out⟩
                clear hs8 HS7 HS8 hL2e hQ2e hL2 hQ2 HL1 HQ1 HX
                go_wp2_with fail
                go_loopw [100] (fun v W => ∃ i : Nat, i ≤ n ∧ v = .int .i64 (i : Int) ∧ Aside0 (State w (w.heap.size + 1) gs #[.func (.func 73) #[.slice (some ⟨gl, 0, none⟩) n cl] #[], .func (.func 73) #[.slice (some ⟨gr, 0, none⟩) n cr] #[]] f n (gl, cl) (gr, cr) W (clearP c L2 L2 i) (clearP c L2 Q2 i))) (fun v _ => n - (intOf v).toNat)
                case atStart => exact ⟨0, by omega, rfl, HS9⟩
                case round =>
                  obtain ⟨i, hin, rfl, HS10⟩ := hrel
                  clear HS9
                  by_cases hil : i < n
                  · obtain ⟨q, k1, k2⟩ := clear_read HS10.out HL2.out hil hlt
                    obtain ⟨q1, q2⟩ := q
                    by_cases hic : i = c
                    · have HK : Aside0 (clearP c L2 L2 (i + 1) = clearP c L2 L2 i ∧ clearP c L2 Q2 (i + 1) = clearP c L2 Q2 i) := ⟨clear_keep HL2.out hil hlt (.inl hic), clear_keep HQ2.out hil hlt (.inl hic)⟩
                      have HS11 : Aside0 (State w (w.heap.size + 1) gs #[.func (.func 73) #[.slice (some ⟨gl, 0, none⟩) n cl] #[], .func (.func 73) #[.slice (some ⟨gr, 0, none⟩) n cr] #[]] f n (gl, cl) (gr, cr) wr (clearP c L2 L2 (i + 1)) (clearP c L2 Q2 (i + 1))) := ⟨by rw [HK.out.1, HK.out.2]; exact HS10.out⟩
                      have hbc : ((i : Int) != (c : Int)) = false := by simp [hic]
                      have hic2 : (i : Int) = (c : Int) := by omega
                      have hyb2 := b_lt (at2 L2 i c)
                      generalize (at2 L2 i c).toNat = z at *
                      subst hic
                      go_wp2_with fail
                      go_roundw
                      case rel => exact ⟨i + 1, by omega, by go_num, HS11⟩
                      case measure => simp [intOf]; omega
                    · by_cases hz : at2 L2 i c = 0
                      · have HK : Aside0 (clearP c L2 L2 (i + 1) = clearP c L2 L2 i ∧ clearP c L2 Q2 (i + 1) = clearP c L2 Q2 i) := ⟨clear_keep HL2.out hil hlt (.inr hz), clear_keep HQ2.out hil hlt (.inr hz)⟩
                        have HS11 : Aside0 (State w (w.heap.size + 1) gs #[.func (.func 73) #[.slice (some ⟨gl, 0, none⟩) n cl] #[], .func (.func 73) #[.slice (some ⟨gr, 0, none⟩) n cr] #[]] f n (gl, cl) (gr, cr) wr (clearP c L2 L2 (i + 1)) (clearP c L2 Q2 (i + 1))) := ⟨by rw [HK.out.1, HK.out.2]; exact HS10.out⟩
                        rw [hz] at k2
                        have k3 : ((0 : UInt8).toNat : Int) = 0 := rfl
                        rw [k3] at k2
                        clear hz
                        go_wp2_with fail
                        go_roundw
                        case rel => exact ⟨i + 1, by omega, by go_num, HS11⟩
                        case measure => simp [intOf]; omega
                      · have HA1 : Aside0 (∀ W R', State w (w.heap.size + 1) gs #[.func (.func 73) #[.slice (some ⟨gl, 0, none⟩) n cl] #[], .func (.func 73) #[.slice (some ⟨gr, 0, none⟩) n cr] #[]] f n (gl, cl) (gr, cr) W (clearP c L2 L2 i) R' → Calls Tryd.prog 75 #[.slice (some ⟨gl, 0, none⟩) n cl, .pointer (some ⟨f, 0, none⟩), .int .i64 (i : Int), .int .u8 ((at2 L2 i c).toNat : Int), .int .i64 (c : Int)] W fun e W' => e = .returned (.tuple #[]) ∧ State w (w.heap.size + 1) gs #[.func (.func 73) #[.slice (some ⟨gl, 0, none⟩) n cl] #[], .func (.func 73) #[.slice (some ⟨gr, 0, none⟩) n cr] #[]] f n (gl, cl) (gr, cr) W' (clearP c L2 L2 (i + 1)) R') := ⟨fun W R' h => h.clear HL2.out hn2 hil hlt hic⟩
                        have HA2 : Aside0 (∀ W L', State w (w.heap.size + 1) gs #[.func (.func 73) #[.slice (some ⟨gl, 0, none⟩) n cl] #[], .func (.func 73) #[.slice (some ⟨gr, 0, none⟩) n cr] #[]] f n (gl, cl) (gr, cr) W L' (clearP c L2 Q2 i) → Calls Tryd.prog 75 #[.slice (some ⟨gr, 0, none⟩) n cr, .pointer (some ⟨f, 0, none⟩), .int .i64 (i : Int), .int .u8 ((at2 L2 i c).toNat : Int), .int .i64 (c : Int)] W fun e W' => e = .returned (.tuple #[]) ∧ State w (w.heap.size + 1) gs #[.func (.func 73) #[.slice (some ⟨gl, 0, none⟩) n cl] #[], .func (.func 73) #[.slice (some ⟨gr, 0, none⟩) n cr] #[]] f n (gl, cl) (gr, cr) W' L' (clearP c L2 Q2 (i + 1))) := ⟨fun W L' h => (h.symm.clear HQ2.out hn2 hil hlt hic).mono fun e W' h2 => ⟨h2.1, h2.2.symm⟩⟩
                        have hz0 : ¬ (at2 L2 i c).toNat = 0 := fun e => hz (b_ext (e.trans rfl))
                        have hzb := b_lt (at2 L2 i c)
                        clear hz
                        generalize (at2 L2 i c).toNat = z at *
                        go_wp2_with fail
                        refine (HA1.out _ _ HS10.out).mono ?_
                        rintro e w9 ⟨rfl, hs9⟩
                        have HS11 := Aside0.mk hs9
                        clear hs9 HS10 k1 k2
                        go_wp2_with fail
                        refine (HA2.out _ _ HS11.out).mono ?_
                        rintro e w10 ⟨rfl, hs10⟩
                        have HS12 := Aside0.mk hs10
                        clear hs10 HS11
                        go_wp2_with fail
                        go_roundw
                        case rel => exact ⟨i + 1, by omega, by go_num, HS12⟩
                        case measure => simp [intOf]; omega
                        all_goals (rename_i hh; exfalso; first | omega | exact hz0 hh | (simp at hh; omega))
                  · have hie : i = n := by omega
                    rw [hie, clear_end HL2.out, clear_end HQ2.out, HST.out.1, HST.out.2] at HS10
                    have HJ2 : Aside0 (gj (n - (c + 1)) (c + 1) (stepL c L) (stepR c L Q) = some R ∧ Sq n (stepL c L) ∧ Sq n (stepR c L Q)) := ⟨HGJ.out, by rw [← HST.out.1]; exact sq_clear HL2.out hlt, by rw [← HST.out.2]; exact sq_clear HQ2.out hlt⟩
                    clear HST
                    go_wp2_with fail
                    go_roundw
                    case rel => exact ⟨c + 1, stepL c L, stepR c L Q, by omega, by go_num, HS10, HJ2⟩
                    case measure => simp [intOf]; omega
          · have hz := HPB.out a hca (by omega)
            rw [hz] at k2
            have k3 : ((0 : UInt8).toNat : Int) = 0 := rfl
            rw [k3] at k2
            go_wp2_with fail
            go_roundw
            case rel => exact ⟨a + 1, by omega, by omega, by go_num, HS1⟩
            case measure => simp [intOf]; omega
      · have hce : c = n := by omega
        have hQR : Q = R := by
          have := HJ.out.1
          rw [hce, Nat.sub_self] at this
          unfold gj at this
          injection this
        obtain ⟨ps2, qs2, ht2, hsd⟩ := HS.out
        have hQl := HJ.out.2.2.len
        have hrq : ∀ r, r ∈ Q → r.length = n := fun r hr => by
          obtain ⟨i, hi, rfl⟩ := List.getElem_of_mem hr
          have := HJ.out.2.2.rows i (by rw [← hQl]; exact hi)
          rwa [rowAt_lt hi] at this
        have hm := matrix_walk ht2.gr hrq (by omega) hn2 (by omega) (by omega)
        rw [hQl, hQR] at hm
        have HM := Aside0.mk hm
        have HRS := Aside0.mk hsd.res
        have HB := Aside0.mk hsd.bel
        clear hm hsd ht2 hrq HJ hQR HS
        go_wp2_with fail
        refine HM.out.mono ?_
        rintro e w6 ⟨rfl, hb6⟩
        have HB6 : Aside0 (Below w.heap.size w w6) := ⟨HB.out.trans (hb6.mono HB.out.size)⟩
        have HC1 := Aside0.mk (blk_below HRS.out hb6)
        have s0 := blk_cell HC1.out 0
        have s1 := blk_cell HC1.out 1
        have s2 := blk_cell HC1.out 2
        have f0 := blk_frozen HC1.out 0
        have f1 := blk_frozen HC1.out 1
        have f2 := blk_frozen HC1.out 2
        clear hb6 HB HRS
        unfold matV
        go_wp2
        refine bodyPost_ret (results_list (rs := [.cell 2 90, .tmp 3]) rfl (by simp) (Vals.cell (w.heap.size + 1) 90 _ (0, 0) _ rfl (blk_put (blk_put (blk_put HC1.out 0 _ rfl) 1 _ rfl) 2 _ rfl) Tryd.underlying90 rfl (by kernel_rfl) (Vals.tmp Vals.nil))) rfl ?_
        exact ⟨rfl, ((HB6.out.setCell (Nat.le_succ _) _).setCell (Nat.le_succ _) _).setCell (Nat.le_succ _) _⟩
end Go.Proofs.YtpmnhlbkgeiomaaDoor.Grd
namespace Go.Proofs.YtpmnhlbkgeiomaaDoor.Grd
open Go.RowKit Go.Proofs.YtpmnhlbkgeiomaaDoorW.PrintWords Go.Proofs.YtpmnhlbkgeiomaaDoorW.PrintLast Go.Proofs.YtpmnhlbkgeiomaaDoorW.PrintMore Go.Proofs.YtpmnhlbkgeiomaaDoor.Gf Go.Proofs.YtpmnhlbkgeiomaaDoor.Rowb Go.Proofs.YtpmnhlbkgeiomaaDoor.Fld
set_option linter.unusedVariables false
set_option linter.unusedSimpArgs false
def pickG (M : Grid) (rs : List Nat) : Grid := rs.map (Gf.rowAt M)
def pickP (ps : List (Nat × Nat)) (rs : List Nat) : List (Nat × Nat) := rs.map fun r => ps.getD r (0, 0)
theorem pickG_len (M : Grid) (rs : List Nat) : (pickG M rs).length = rs.length := by simp [pickG]
theorem pickG_rows {M : Grid} {c : Nat} (h : ∀ r, r ∈ M → r.length = c) (rs : List Nat) (hr : ∀ r, r ∈ rs → r < M.length) : ∀ r, r ∈ pickG M rs → r.length = c := fun r hm => by
  obtain ⟨x, hx, rfl⟩ := List.mem_map.1 hm
  rw [rowAt_lt (hr x hx)]
  exact h _ (List.getElem_mem _)
theorem pickG_snoc (M : Grid) (rs : List Nat) (r : Nat) : pickG M (rs ++ [r]) = pickG M rs ++ [Gf.rowAt M r] := by simp [pickG]
theorem pickP_snoc (ps : List (Nat × Nat)) (rs : List Nat) (r : Nat) : pickP ps (rs ++ [r]) = pickP ps rs ++ [ps.getD r (0, 0)] := by simp [pickP]
/-- The rows picked so far (v), and those of which they are picked. -/
structure PickAt (w : World) (b2 : Nat) (vf : Value) (psf : List (Nat × Nat)) (M : Grid) (v : Value) (rs : List Nat) (W : World) : Prop where
  src : GridAt W w.heap.size vf psf M
  out : GridAt W w.heap.size v (pickP psf rs) (pickG M rs)
  ne : ∀ g, vf.ownBlock = some g → v.ownBlock ≠ some g
  res : W.heap[b2]? = some (.cells #[.int .i64 0, .int .i64 0, .string ⟨#[]⟩] 90 (0, 0))
  bel : Below w.heap.size w W
theorem getD_lt {α : Type} (l : List α) (i : Nat) (d : α) (h : i < l.length) : l.getD i d = l[i] := by
  rw [List.getD_eq_getElem?_getD, List.getElem?_eq_getElem h]
  rfl
theorem pick_new {psf : List (Nat × Nat)} (hn : (psf.map (·.1)).Nodup) {rs : List Nat} {r : Nat} (hr : ∀ x, x ∈ rs → x < psf.length) (hlt : r < psf.length) (hnew : r ∉ rs) : ∀ p : Nat × Nat, p ∈ pickP psf rs → p.1 ≠ (psf.getD r (0, 0)).1 := fun p hp e => by
  obtain ⟨x, hx, rfl⟩ := List.mem_map.1 hp
  have hxl := hr x hx
  rw [getD_lt _ _ _ hxl, getD_lt _ _ _ hlt] at e
  have h1 : (psf.map (·.1))[x]'(by simpa using hxl) = (psf.map (·.1))[r]'(by simpa using hlt) := by simpa using e
  have := (List.getElem_inj hn).1 h1
  subst this
  exact hnew hx
theorem GridAt.apart {w w' : World} {base : Nat} {v : Value} {ps : List (Nat × Nat)} {L : Grid} {u : Value} (h : GridAt w base v ps L) {xs : List Value} {n : Nat} (hu : w.ownsRow base 35 1 u n xs) (hg : w.grownBy w' u.ownBlock) (hv : ∀ g, v.ownBlock = some g → u.ownBlock ≠ some g) : GridAt w' base v ps L := by
  cases hb : u.ownBlock with
  | none =>
    rw [hb] at hg
    exact ⟨own_other h.outer hg (by
      cases hq : v.ownBlock with
      | none => exact .inl rfl
      | some q => exact .inr (by simp)), h.len, fun i p l h1 h2 => ⟨(h.row i p l h1 h2).1, (h.row i p l h1 h2).2.1, (h.row i p l h1 h2).2.2.grown hg (by simp)⟩, h.nodup⟩
  | some b =>
    rw [hb] at hg
    refine h.grown hg (fun e => hv b e hb) (fun p hp e => ?_)
    obtain ⟨l, hrow, _⟩ := h.rowOf hp
    exact row_ne_own hrow hu (by rw [hb, e])
theorem PickAt.start {w W : World} {b2 : Nat} {vf v : Value} {psf : List (Nat × Nat)} {M : Grid} (h : GridAt W w.heap.size vf psf M) (hv : W.ownsRow w.heap.size 35 1 v 0 []) (hne : ∀ g, vf.ownBlock = some g → v.ownBlock ≠ some g) (hr : W.heap[b2]? = some (.cells #[.int .i64 0, .int .i64 0, .string ⟨#[]⟩] 90 (0, 0))) (hb : Below w.heap.size w W) : PickAt w b2 vf psf M v [] W :=
  ⟨h, ⟨hv, rfl, fun i p l h1 _ => by simp [pickP] at h1, List.nodup_nil⟩, hne, hr, hb⟩
theorem PickAt.step {w W W' : World} {b2 : Nat} {vf v v1 : Value} {psf : List (Nat × Nat)} {M : Grid} {rs : List Nat} {r : Nat} (h : PickAt w b2 vf psf M v rs W) (hr : ∀ x, x ∈ rs → x < M.length) (hlt : r < M.length) (hnew : r ∉ rs)
    (ho : W'.ownsRow w.heap.size 35 1 v1 (rs.length + 1) (List.zipWith rowV (pickP psf rs) (pickG M rs) ++ [rowV (psf.getD r (0, 0)) (Gf.rowAt M r)])) (hb : Below w.heap.size w W') (hg : W.grownBy W' v.ownBlock) (hat : v1.ownBlock = v.ownBlock ∨ ∃ b, v1.ownBlock = some b ∧ W.heap.size ≤ b) :
    PickAt w b2 vf psf M v1 (rs ++ [r]) W' := by
  have hpl : r < psf.length := by rw [h.src.len]; exact hlt
  have hrow := h.src.row r _ _ (List.getElem?_eq_getElem hpl) (List.getElem?_eq_getElem hlt)
  have hsnoc := h.out.snoc hrow.1 hrow.2.1 hrow.2.2 (fun p hp => by
    have := pick_new h.src.nodup (fun x hx => by rw [h.src.len]; exact hr x hx) hpl hnew p hp
    rwa [getD_lt _ _ _ hpl] at this) (by rw [pickG_len, ← getD_lt psf r (0, 0) hpl, ← rowAt_lt hlt]; exact ho) hg
  refine ⟨h.src.apart h.out.outer hg h.ne, ?_, fun g hvf => ?_, blk_grown h.res hg (own_ne h.out.outer h.res (by decide)), hb⟩
  · rw [pickG_snoc, pickP_snoc, getD_lt _ _ _ hpl, rowAt_lt hlt]
    exact hsnoc
  · rcases hat with e | ⟨b, e, hge⟩
    · rw [e]; exact h.ne g hvf
    · rw [e]
      intro e2
      have e3 : b = g := by injection e2
      subst e3
      have := own_lt h.src.outer _ hvf
      omega
theorem PickAt.read {w W : World} {b2 : Nat} {vf v : Value} {psf : List (Nat × Nat)} {M : Grid} {rs : List Nat} (h : PickAt w b2 vf psf M v rs W) (g n cap : Nat) (hvf : vf = .slice (some ⟨g, 0, none⟩) n cap) (r : Nat) (hlt : r < M.length) : W.cell? ⟨g, r, none⟩ = some (rowV (psf.getD r (0, 0)) (Gf.rowAt M r)) := by
  obtain ⟨g', cap', cur, hv, _, _, _, hcell⟩ := h.src.form (by omega)
  rw [hvf] at hv
  injection hv with hv1 _ _
  injection hv1 with hv1
  injection hv1 with hv1
  subst hv1
  have := hcell r hlt
  rw [this, getD_lt _ _ _ (by rw [h.src.len]; exact hlt), rowAt_lt hlt]
theorem rd_cast (rs : List Nat) (i : Nat) (hi : i < rs.length) : rd (rs.map fun n : Nat => (n : Int)) (i : Int) = ((rs[i] : Nat) : Int) := by
  unfold rd
  rw [Int.toNat_natCast, getD_lt _ _ _ (by simpa using hi), List.getElem_map]
section
variable (w : World) (M : Grid) (c : Nat) (hr : ∀ r, r ∈ M → r.length = c) (h1 : 1 ≤ M.length) (h2 : M.length ≤ 255) (hc1 : 1 ≤ c) (hc : c ≤ 255) (rs : List Nat) (A1 : Option Addr) (c1 : Nat)
variable (hrd : Kd.C (Kd.int .i64) w A1 rs.length (rs.map fun n : Nat => (n : Int))) (hcap : rs.length ≤ c1) (hrs : ∀ r, r ∈ rs → r < M.length) (hn : rs.Nodup) (hl1 : 1 ≤ rs.length) (hl2 : rs.length ≤ 255)
include hr h1 h2 hc1 hc hrd hcap hrs hn hl1 hl2
set_option maxRecDepth 100000 in
set_option maxHeartbeats 4000000 in
theorem pick_walk : Calls Tryd.prog 53 #[matV M.length c M.flatten, .slice A1 rs.length c1] w fun e w' => e = .returned (.tuple #[matV rs.length c (pickG M rs).flatten, .int .i64 0]) ∧ Below w.heap.size w w' := by
  have HC : Aside0 (∀ W, Calls Tryd.prog 71 #[matV M.length c M.flatten] W fun e w' => e = .returned (.int .i64 0) ∧ Below W.heap.size W w') := ⟨fun W => check_walk W M.length c _ h1 h2 hc1 hc (flat_len M hr)⟩
  have HO : Aside0 (∀ W, Calls Tryd.prog 72 #[matV M.length c M.flatten] W (IsGrid M W)) := ⟨fun W => of_walk W M c hr h1 h2 hc⟩
  have HMX : Aside0 (∀ (W : World) (base : Nat) (v : Value) (ps : List (Nat × Nat)), GridAt W base v ps (pickG M rs) → Calls Tryd.prog 66 #[v] W fun e w' => e = .returned (matV rs.length c (pickG M rs).flatten) ∧ Below W.heap.size W w') := ⟨fun W base v ps hg => by
    have := matrix_walk (c := c) hg (pickG_rows hr rs hrs) (by omega) hc (by rw [pickG_len]; exact hl1) (by rw [pickG_len]; exact hl2)
    rwa [pickG_len] at this⟩
  have HRD : Aside0 (∀ W, Below w.heap.size w W → ∀ i (hi : i < rs.length), ∃ ad, A1 = some ad ∧ W.cell? (ad.add i) = some (.int .i64 ((rs[i] : Nat) : Int))) := ⟨fun W hb i hi => by
    have h := Kd.C_below (by simpa using hrd : Kd.C (Kd.int .i64) w A1 rs.length (rs.map fun n : Nat => (n : Int))) hb
    obtain ⟨ad, hA, hx⟩ := Kd.at_int h (i : Int) (by omega) (by omega)
    rw [rd_cast rs i hi, Int.toNat_natCast] at hx
    exact ⟨ad, hA, hx⟩⟩
  have HRS : Aside0 (∀ i (hi : i < rs.length), rs[i] < M.length) := ⟨fun i hi => hrs _ (List.getElem_mem hi)⟩
  have HTK : Aside0 (∀ i (hi : i < rs.length), (rs.take i ++ [rs[i]] = rs.take (i + 1)) ∧ rs[i] ∉ rs.take i ∧ (∀ x, x ∈ rs.take i → x < M.length) ∧ (rs.take i).length = i) := ⟨fun i hi => by
    refine ⟨(List.take_succ_eq_append_getElem hi).symm, fun hm => ?_, fun x hx => hrs x (List.mem_of_mem_take hx), by rw [List.length_take]; omega⟩
    obtain ⟨j, hj, e⟩ := List.getElem_of_mem hm
    rw [List.length_take] at hj
    rw [List.getElem_take] at e
    have := (List.getElem_inj hn).1 e
    omega⟩
  have HFU : Aside0 (rs.take rs.length = rs) := ⟨List.take_length⟩
  have HML : Aside0 (M.length ≤ 255) := ⟨h2⟩
  unfold matV at HC HO ⊢
  unfold matV at HMX
  obtain ⟨t, ht⟩ : ∃ t : ByteArray, t = ⟨M.flatten.toArray⟩ := ⟨_, rfl⟩
  rw [← ht] at HC HO ⊢
  have hl0 : decide ((255 : Int) < (rs.length : Int)) = false := by simp; omega
  have hl3 : ((rs.length : Int) == 0) = false := by simp; intro e; subst e; simp at hl1
  clear ht hr hrd hrs hn
  go_enter Tryd.func53, Tryd.ntmps53
  have hbx : (w.alloc (.cells #[.int .i64 (M.length : Int), .int .i64 (c : Int), .string t] 90)).heap[w.heap.size]? = some (.cells #[.int .i64 (M.length : Int), .int .i64 (c : Int), .string t] 90 (0, 0)) := blk_new _ _
  go_wp2_with fail
  refine (HC.out _).mono ?_
  rintro e w1 ⟨rfl, hb1⟩
  have hsz1 : w.heap.size + 2 ≤ w1.heap.size := by
    have := hb1.size
    simpa using this
  have X1 := Aside0.mk (blk_below (blk_alloc hbx (.cells #[.int .i64 0, .int .i64 0, .string ⟨#[]⟩] 90 (0, 0))) hb1)
  have R1 : Aside0 (w1.heap[w.heap.size + 1]? = some (.cells #[.int .i64 0, .int .i64 0, .string ⟨#[]⟩] 90 (0, 0))) := ⟨by
    have := blk_below (blk_new (w.alloc (.cells #[.int .i64 (M.length : Int), .int .i64 (c : Int), .string t] 90)) (.cells #[.int .i64 0, .int .i64 0, .string ⟨#[]⟩] 90 (0, 0))) hb1
    simpa using this⟩
  have B1 : Aside0 (Below w.heap.size w w1) := ⟨(((Below.refl _ _).alloc (Nat.le_refl _) _).alloc (by simp) _).trans (hb1.mono (by simp; omega))⟩
  clear hb1 hbx
  have c10 := blk_cell X1.out 0
  have c11 := blk_cell X1.out 1
  have c12 := blk_cell X1.out 2
  go_wp2
  go_loop [18] (fun v => ∃ i : Nat, i ≤ rs.length ∧ v = .int .i64 (i : Int)) (fun v => rs.length - (intOf v).toNat)
  case atStart => exact ⟨0, by omega, rfl⟩
  case round =>
    obtain ⟨i, hi, rfl⟩ := hrel
    by_cases hlt : i < rs.length
    · obtain ⟨ad, hA, hx⟩ := HRD.out _ B1.out i hlt
      subst hA
      have hxl := HRS.out i hlt
      generalize rs[i] = x at *
      have e1 : decide ((x : Int) < 0) = false := by simp
      have e2 : decide ((M.length : Int) ≤ (x : Int)) = false := by simp; omega
      go_wp2
      go_round
      case rel => exact ⟨i + 1, by omega, by go_num⟩
      case measure => simp [intOf]; omega
    · obtain rfl : i = rs.length := by omega
      have e1 : decide ((rs.length : Int) < (rs.length : Int)) = false := by simp
      go_wp2_with fail
      refine (HO.out _).mono ?_
      rintro e w2 ⟨vf, psf, rfl, hg2, hb2⟩
      obtain ⟨gf, cf, curf, hvf, hgf, hhf, hq1, hq2⟩ := hg2.form h1
      clear hq1 hq2
      have R2 := Aside0.mk (blk_below R1.out hb2)
      have B2 : Aside0 (Below w.heap.size w w2) := ⟨B1.out.trans (hb2.mono B1.out.size)⟩
      have G2 := Aside0.mk (hg2.lower B1.out.size)
      have V2 := Aside0.mk hvf
      have hgl := blk_lt hhf
      clear hg2 hb2 hhf hgf R1 B1 X1 c10 c11 c12
      subst hvf
      go_wp2_with fail
      have P0 : Aside0 (PickAt w (w.heap.size + 1) (.slice (some ⟨gf, 0, none⟩) M.length cf) psf M (.slice (some ⟨w2.heap.size, 0, none⟩) 0 0) [] (w2.alloc (.cells #[] 35))) := ⟨PickAt.start (G2.out.below (below_alloc (Below.refl _ _) _)) ⟨rfl, .inr ⟨w2.heap.size, 0, #[], rfl, B2.out.size, blk_new _ _, Nat.le_refl _, Nat.zero_le _, rfl, rfl⟩⟩ (fun g hg e => by
        have e1 : gf = g := by simpa [Value.ownBlock] using hg
        have e2 : w2.heap.size = g := by simpa [Value.ownBlock] using e
        omega) (blk_alloc R2.out _) (B2.out.alloc B2.out.size _)⟩
      clear G2 R2 B2 V2 hgl
      go_loopw [9, 47] (fun v i W => ∃ k : Nat, k ≤ rs.length ∧ i = .int .i64 (k : Int) ∧ Aside0 (PickAt w (w.heap.size + 1) (.slice (some ⟨gf, 0, none⟩) M.length cf) psf M v (rs.take k) W)) (fun _ i _ => rs.length - (intOf i).toNat)
      case atStart => exact ⟨0, by omega, rfl, P0⟩
      case round =>
        obtain ⟨k, hk, rfl, HP⟩ := hrel
        clear P0
        generalize u9 = v at *
        by_cases hlt2 : k < rs.length
        · obtain ⟨ad, hA, hx⟩ := HRD.out wr HP.out.bel k hlt2
          subst hA
          obtain ⟨hk1, hk2, hk3, hk4⟩ := HTK.out k hlt2
          have hxl := HRS.out k hlt2
          have HST := Aside0.mk (And.intro hk1 (And.intro hk2 hk3))
          have HLN := Aside0.mk hk4
          generalize rs[k] = x at *
          clear hk1 hk2 hk3 hk4
          have y0 := HP.out.read gf M.length cf rfl x hxl
          have HRV : Aside0 (rowV (psf.getD x (0, 0)) (Gf.rowAt M x) = rowV (psf.getD x (0, 0)) (Gf.rowAt M x)) := ⟨rfl⟩
          obtain ⟨rv, hrv⟩ : ∃ rv, rv = rowV (psf.getD x (0, 0)) (Gf.rowAt M x) := ⟨_, rfl⟩
          have HRW : Aside0 (∃ (a : Addr) (n c : Nat), rv = .slice (some a) n c) := ⟨⟨_, _, _, hrv⟩⟩
          rw [← hrv] at y0
          have HRE := Aside0.mk hrv
          obtain ⟨⟨a1, n1, c1', hrs⟩⟩ := HRW
          subst hrs
          clear hrv HRV
          have hlb : (rs.take k).length ≤ 255 := by rw [HLN.out]; omega
          have x1 : decide ((k : Int) < (rs.length : Int)) = true := decide_eq_true (by omega)
          have x2 : (x : Int) < (M.length : Int) := by omega
          go_wp2_with (first | ((with_reducible refine gate_builtin (b := .append) (xs := #[.tmp 51, .tmp 56]) rfl ?_); at_builtin; refine print_append_cells w.heap.size rfl (.tmp 51) (.tmp 56) 119 35 (.slice none 0 0) 1 24 rfl Tryd.underlying119 info_row rfl (by decide) (by decide) v (pickG M (rs.take k)).length (List.zipWith rowV (pickP psf (rs.take k)) (pickG M (rs.take k))) [.slice (some a1) n1 c1'] rfl rfl rfl (by simp [Value.oneCell']) HP.out.out.outer HP.out.bel HP.out.bel.size (by rw [pickG_len]; omega) ?_; intro v1 w5 ho5 hb5 hg5 hat5; have HP5 := Aside0.mk (HP.out.step HST.out.2.2 hxl HST.out.2.1 (by rw [pickG_len] at ho5; rw [← HRE.out]; exact ho5) hb5 hg5 hat5); clear ho5 hb5 hg5 hat5))
          go_roundw
          case rel => exact ⟨k + 1, by omega, by go_num, ⟨by rw [← HST.out.1]; exact HP5.out⟩⟩
          case measure => simp [intOf]; omega
        · obtain rfl : k = rs.length := by omega
          rw [HFU.out] at HP
          have HM := Aside0.mk (HMX.out _ _ _ _ HP.out.out)
          have x1 : decide ((rs.length : Int) < (rs.length : Int)) = false := by simp
          go_wp2_with fail
          refine HM.out.mono ?_
          rintro e w6 ⟨rfl, hb6⟩
          have HB6 : Aside0 (Below w.heap.size w w6) := ⟨HP.out.bel.trans (hb6.mono HP.out.bel.size)⟩
          have HC1 := Aside0.mk (blk_below HP.out.res hb6)
          have s0 := blk_cell HC1.out 0
          have s1 := blk_cell HC1.out 1
          have s2 := blk_cell HC1.out 2
          have f0 := blk_frozen HC1.out 0
          have f1 := blk_frozen HC1.out 1
          have f2 := blk_frozen HC1.out 2
          clear hb6
          go_wp2
          refine bodyPost_ret (results_list (rs := [.cell 4 90, .tmp 5]) rfl (by simp) (Vals.cell (w.heap.size + 1) 90 _ (0, 0) _ rfl (blk_put (blk_put (blk_put HC1.out 0 _ rfl) 1 _ rfl) 2 _ rfl) Tryd.underlying90 rfl (by kernel_rfl) (Vals.tmp Vals.nil))) rfl ?_
          exact ⟨rfl, ((HB6.out.setCell (Nat.le_succ _) _).setCell (Nat.le_succ _) _).setCell (Nat.le_succ _) _⟩
end
end Go.Proofs.YtpmnhlbkgeiomaaDoor.Grd
namespace Go.Proofs.YtpmnhlbkgeiomaaDoor.PS
open Go.RowKit Go.Proofs.YtpmnhlbkgeiomaaDoorW.PrintWords Go.Proofs.YtpmnhlbkgeiomaaDoorW.PrintLast Go.Proofs.YtpmnhlbkgeiomaaDoorW.PrintMore Go.Proofs.YtpmnhlbkgeiomaaDoor.Gf Go.Proofs.YtpmnhlbkgeiomaaDoor.Grd Go.Proofs.YtpmnhlbkgeiomaaDoor.Rowb Go.Proofs.YtpmnhlbkgeiomaaDoor.Fld
set_option linter.unusedVariables false
set_option linter.unusedSimpArgs false
/-- The rows of a text of r rows of c bytes. -/
def gridOf (r c : Nat) (s : ByteArray) : Grid := (List.range r).map fun i => (s.data.toList.drop (i * c)).take c
theorem gridOf_len (r c : Nat) (s : ByteArray) : (gridOf r c s).length = r := by simp [gridOf]
theorem gridOf_flat_from (c : Nat) (l : List UInt8) : ∀ r, ((List.range r).map fun i => (l.drop (i * c)).take c).flatten = l.take (r * c)
  | 0 => by simp
  | r + 1 => by
    rw [List.range_succ, List.map_append, List.flatten_append, gridOf_flat_from c l r]
    simp only [List.map_cons, List.map_nil, List.flatten_cons, List.flatten_nil, List.append_nil]
    rw [Nat.succ_mul, List.take_add]
theorem gridOf_flat (r c : Nat) (s : ByteArray) (h : s.size = r * c) : (gridOf r c s).flatten = s.data.toList := by
  unfold gridOf
  rw [gridOf_flat_from, ← h, List.take_of_length_le (by rw [Array.length_toList]; exact Nat.le_refl _)]
theorem gridOf_rows (r c : Nat) (s : ByteArray) (h : s.size = r * c) : ∀ x, x ∈ gridOf r c s → x.length = c := fun x hx => by
  obtain ⟨i, hi, rfl⟩ := List.mem_map.1 hx
  have hi := List.mem_range.1 hi
  have hl : s.data.toList.length = r * c := by rw [Array.length_toList]; exact h
  have : (i + 1) * c ≤ r * c := Nat.mul_le_mul_right _ (by omega)
  rw [Nat.succ_mul] at this
  rw [List.length_take, List.length_drop]
  omega
theorem gridOf_txt (r c : Nat) (L : Grid) (hl : L.length = r) (hr : ∀ x, x ∈ L → x.length = c) : gridOf r c (txt L.flatten) = L := by
  unfold gridOf
  apply List.ext_getElem
  · simp [hl]
  · intro i h1 h2
    simp only [List.getElem_map, List.getElem_range]
    rw [txt_list]
    exact flat_row L i h2 hr
theorem txt_eq (s : ByteArray) : txt s.data.toList = s := by
  apply ByteArray.ext
  apply Array.ext'
  rfl
theorem gridOf_back (r c : Nat) (s : ByteArray) (h : s.size = r * c) : txt (gridOf r c s).flatten = s := by rw [gridOf_flat r c s h, txt_eq]
theorem matV_txt (r c : Nat) (l : List UInt8) : matV r c l = .agg #[.int .i64 (r : Int), .int .i64 (c : Int), .string (txt l)] := rfl
theorem matV_of (r c : Nat) (s : ByteArray) (h : s.size = r * c) : Value.agg #[.int .i64 (r : Int), .int .i64 (c : Int), .string s] = matV r c (gridOf r c s).flatten := by rw [matV_txt, gridOf_back r c s h]
theorem sq_of {n : Nat} {L : Grid} (hl : L.length = n) (hr : ∀ x, x ∈ L → x.length = n) : Sq n L := ⟨hl, fun i hi => by rw [rowAt_lt (by omega)]; exact hr _ (List.getElem_mem _)⟩
/-! The generator. -/
def matrix_Generator.f (a0 : Int) (a1 : Int) : Option (Int × Int × ByteArray × Int) := if codeB a0 a1 = true then some (a0 + a1, a0, txt (genG a0.toNat a1.toNat).flatten, 0) else none
theorem matrix_Generator.calls (a0 : Int) (a1 : Int) (r1 : Int) (r2 : Int) (r3 : ByteArray) (r4 : Int) (w : World) (h : matrix_Generator.f a0 a1 = some (r1, r2, r3, r4)) :
    Calls Tryd.prog 44 #[.int .i64 a0, .int .i64 a1] w fun e w' => e = .returned (.tuple #[.agg #[.int .i64 r1, .int .i64 r2, .string r3], .int .i64 r4]) ∧ Below w.heap.size w w' := by
  unfold matrix_Generator.f at h
  split at h
  · rename_i hc
    obtain ⟨K, M, rfl, rfl, h1, h2⟩ := codeB_nat hc
    simp only [Int.toNat_natCast, Option.some.injEq, Prod.mk.injEq] at h
    obtain ⟨rfl, rfl, rfl, rfl⟩ := h
    refine (gen_walk w K M h1 h2).mono fun e w' ⟨he, hb⟩ => ⟨he.trans ?_, hb⟩
    rw [matV_txt]
    push_cast
    rfl
  · cases h
/-! Picked rows. -/
def pickOk (r : Nat) (l : List Int) : Bool := l.all (fun x => decide (0 ≤ x ∧ x < (r : Int))) && decide l.Nodup && decide (1 ≤ l.length ∧ l.length ≤ 255)
def shapeB (r c : Int) (s : ByteArray) : Bool := decide (1 ≤ r ∧ r ≤ 255 ∧ 1 ≤ c ∧ c ≤ 255 ∧ s.size = r.toNat * c.toNat)
theorem shapeB_nat {r c : Int} {s : ByteArray} (h : shapeB r c s = true) : ∃ R C : Nat, r = (R : Int) ∧ c = (C : Int) ∧ 1 ≤ R ∧ R ≤ 255 ∧ 1 ≤ C ∧ C ≤ 255 ∧ s.size = R * C := by
  unfold shapeB at h
  have := of_decide_eq_true h
  exact ⟨r.toNat, c.toNat, by omega, by omega, by omega, by omega, by omega, by omega, this.2.2.2.2⟩
def matrix_Pick.f (a0_0 : Int) (a0_1 : Int) (a0_2 : ByteArray) (l1 : List Int) : Option (Int × Int × ByteArray × Int) :=
  if shapeB a0_0 a0_1 a0_2 = true ∧ pickOk a0_0.toNat l1 = true then some ((l1.length : Int), a0_1, txt (pickG (gridOf a0_0.toNat a0_1.toNat a0_2) (l1.map Int.toNat)).flatten, 0) else none
theorem matrix_Pick.calls (a0_0 : Int) (a0_1 : Int) (a0_2 : ByteArray) (A1 : Option Addr) (c1 : Nat) (l1 : List Int) (r1 : Int) (r2 : Int) (r3 : ByteArray) (r4 : Int) (w : World) (hr1 : Kd.C (Kd.int .i64) w A1 l1.length l1) (hc1 : l1.length ≤ c1) (h : matrix_Pick.f a0_0 a0_1 a0_2 l1 = some (r1, r2, r3, r4)) :
    Calls Tryd.prog 53 #[.agg #[.int .i64 a0_0, .int .i64 a0_1, .string a0_2], .slice A1 l1.length c1] w fun e w' => e = .returned (.tuple #[.agg #[.int .i64 r1, .int .i64 r2, .string r3], .int .i64 r4]) ∧ Below w.heap.size w w' := by
  unfold matrix_Pick.f at h
  split at h
  · rename_i hp
    obtain ⟨R, C, rfl, rfl, h1, h2, h3, h4, h5⟩ := shapeB_nat hp.1
    have hq := hp.2
    unfold pickOk at hq
    rw [Bool.and_eq_true, Bool.and_eq_true] at hq
    obtain ⟨⟨q1, q2⟩, q3⟩ := hq
    have q2 := of_decide_eq_true q2
    have q3 := of_decide_eq_true q3
    rw [Int.toNat_natCast] at q1
    have q1' : ∀ x, x ∈ l1 → 0 ≤ x ∧ x < (R : Int) := fun x hx => of_decide_eq_true (List.all_eq_true.1 q1 x hx)
    simp only [Int.toNat_natCast, Option.some.injEq, Prod.mk.injEq] at h
    obtain ⟨rfl, rfl, rfl, rfl⟩ := h
    have hback : (l1.map Int.toNat).map (fun n : Nat => (n : Int)) = l1 := by
      rw [List.map_map]
      refine (List.map_congr_left (fun x hx => ?_)).trans (List.map_id l1)
      have := q1' x hx
      show ((x.toNat : Nat) : Int) = x
      omega
    have hnd : (l1.map Int.toNat).Nodup := nodup_map_of (fun a ha b hb e => by
      have := q1' a ha
      have := q1' b hb
      omega) q2
    have := pick_walk w (gridOf R C a0_2) C (gridOf_rows R C a0_2 h5) (by rw [gridOf_len]; exact h1) (by rw [gridOf_len]; exact h2) h3 h4 (l1.map Int.toNat) A1 c1 (by rw [hback, List.length_map]; exact hr1) (by rw [List.length_map]; exact hc1) (fun r hr => by
      obtain ⟨x, hx, rfl⟩ := List.mem_map.1 hr
      have := q1' x hx
      rw [gridOf_len]
      omega) hnd (by rw [List.length_map]; exact q3.1) (by rw [List.length_map]; exact q3.2)
    rw [gridOf_len, List.length_map, ← matV_of R C a0_2 h5] at this
    exact this
  · cases h
/-! An inverse. -/
def invF (a0_0 : Int) (a0_1 : Int) (a0_2 : ByteArray) : Option (Int × Int × ByteArray × Int) :=
  if shapeB a0_0 a0_1 a0_2 = true ∧ a0_0 = a0_1 then (inverse (gridOf a0_0.toNat a0_0.toNat a0_2)).map fun R => (a0_0, a0_0, txt R.flatten, 0) else none
theorem invF_nat {a0_0 a0_1 : Int} {a0_2 : ByteArray} {r1 r2 r4 : Int} {r3 : ByteArray} (h : invF a0_0 a0_1 a0_2 = some (r1, r2, r3, r4)) :
    ∃ (n : Nat) (M R : Grid), a0_0 = (n : Int) ∧ a0_1 = (n : Int) ∧ a0_2 = txt M.flatten ∧ Sq n M ∧ 1 ≤ n ∧ n ≤ 255 ∧ inverse M = some R ∧ r1 = (n : Int) ∧ r2 = (n : Int) ∧ r3 = txt R.flatten ∧ r4 = 0 := by
  unfold invF at h
  split at h
  · rename_i hp
    obtain ⟨n, C, rfl, rfl, h1, h2, h3, h4, h5⟩ := shapeB_nat hp.1
    have e : C = n := by have := hp.2; omega
    subst e
    obtain ⟨R, hR, e⟩ := Option.map_eq_some_iff.1 h
    simp only [Int.toNat_natCast, Prod.mk.injEq] at e hR
    obtain ⟨rfl, rfl, rfl, rfl⟩ := e
    exact ⟨C, gridOf C C a0_2, R, rfl, rfl, (gridOf_back C C a0_2 h5).symm, sq_of (gridOf_len _ _ _) (gridOf_rows C C a0_2 h5), h1, h2, hR, rfl, rfl, rfl, rfl⟩
  · cases h
def matrix_Inverse.f (a0_0 : Int) (a0_1 : Int) (a0_2 : ByteArray) : Option (Int × Int × ByteArray × Int) := invF a0_0 a0_1 a0_2
theorem matrix_Inverse.calls (a0_0 : Int) (a0_1 : Int) (a0_2 : ByteArray) (r1 : Int) (r2 : Int) (r3 : ByteArray) (r4 : Int) (w : World) (h : matrix_Inverse.f a0_0 a0_1 a0_2 = some (r1, r2, r3, r4)) :
    Calls Tryd.prog 54 #[.agg #[.int .i64 a0_0, .int .i64 a0_1, .string a0_2]] w fun e w' => e = .returned (.tuple #[.agg #[.int .i64 r1, .int .i64 r2, .string r3], .int .i64 r4]) ∧ Below w.heap.size w w' := by
  obtain ⟨n, M, R, rfl, rfl, rfl, hM, h1, h2, hR, rfl, rfl, rfl, rfl⟩ := invF_nat h
  exact inverse_walk w n M R hM h1 h2 hR
end Go.Proofs.YtpmnhlbkgeiomaaDoor.PS
namespace Go.Proofs.YtpmnhlbkgeiomaaDoor.PS
open Go.RowKit Go.Proofs.YtpmnhlbkgeiomaaDoorW.PrintWords Go.Proofs.YtpmnhlbkgeiomaaDoorW.PrintLast Go.Proofs.YtpmnhlbkgeiomaaDoorW.PrintMore Go.Proofs.YtpmnhlbkgeiomaaDoor.Gf Go.Proofs.YtpmnhlbkgeiomaaDoor.Grd Go.Proofs.YtpmnhlbkgeiomaaDoor.Rowb Go.Proofs.YtpmnhlbkgeiomaaDoor.Fld
open Go.Lib (byteCells byteCells_length)
set_option linter.unusedVariables false
set_option linter.unusedSimpArgs false
/-- Shards behind i rounds. -/
def undP (c : Nat → Nat → UInt8) (R C n : Nat) (data : List ByteArray) (i : Nat) : List ByteArray := (List.range R).map fun r => if r < i then txt (accC (c r) n data C) else ⟨#[]⟩
def undL (c : Nat → Nat → UInt8) (R C n : Nat) (data : List ByteArray) : List ByteArray := (List.range R).map fun r => txt (accC (c r) n data C)
theorem undP_len (c : Nat → Nat → UInt8) (R C n : Nat) (data : List ByteArray) (i : Nat) : (undP c R C n data i).length = R := by simp [undP]
theorem undP_zero (c : Nat → Nat → UInt8) (R C n : Nat) (data : List ByteArray) : undP c R C n data 0 = List.replicate R ⟨#[]⟩ := by
  unfold undP
  apply List.ext_getElem
  · simp
  · intro j h1 h2
    simp
theorem undP_full (c : Nat → Nat → UInt8) (R C n : Nat) (data : List ByteArray) : undP c R C n data R = undL c R C n data := by
  unfold undP undL
  refine List.map_congr_left (fun j hj => ?_)
  rw [if_pos (List.mem_range.1 hj)]
theorem undP_set (c : Nat → Nat → UInt8) (R C n : Nat) (data : List ByteArray) (i : Nat) (h : i < R) : (undP c R C n data i).set i (txt (accC (c i) n data C)) = undP c R C n data (i + 1) := by
  unfold undP
  apply List.ext_getElem
  · simp
  · intro j h1 h2
    rw [List.getElem_set]
    simp only [List.getElem_map, List.getElem_range]
    by_cases e : i = j
    · subst e
      rw [if_pos rfl, if_pos (by omega)]
    · rw [if_neg e]
      by_cases h3 : j < i
      · rw [if_pos h3, if_pos (by omega)]
      · rw [if_neg h3, if_neg (by omega)]
/-- The matrix's entries. -/
def coef (s : ByteArray) (C r j : Nat) : UInt8 := s.data.toList.getD (r * C + j) 0
theorem accC_z (c : Nat → UInt8) (n : Nat) (data : List ByteArray) : accC c n data 0 = zeros n := by
  unfold accC zeros
  apply List.ext_getElem
  · simp
  · intro i h1 h2
    simp [xs]
def UndIs (l : List ByteArray) (w : World) (e : Ending) (w' : World) : Prop := ∃ v0_ : Value, e = .returned v0_ ∧ Kd.R Kd.string 9 w' w.heap.size (fun _ => True) v0_ l ∧ Below w.heap.size w w'
section
variable (R C : Nat) (hR1 : 1 ≤ R) (hR : R ≤ 255) (hC1 : 1 ≤ C) (hC : C ≤ 255) (S : ByteArray) (hS : S.size = R * C) (A1 : Option Addr) (c1 : Nat) (data : List ByteArray) (w : World)
variable (hrd : Kd.C Kd.string w A1 data.length data) (hcap : data.length ≤ c1) (hl : data.length = C) (he : evenB data = true) (hn : (rdOf ByteArray.empty data 0).size ≤ 2052)
include hR1 hR hC1 hC hS hrd hcap hl he hn
set_option maxRecDepth 100000 in
set_option maxHeartbeats 4000000 in
theorem und_walk : Calls Tryd.prog 55 #[.agg #[.int .i64 (R : Int), .int .i64 (C : Int), .string S], .slice A1 data.length c1] w (UndIs (undL (coef S C) R C (rdOf ByteArray.empty data 0).size data) w) := by
  have HE0 := Aside0.mk he
  have HS0 : Aside0 (∃ s0, rdOf ByteArray.empty data 0 = s0) := ⟨_, rfl⟩
  obtain ⟨⟨s0, hs0⟩⟩ := HS0
  have HS0 := Aside0.mk hs0
  rw [hs0] at hn ⊢
  have HR := Aside0.mk (And.intro hrd hcap)
  have HX0 : Aside0 (∃ ad, A1 = some ad ∧ ∀ W, Below w.heap.size w W → W.cell? ad = some (.string s0)) := ⟨by
    obtain ⟨ad, hA, hx0⟩ := Kd.at_string hrd 0 (by omega) (by omega)
    rw [show ((0 : Int)).toNat = 0 from rfl, Addr.add_zero', hs0] at hx0
    exact ⟨ad, hA, fun W hb => pw_cell_below hb hx0⟩⟩
  obtain ⟨⟨ad, hA, hx0⟩⟩ := HX0
  subst hA
  have HX0 := Aside0.mk hx0
  have HL := Aside0.mk hl
  have HN : Aside0 (∀ W, Calls Tryd.prog 45 #[] W (Made W)) := ⟨fun W => new_walk W⟩
  have HCS : Aside0 (∀ r j, r < R → j < C → ∀ h : r * C + j < S.size, S[r * C + j] = coef S C r j) := ⟨fun r j hr hj h => by
    unfold coef
    rw [List.getD_eq_getElem?_getD, List.getElem?_eq_getElem (by rw [Array.length_toList]; exact h)]
    rfl⟩
  have HSS := Aside0.mk hS
  have hmk := run_make_strs R (by omega)
  have HU0 := Aside0.mk (undP_zero (coef S C) R C s0.size data)
  have HUF := Aside0.mk (undP_full (coef S C) R C s0.size data)
  have HUL := Aside0.mk (undP_len (coef S C) R C s0.size data)
  have HUS := Aside0.mk (fun i hi => undP_set (coef S C) R C s0.size data i hi)
  generalize coef S C = cf at *
  generalize undL cf R C s0.size data = fin at *
  clear hrd hcap hx0 he hs0 hS
  go_enter Tryd.func55, Tryd.ntmps55
  have hbx : (w.alloc (.cells #[.int .i64 (R : Int), .int .i64 (C : Int), .string S] 90)).heap[w.heap.size]? = some (.cells #[.int .i64 (R : Int), .int .i64 (C : Int), .string S] 90 (0, 0)) := blk_new _ _
  have hB0 : Below w.heap.size w (w.alloc (.cells #[.int .i64 (R : Int), .int .i64 (C : Int), .string S] 90)) := (Below.refl _ _).alloc (Nat.le_refl _) _
  go_wp2_with fail
  refine (HN.out _).mono ?_
  rintro e w1 ⟨rfl, hf1, hb1⟩
  have X1 := Aside0.mk (blk_below hbx hb1)
  have B1 : Aside0 (Below w.heap.size w w1) := ⟨hB0.trans (hb1.mono (by simp))⟩
  have F1 := Aside0.mk hf1
  generalize (w.alloc (.cells #[.int .i64 (R : Int), .int .i64 (C : Int), .string S] 90)).heap.size = p at *
  clear hb1 hf1 hbx hB0
  have c10 := blk_cell X1.out 0
  obtain ⟨W2, hW2⟩ : ∃ W2, W2 = w1.alloc (.cells (strRow (List.replicate R ⟨#[]⟩)) 9) := ⟨_, rfl⟩
  obtain ⟨go_, hgo⟩ : ∃ g, w1.heap.size = g := ⟨_, rfl⟩
  have hmk1 : (Instr.makeSlice 26 (.int .i64 (R : Int)) (.int .i64 (R : Int))).run Tryd.prog w1 = .ok (.slice (some ⟨go_, 0, none⟩) R R) W2 := by rw [hmk, hW2, hgo]
  have X2 : Aside0 (W2.heap[w.heap.size]? = some (.cells #[.int .i64 (R : Int), .int .i64 (C : Int), .string S] 90 (0, 0))) := ⟨by rw [hW2]; exact blk_alloc X1.out _⟩
  have B2 : Aside0 (Below w.heap.size w W2) := ⟨by rw [hW2]; exact B1.out.alloc B1.out.size _⟩
  have F2 : Aside0 (FieldAt W2 p) := ⟨by rw [hW2]; exact blk_alloc F1.out _⟩
  have O2 : Aside0 (W2.heap[go_]? = some (.cells (strRow (undP cf R C s0.size data 0)) 9 (0, 0))) := ⟨by rw [hW2, HU0.out, ← hgo]; exact blk_new _ _⟩
  have hgo2 : w.heap.size ≤ go_ := by rw [← hgo]; exact B1.out.size
  clear hW2 hgo hmk X1 B1 F1
  go_wp2
  have hmb := run_make_bytes s0.size (by omega)
  go_loopw [19] (fun v W => ∃ i : Nat, i ≤ R ∧ v = .int .i64 (i : Int) ∧ Aside0 (W.heap[go_]? = some (.cells (strRow (undP cf R C s0.size data i)) 9 (0, 0))) ∧ Aside0 (Below w.heap.size w W) ∧ Aside0 (FieldAt W p) ∧ Aside0 (W.heap[w.heap.size]? = some (.cells #[.int .i64 (R : Int), .int .i64 (C : Int), .string S] 90 (0, 0)))) (fun v _ => R - (intOf v).toNat)
  case atStart => exact ⟨0, by omega, rfl, O2, B2, F2, X2⟩
  case round =>
    obtain ⟨i, hiR, rfl, HO, HB, HF, HGB⟩ := hrel
    clear O2 B2 F2 X2 c10 hmk1
    generalize wr = wo at *
    by_cases hlt : i < R
    · obtain ⟨W1, hW1⟩ : ∃ W1, W1 = wo.alloc (.cells (byteCells (zeros s0.size)).toArray 5) := ⟨_, rfl⟩
      obtain ⟨b, hbd⟩ : ∃ b, wo.heap.size = b := ⟨_, rfl⟩
      have hmk1 : (Instr.makeSlice 35 (.int .i64 (s0.size : Int)) (.int .i64 (s0.size : Int))).run Tryd.prog wo = .ok (.slice (some ⟨b, 0, none⟩) s0.size s0.size) W1 := by rw [hmb, hW1, hbd]
      have HN1 : Aside0 (RowB W1 b (accC (cf i) s0.size data 0)) := ⟨by rw [accC_z, hW1, ← hbd]; exact blk_new _ _⟩
      have HW1 : Aside0 (Below wo.heap.size wo W1) := ⟨by rw [hW1]; exact below_alloc (Below.refl _ _) _⟩
      have HBD := Aside0.mk hbd
      have c0 := HX0.out wo HB.out
      have i0 : (0 : Int) < (data.length : Int) := by omega
      have i1 : 0 < data.length := by omega
      clear hW1 hmb hbd
      go_wp2
      go_loopw [29] (fun j W => ∃ q : Nat, q ≤ C ∧ j = .int .i64 (q : Int) ∧ Aside0 (RowB W b (accC (cf i) s0.size data q)) ∧ Aside0 (Below wo.heap.size wo W)) (fun j _ => C - (intOf j).toNat)
      case atStart => exact ⟨0, by omega, rfl, HN1, HW1⟩
      case round =>
        obtain ⟨q, hq, rfl, HP, HW⟩ := hrel
        generalize wr = w4 at *
        by_cases hlq : q < C
        · have hB4 : Below w.heap.size w w4 := HB.out.trans (HW.out.mono HB.out.size)
          obtain ⟨sq, hq0, hsz, hdt⟩ : ∃ sq : ByteArray, w4.cell? (ad.add q) = some (.string sq) ∧ sq.size = s0.size ∧ Aside0 (∀ t (ht : t < sq.size), dAt data q t = sq[t]) := by
            have hqd : q < data.length := by have := HL.out; omega
            obtain ⟨ad', e', hq0⟩ := Kd.at_string (Kd.C_below HR.out.1 hB4) (q : Int) (by omega) (by omega)
            obtain rfl : ad = ad' := by injection e'
            rw [rdOf_nat data q hqd, Int.toNat_natCast] at hq0
            refine ⟨data[q], hq0, ?_, ⟨fun t ht => dAt_get data q t hqd ht⟩⟩
            have := even_of HE0.out _ (List.getElem_mem hqd)
            rw [HS0.out] at this
            exact this
          have g1 := (blk_cell (blk_below HGB.out HW.out) 1)
          have g2 := (blk_cell (blk_below HGB.out HW.out) 2)
          obtain ⟨z, hz⟩ : ∃ z, i * C = z := ⟨_, rfl⟩
          have hzi : (i : Int) * (C : Int) = (z : Int) := by rw [← hz]; push_cast; rfl
          have hzb : z + q < S.size := by
            rw [HSS.out, ← hz]
            have : (i + 1) * C ≤ R * C := Nat.mul_le_mul_right _ (by omega)
            rw [Nat.succ_mul] at this
            omega
          have hSl : S.size ≤ 65025 := by
            rw [HSS.out]
            exact Nat.le_trans (Nat.mul_le_mul hR hC) (by decide)
          have hby : S[z + q] = cf i q := by
            have := HCS.out i q hlt hlq
            rw [hz] at this
            exact this hzb
          clear hz
          have HM0 : Aside0 (RowB w4 b (mixC (cf i) s0.size data q 0)) := ⟨by rw [mixC_zero]; exact HP.out⟩
          have HFI : Aside0 (∀ W, Below wo.heap.size wo W → FieldAt W p) := ⟨fun W hb => HF.out.below hb⟩
          have hbs : wo.heap.size ≤ b := by rw [HBD.out]; exact Nat.le_refl _
          clear HP hB4
          go_wp2
          go_loopw [45] (fun t W => ∃ u : Nat, u ≤ s0.size ∧ t = .int .i64 (u : Int) ∧ Aside0 (RowB W b (mixC (cf i) s0.size data q u)) ∧ Aside0 (Below wo.heap.size wo W)) (fun t _ => s0.size - (intOf t).toNat)
          case atStart => exact ⟨0, by omega, rfl, HM0, HW⟩
          case round =>
            obtain ⟨u, hu, rfl, HX, HY⟩ := hrel
            generalize wr = w5 at *
            by_cases hlu : u < s0.size
            · have huq : u < sq.size := by omega
              have r0 := HX.out.cell u (by rw [mixC_len]; exact hlu)
              rw [mixC_get, if_neg (Nat.lt_irrefl _)] at r0
              have f0 := HX.out.frozen u
              have HST : Aside0 (∀ W : World, W.heap = w5.heap → RowB (W.setCell ⟨b, u, none⟩ (.int .u8 ((((xs (List.range q) fun j => gmul (cf i j) (dAt data j u)) ^^^ gmul (cf i q) (dAt data q u)).toNat : Nat) : Int))) b (mixC (cf i) s0.size data q (u + 1))) := ⟨fun W hW => by
                have h0 : RowB W b (mixC (cf i) s0.size data q u) := by unfold RowB; rw [hW]; exact HX.out
                have := h0.put u ((xs (List.range q) fun j => gmul (cf i j) (dAt data j u)) ^^^ gmul (cf i q) (dAt data q u))
                rwa [mixC_set _ _ _ _ _ hlu] at this⟩
              rw [hdt.out u huq] at HST
              have HMU : Aside0 (∀ W : World, W.heap = w5.heap → Calls Tryd.prog 46 #[.pointer (some ⟨p, 0, none⟩), .int .u8 ((cf i q).toNat : Int), .int .u8 (sq[u].toNat : Int)] W fun e w' => e = .returned (.int .u8 ((gmul (cf i q) sq[u]).toNat : Int)) ∧ Drawn0 W w') := ⟨fun W hW => mul_walk (by unfold FieldAt; rw [hW]; exact HFI.out w5 HY.out) _ _⟩
              have hxr := xor_u8 (xs (List.range q) fun j => gmul (cf i j) (dAt data j u)).toNat (gmul (cf i q) sq[u]).toNat (b_lt _) (b_lt _)
              rw [← UInt8.toNat_xor] at hxr
              generalize ((xs (List.range q) fun j => gmul (cf i j) (dAt data j u)) ^^^ gmul (cf i q) sq[u]).toNat = res at *
              generalize (xs (List.range q) fun j => gmul (cf i j) (dAt data j u)).toNat = old at *
              generalize (gmul (cf i q) sq[u]).toNat = prod at *
              clear hby
              generalize (cf i q).toNat = gy at *
              go_wp2_with fail
              go_region_law (first | (go_simp; go_at_call 46; refine (HMU.out _ (by rfl)).mono ?_; rintro e w6 ⟨rfl, ⟨nd, rfl⟩⟩))
              all_goals go_wp2
              all_goals go_roundw
              all_goals first
                | (case rel => exact ⟨u + 1, by omega, by go_num, ⟨HST.out _ (by rfl)⟩, ⟨Below.setCell (by repeat (first | exact HY.out | apply pw_below_drewN | apply below_drew1)) hbs _⟩⟩)
                | skip
              all_goals (case measure => simp [intOf]; omega)
            · obtain rfl : u = s0.size := by omega
              rw [mixC_full] at HX
              clear hby
              go_wp2
              go_roundw
              case rel => exact ⟨q + 1, by omega, by go_num, HX, HY⟩
              case measure => simp [intOf]; omega
        · obtain rfl : q = C := by omega
          have hcv := HP.out.whole s0.size
          rw [accC_len] at hcv
          have HBW : Aside0 (Below w.heap.size w w4) := ⟨HB.out.trans (HW.out.mono HB.out.size)⟩
          have HOW := Aside0.mk (blk_below HO.out HW.out)
          have HFW := Aside0.mk (HF.out.below HW.out)
          have HGW := Aside0.mk (blk_below HGB.out HW.out)
          have hgi : i < (undP cf R q s0.size data i).length := by rw [HUL.out i]; exact hlt
          have k0 := (blk_cell HOW.out i).trans (strRow_at _ i hgi)
          have f0 := blk_frozen HOW.out i
          have HSET := Aside0.mk (blk_put HOW.out i (.string (txt (accC (cf i) s0.size data q))) (by rw [strRow_set, HUS.out i hlt]))
          have HTX : Aside0 ((⟨(accC (cf i) s0.size data q).toArray⟩ : ByteArray) = txt (accC (cf i) s0.size data q)) := ⟨rfl⟩
          rw [HTX.out] at hcv
          generalize txt (accC (cf i) s0.size data q) = tx at *
          have hnf : ¬ (w.heap.size = go_) := fun e => by
            have h1 := HGW.out
            rw [e, HOW.out] at h1
            injection h1 with h1
            injection h1 with _ h1 _
            cases h1
          have hnp : p ≠ go_ := fun e => by
            have h1 := HFW.out
            unfold FieldAt at h1
            rw [e, HOW.out] at h1
            injection h1 with h1
            injection h1 with _ h1 _
            cases h1
          clear HB HO HF HGB HW HP HN1 HW1
          go_wp2
          go_roundw
          case rel => exact ⟨i + 1, by omega, by go_num, HSET, ⟨HBW.out.setCell hgo2 _⟩, ⟨blk_far HFW.out hnp _⟩, ⟨blk_far HGW.out hnf _⟩⟩
          case measure => simp [intOf]; omega
    · obtain rfl : i = R := by omega
      have hfin := HO.out
      rw [HUF.out] at hfin
      have hfl : fin.length = i := by rw [← HUF.out, HUL.out]
      have hKR := own_strs hgo2 (by rw [hfl]; exact Nat.le_trans hR (by decide)) hfin
      rw [hfl] at hKR
      have HKR := Aside0.mk hKR
      clear hmb hKR hfin
      go_wp2
      go_ret
      exact ⟨_, rfl, HKR.out, HB.out⟩
end
def mend_under.f (a0_0 : Int) (a0_1 : Int) (a0_2 : ByteArray) (l1 : List ByteArray) : Option (List ByteArray) :=
  if 1 ≤ a0_0 ∧ a0_0 ≤ 255 ∧ 1 ≤ a0_1 ∧ a0_1 ≤ 255 ∧ a0_2.size = a0_0.toNat * a0_1.toNat ∧ l1.length = a0_1.toNat ∧ evenB l1 = true ∧ (rdOf ByteArray.empty l1 0).size ≤ 2052 then some (undL (coef a0_2 a0_1.toNat) a0_0.toNat a0_1.toNat (rdOf ByteArray.empty l1 0).size l1) else none
theorem mend_under.calls (a0_0 : Int) (a0_1 : Int) (a0_2 : ByteArray) (A1 : Option Addr) (c1 : Nat) (l1 : List ByteArray) (r : List ByteArray) (w : World) (hr1 : Kd.C Kd.string w A1 l1.length l1) (hc1 : l1.length ≤ c1) (h : mend_under.f a0_0 a0_1 a0_2 l1 = some r) :
    Calls Tryd.prog 55 #[.agg #[.int .i64 a0_0, .int .i64 a0_1, .string a0_2], .slice A1 l1.length c1] w fun e w' => ∃ v0_ : Value, e = .returned (v0_) ∧ Kd.R Kd.string 9 w' w.heap.size (fun _ => True) v0_ r ∧ Below w.heap.size w w' := by
  unfold mend_under.f at h
  split at h
  · rename_i hp
    obtain ⟨p1, p2, p3, p4, p5, p6, p7, p8⟩ := hp
    obtain ⟨R, rfl⟩ : ∃ R : Nat, a0_0 = (R : Int) := ⟨a0_0.toNat, by omega⟩
    obtain ⟨C, rfl⟩ : ∃ C : Nat, a0_1 = (C : Int) := ⟨a0_1.toNat, by omega⟩
    simp only [Int.toNat_natCast] at p5 p6 h
    have := und_walk R C (by omega) (by omega) (by omega) (by omega) a0_2 p5 A1 c1 l1 w hr1 hc1 p6 p7 p8
    rw [← Option.some.inj h]
    exact this
  · cases h
end Go.Proofs.YtpmnhlbkgeiomaaDoor.PS
namespace Go.Proofs.YtpmnhlbkgeiomaaDoor.PS
open Go.RowKit Go.Proofs.YtpmnhlbkgeiomaaDoorW.PrintWords Go.Proofs.YtpmnhlbkgeiomaaDoorW.PrintLast Go.Proofs.YtpmnhlbkgeiomaaDoorW.PrintMore
attribute [local go_sem] Mk.str_leq Mk.str_gtr Mk.str_geq max2_int min2_int max_two min_two max_three min_three max_four min_four   -- for this text's walks alone
set_option linter.unusedVariables false
set_option linter.unusedSimpArgs false

/-! ### mend_Data: function 39 -/
def mend_Data.l0 : Nat → List Int → List ByteArray → List (S37) → Int → Int → Int → Int → ByteArray → Option (List ByteArray × Int)
 | 0, _, _, _, _, _, _, _, _ => none
 | k + 1, x12, x13, x38, x39, x40, x123000, x123001, x123002 => if x40 < x39 then (if 0 ≤ x40 then (if x40 < (x38.length : Int) then ((some (([(rd_T37 x38 x40).f0] : List Int) : List Int)).bind fun y129 => (if x12.length + y129.length < 17592186044416 then ((some (([(rd_T37 x38 x40).f1] : List ByteArray) : List ByteArray)).bind fun y135 => (if x13.length + y135.length < 8796093022208 then (mend_Data.l0 k (x12 ++ y129) (x13 ++ y135) x38 x39 (wrap64 (x40 + 1)) x123000 x123001 x123002) else (none))) else (none))) else (none)) else (none)) else ((matrix_Pick.f x123000 x123001 x123002 x12).bind fun bt141 => ((matrix_Inverse.f bt141.1 bt141.2.1 bt141.2.2.1).bind fun bt146 => (if bt146.2.2.2 = 0 then ((mend_under.f bt146.1 bt146.2.1 bt146.2.2.1 x13).bind fun t151 => (some (t151, 0))) else (some (([] : List ByteArray), bt146.2.2.2)))))
def mend_Data.f (k : Nat) (a0 : Int) (a1 : Int) (l2 : List (S37)) : Option (List ByteArray × Int) := (mend_Check.f a0 a1 l2).bind fun bt116 => (if bt116.2 = 0 then ((matrix_Generator.f a0 a1).bind fun bt118 => (if 0 ≤ a0 then (if a0 ≤ (l2.length : Int) then ((some (l2.take (a0 : Int).toNat : List (S37))).bind fun y123 => (mend_Data.l0 k ([] : List Int) ([] : List ByteArray) y123 (y123.length : Int) 0 bt118.1 bt118.2.1 bt118.2.2.1)) else (none)) else (none))) else (some (([] : List ByteArray), bt116.2)))
theorem mend_Data.mono_l : ∀ k, (∀ y0 y1 y2 y3 y4 y5 y6 y7, LeO (mend_Data.l0 k y0 y1 y2 y3 y4 y5 y6 y7) (mend_Data.l0 (k + 1) y0 y1 y2 y3 y4 y5 y6 y7))
 | 0 => fun _ _ _ _ _ _ _ _ r h => by simp [mend_Data.l0] at h
 | k + 1 => by
  have ih0 := mend_Data.mono_l k
  ·intro y0 y1 y2 y3 y4 y5 y6 y7
   unfold mend_Data.l0
   repeat' first
   | (with_reducible exact ih0 _ _ _ _ _ _ _ _)
   | (with_reducible exact LeO.refl _)
   | (with_reducible exact LeO.none _)
   | (with_reducible refine LeO.ite ?_ ?_)
   | (with_reducible refine LeO.bind ?_ (fun _ => ?_))
   | exact ih0 _ _ _ _ _ _ _ _
   | exact LeO.none _
   | refine LeO.ite ?_ ?_
   | refine LeO.bind ?_ (fun _ => ?_)
theorem mend_Data.mono : ∀ a0 a1 a2 k, LeO (mend_Data.f k a0 a1 a2) (mend_Data.f (k + 1) a0 a1 a2) := by
 intro a0 a1 a2 k
 have ih0 := mend_Data.mono_l k
 unfold mend_Data.f
 repeat' first
   | (with_reducible exact ih0 _ _ _ _ _ _ _ _)
   | (with_reducible exact LeO.refl _)
   | (with_reducible exact LeO.none _)
   | (with_reducible refine LeO.ite ?_ ?_)
   | (with_reducible refine LeO.bind ?_ (fun _ => ?_))
   | exact ih0 _ _ _ _ _ _ _ _
   | exact LeO.none _
   | refine LeO.ite ?_ ?_
   | refine LeO.bind ?_ (fun _ => ?_)
def mend_Data.T10 : Bool × List (List Nat × List Nat) := (true, [([], []), ([], []), ([1], [1]), ([2], [2]), ([0, 3], [0, 3]), ([], []), ([], []), ([6], [6]), ([7], [7]), ([5, 8, 4], [5, 8]), ([4, 9, 0, 1, 2, 3, 4], [0, 4]), ([9, 10, 0, 1, 2, 3, 4, 5, 6, 7, 8, 9, 10], [5, 9])])
def mend_Data.B10 : List Nat := [0, 0, 2, 6, 15, 0, 0, 64, 192, 511, 1023, 2047]
theorem mend_Data.tab10 : rtab .any (opsOf Tryd.f39 10) = mend_Data.T10 := by kernel_rfl
theorem mend_Data.bits10 : waitsOk mend_Data.T10.2 mend_Data.B10 = true := by kernel_rfl
set_option maxHeartbeats 8000000 in
set_option maxRecDepth 100000 in
theorem mend_Data.calls (k : Nat) (a0 : Int) (a1 : Int) (A2 : Option Addr) (c2 : Nat) (l2 : List (S37)) (r1 : List ByteArray) (r2 : Int) (w : World) (hr2 : Kd.C k37 w A2 l2.length l2) (hc2 : l2.length ≤ c2) (h : mend_Data.f k a0 a1 l2 = some (r1, r2)) :
  Calls Tryd.prog 39 #[.int .i64 a0, .int .i64 a1, .slice A2 l2.length c2] w fun e w' => ∃ v0_ : Value, e = .returned (.tuple #[v0_, .int .i64 r2]) ∧ Kd.R Kd.string 9 w' w.heap.size (fun _ => True) v0_ r1 ∧ Below w.heap.size w w' := by
 have hu90 := Tryd.underlying90
 have hu37 := Tryd.underlying37
 have HR2 := Aside0.mk hr2
 have HC2 := Aside0.mk hc2
 clear hr2 hc2
 have HB := Aside0.mk (Below.refl w.heap.size w)
 have H : ((mend_Check.f a0 a1 l2).bind fun bt116 => (if bt116.2 = 0 then ((matrix_Generator.f a0 a1).bind fun bt118 => (if 0 ≤ a0 then (if a0 ≤ (l2.length : Int) then ((some (l2.take (a0 : Int).toNat : List (S37))).bind fun y123 => (mend_Data.l0 k ([] : List Int) ([] : List ByteArray) y123 (y123.length : Int) 0 bt118.1 bt118.2.1 bt118.2.2.1)) else (none)) else (none))) else (some (([] : List ByteArray), bt116.2)))) = some (r1, r2) := h
 clear h
 replace H := Option.bind_eq_some_iff.mp H
 obtain ⟨⟨t116, t117⟩, A40, H⟩ := H
 replace H : (if t117 = 0 then ((matrix_Generator.f a0 a1).bind fun bt118 => (if 0 ≤ a0 then (if a0 ≤ (l2.length : Int) then ((some (l2.take (a0 : Int).toNat : List (S37))).bind fun y123 => (mend_Data.l0 k ([] : List Int) ([] : List ByteArray) y123 (y123.length : Int) 0 bt118.1 bt118.2.1 bt118.2.2.1)) else (none)) else (none))) else (some (([] : List ByteArray), t117))) = some (r1, r2) := H
 have A4 := Aside0.mk A40
 clear A40
 by_cases c5 : t117 = 0
 ·rw [if_pos c5] at H
  have c5b0 : (t117 == 0) = true := beq_iff_eq.mpr c5
  have c5b1 : (t117 != 0) = false := bne_eq_false_iff_eq.mpr c5
  clear c5
  replace H := Option.bind_eq_some_iff.mp H
  obtain ⟨⟨t118, t119, t120, t121⟩, A60, H⟩ := H
  replace H : (if 0 ≤ a0 then (if a0 ≤ (l2.length : Int) then ((some (l2.take (a0 : Int).toNat : List (S37))).bind fun y123 => (mend_Data.l0 k ([] : List Int) ([] : List ByteArray) y123 (y123.length : Int) 0 t118 t119 t120)) else (none)) else (none)) = some (r1, r2) := H
  have A6 := Aside0.mk A60
  clear A60
  by_cases c7 : 0 ≤ a0
  ·rw [if_pos c7] at H
   have c7b0 := eq_true c7
   have c7b1 : decide (0 ≤ a0) = true := decide_eq_true c7
   clear c7
   by_cases c8 : a0 ≤ (l2.length : Int)
   ·rw [if_pos c8] at H
    have c8b0 := eq_true c8
    have c8b1 : decide (a0 ≤ (l2.length : Int)) = true := decide_eq_true c8
    clear c8
    obtain ⟨y123, hy123⟩ : ∃ y_ : List (S37), y_ = (l2.take (a0 : Int).toNat) := ⟨_, rfl⟩
    replace H : (mend_Data.l0 k ([] : List Int) ([] : List ByteArray) y123 (y123.length : Int) 0 t118 t119 t120) = some (r1, r2) := by first | (rw [hy123]; with_reducible exact H) | (have H2_ := (Option.bind_some _ _).symm.trans H; rw [hy123]; with_reducible exact H2_) | (have H2_ := (Option.bind_some _ _).symm.trans H; with_reducible exact H2_) | with_reducible exact H | (rw [hy123]; exact H) | exact H
    have Ny123 := Aside0.mk hy123
    clear hy123
    have H' := Aside0.mk H
    clear H
    go_enter Tryd.func39, Tryd.ntmps39
    go_wp2_with (first | ((with_reducible refine gate_callee (f := 52) rfl ?_); refine goesL_ (some 24) rfl rfl Tryd.func52 (by kernel_rfl) rfl #[.int .i64 a0, .int .i64 a1, .slice A2 l2.length c2] rfl (by (try simp only [List.map_toArray, List.map_cons, List.map_nil]); first | done | rfl | (simp only [List.length_drop, List.length_take]; rfl)) ?_; (with_reducible refine (mend_Check.calls a0 a1 _ _ l2 t116 t117 _ ?side1 ?side2 A4.out).mono ?_); (case side1 => repeat (first | exact HR2.out | (with_reducible refine Kd.C_alloc ?_ _) | (with_reducible refine Kd.C_drewN ?_ _) | (with_reducible refine Kd.C_drew ?_))); (case side2 => exact HC2.out); rintro e w9 ⟨rfl, hb⟩; refine ⟨_, rfl, ?_⟩; have n0_ := Aside0.mk (below_step (by repeat (first | (with_reducible first | exact HB.out | apply below_alloc | apply pw_below_drewN | apply below_drew1) | exact HB.out)) hb); clear HB; have HB := n0_; clear n0_; (try clear hb); (try clear hb2); (try clear hk); (try clear hi)) | ((with_reducible refine gate_callee (f := 44) rfl ?_); refine goesL_ (some 33) rfl rfl Tryd.func44 (by kernel_rfl) rfl #[.int .i64 a0, .int .i64 a1] rfl (by (try simp only [List.map_toArray, List.map_cons, List.map_nil]); first | done | rfl | (simp only [List.length_drop, List.length_take]; rfl)) ?_; (with_reducible refine (matrix_Generator.calls a0 a1 t118 t119 t120 t121 _ A6.out).mono ?_); rintro e w10 ⟨rfl, hb⟩; refine ⟨_, rfl, ?_⟩; have n0_ := Aside0.mk (below_step (by repeat (first | (with_reducible first | exact HB.out | apply below_alloc | apply pw_below_drewN | apply below_drew1) | exact HB.out)) hb); clear HB; have HB := n0_; clear n0_; (try clear hb); (try clear hb2); (try clear hk); (try clear hi)) | ((with_reducible refine gate_dst (N := 10) rfl ?_); refine box_event ?hg (N := 10) ?hd (cs := #[.int .i64 0, .int .i64 0, .string (⟨#[]⟩ : ByteArray)]) (t := 90) ?hr ?_; (case hd => rfl); (case hg => rfl); (case hr => first | (go_simp; done) | (go_simp; rfl)); intro gb122 hg w11 hbox hb; have n0_ := Aside0.mk (below_step (by repeat (first | (with_reducible first | exact HB.out | apply below_alloc | apply pw_below_drewN | apply below_drew1) | exact HB.out)) hb); have n1_ := Aside0.mk (hbox); have n2_ := Aside0.mk ((by rw [hg]; exact (below_size (by repeat (first | (with_reducible first | exact HB.out | apply below_alloc | apply pw_below_drewN | apply below_drew1) | exact HB.out))) : w.heap.size ≤ gb122)); have n3_ := Aside0.mk ((by rw [hg]; exact (below_size (by repeat (first | (with_reducible first | exact HB.out | apply below_alloc | apply pw_below_drewN | apply below_drew1) | exact HB.out))) : w.heap.size ≤ gb122)); clear HB; have HB := n0_; have BK122 := n1_; have GW122 := n2_; have GE122 := n3_; clear n0_ n1_ n2_ n3_; clear hb hbox hg; have hcz12_0 : w11.cell? ⟨gb122, 0, none⟩ = some (.int .i64 0) := (blk_cell BK122.out 0).trans rfl; have hcz12_1 : w11.cell? ⟨gb122, 1, none⟩ = some (.int .i64 0) := (blk_cell BK122.out 1).trans rfl; have hcz12_2 : w11.cell? ⟨gb122, 2, none⟩ = some (.string (⟨#[]⟩ : ByteArray)) := (blk_cell BK122.out 2).trans rfl; have hfz12_0 := blk_frozen BK122.out 0; have hfz12_1 := blk_frozen BK122.out 1; have hfz12_2 := blk_frozen BK122.out 2) | ((with_reducible refine gate_store (t := 90) (p := 10) rfl ?_); refine store_event (t := 90) (p := 10) (v := ?vo_w13) (w1 := (((w11.setCell ⟨gb122, 0, none⟩ (.int .i64 t118)).setCell ⟨gb122, 1, none⟩ (.int .i64 t119)).setCell ⟨gb122, 2, none⟩ (.string t120))) ?hg ?ho ?hn ?hr ?_; (case ho => rfl); (case hg => rfl); (case hn => rfl); (case hr => first | (go_simp; done) | (go_simp; rfl)); intro w13 hw; have n0_ : Aside0 (w13.heap[gb122]? = some (.cells #[.int .i64 t118, .int .i64 t119, .string t120] 90 (0, 0))) := ⟨(by rw [hw]; exact (by (with_reducible repeat (first | refine blk_drewN ?_ _ | refine blk_drew ?_ | refine blk_alloc ?_ _)); refine blk_put (cs := #[.int .i64 t118, .int .i64 t119, .string (⟨#[]⟩ : ByteArray)]) ?_ 2 _ rfl; (with_reducible repeat (first | refine blk_drewN ?_ _ | refine blk_drew ?_ | refine blk_alloc ?_ _)); refine blk_put (cs := #[.int .i64 t118, .int .i64 0, .string (⟨#[]⟩ : ByteArray)]) ?_ 1 _ rfl; (with_reducible repeat (first | refine blk_drewN ?_ _ | refine blk_drew ?_ | refine blk_alloc ?_ _)); refine blk_put (cs := #[.int .i64 0, .int .i64 0, .string (⟨#[]⟩ : ByteArray)]) ?_ 0 _ rfl; (with_reducible repeat (first | refine blk_drewN ?_ _ | refine blk_drew ?_ | refine blk_alloc ?_ _)); exact BK122.out))⟩; have n1_ : Aside0 (Below w.heap.size w w13) := ⟨(by rw [hw]; exact (by repeat (first | (with_reducible first | exact HB.out | apply below_alloc | apply pw_below_drewN | apply below_drew1 | refine below_set ?_ GE122.out) | exact HB.out)))⟩; clear hw; clear BK122; clear HB; have BK122 := n0_; have HB := n1_; clear n0_ n1_; have q14 : (a0 : Int) ≤ ((l2.length : Int) : Int) := of_decide_eq_true (by first | (with_reducible assumption) | assumption); obtain ⟨i014, hi014, _, hsz14, _⟩ := info_parts info37; have hroom14 : l2.length ≤ c2 := HC2.out; have hC14 : Kd.C k37 _ A2 l2.length l2 := HR2.out; have hcut14 := cut_to (P := Tryd.prog) 30 37 .i64 Tryd.underlying30 hi014 A2 l2.length c2 a0 (of_decide_eq_true (by first | (with_reducible assumption) | assumption)) q14 hroom14; have hr14 := Kd.C_take (m := (a0 : Int).toNat) hC14 (by omega); have hy14 : y123.length = (a0 : Int).toNat := (by rw [Ny123.out, List.length_take]; omega); rw [← Ny123.out] at hr14; rw [← hy14] at hcut14; have HR126 := Aside0.mk hr14; have HC126 := Aside0.mk (show y123.length ≤ c2 from by omega); clear hr14 hC14 hroom14 hi014 hsz14; have KY14 := Aside0.mk hy14; clear hy14; replace q14 := eq_true q14))
    go_loopg [12, 13, 40] k (fun kq v12 v13 v40 w' => ∃ (x12_1 : List Int) (x13_1 : List ByteArray) (x40_1 : Int), v40 = .int .i64 x40_1 ∧ Aside0 (mend_Data.l0 kq x12_1 x13_1 y123 (y123.length : Int) x40_1 t118 t119 t120 = some (r1, r2)) ∧ Aside0 (kq ≤ k) ∧ Aside0 (Kd.R (Kd.int .i64) 3 w' w.heap.size (fun _ => True) v12 x12_1) ∧ Aside0 (Kd.R Kd.string 9 w' w.heap.size (fun _ => True) v13 x13_1) ∧ Aside0 (w'.heap[gb122]? = some (.cells #[.int .i64 t118, .int .i64 t119, .string t120] 90 (0, 0))) ∧ Aside0 (Below w.heap.size w w'))
    case atStart => exact ⟨(([] : List Int)), (([] : List ByteArray)), (0), (by first | rfl | (simp; done) | (simp [*]; done)), H', ⟨Nat.le_refl _⟩, ⟨by first | exact Kd.R_nil _ _ _ _ _ | exact Kd.N_nil _ _ _ _ _ | exact Kd.V_nil _ _ _ _ _ | exact Kd.Q_nil _ _ _ _ _ | exact Kd.S_nil _ _ _ _ _⟩, ⟨by first | exact Kd.R_nil _ _ _ _ _ | exact Kd.N_nil _ _ _ _ _ | exact Kd.V_nil _ _ _ _ _ | exact Kd.Q_nil _ _ _ _ _ | exact Kd.S_nil _ _ _ _ _⟩, ⟨by (with_reducible repeat (first | refine blk_drewN ?_ _ | refine blk_drew ?_ | refine blk_alloc ?_ _)); exact BK122.out⟩, ⟨by repeat (first | (with_reducible first | exact HB.out | apply below_alloc | apply pw_below_drewN | apply below_drew1 | refine below_set ?_ GE122.out) | exact HB.out)⟩⟩
    case round =>
     clear H'
     try clear q1
     try clear c2
     try clear p2
     try clear c3
     try clear c4
     try clear c5
     try clear c5b0
     try clear c5b1
     try clear c7
     try clear c7b0
     try clear c7b1
     try clear c8
     try clear c8b0
     try clear c8b1
     try clear q14
     try clear hcz12_0
     try clear hcz12_1
     try clear hcz12_2
     try clear hfz12_0
     try clear hfz12_1
     try clear hfz12_2
     try clear q14
     obtain ⟨x12_1, x13_1, x40_1, rfl, HA, HK1, HO_12, HO_13, BK122, HB⟩ := hrel
     cases gk with
     | zero => exact absurd HA.out (by simp [mend_Data.l0])
     | succ k1 =>
      have H := HA.out
      clear HA
      simp only [mend_Data.l0] at H
      by_cases c15 : x40_1 < (y123.length : Int)
      ·rw [if_pos c15] at H
       have c15b0 : decide (x40_1 < (y123.length : Int)) = true := decide_eq_true c15
       clear c15
       by_cases c16 : 0 ≤ x40_1
       ·rw [if_pos c16] at H
        have c16b0 : decide (0 ≤ x40_1) = true := decide_eq_true c16
        clear c16
        by_cases c17 : x40_1 < (y123.length : Int)
        ·rw [if_pos c17] at H
         have c17b0 : decide (x40_1 < (y123.length : Int)) = true := decide_eq_true c17
         clear c17
         obtain ⟨y129, hy129⟩ : ∃ y_ : List Int, y_ = (([(rd_T37 y123 x40_1).f0] : List Int)) := ⟨_, rfl⟩
         replace H : (if x12_1.length + y129.length < 17592186044416 then ((some (([(rd_T37 y123 x40_1).f1] : List ByteArray) : List ByteArray)).bind fun y135 => (if x13_1.length + y135.length < 8796093022208 then (mend_Data.l0 k1 (x12_1 ++ y129) (x13_1 ++ y135) y123 (y123.length : Int) (wrap64 (x40_1 + 1)) t118 t119 t120) else (none))) else (none)) = some (r1, r2) := by first | (rw [hy129]; with_reducible exact H) | (have H2_ := (Option.bind_some _ _).symm.trans H; rw [hy129]; with_reducible exact H2_) | (have H2_ := (Option.bind_some _ _).symm.trans H; with_reducible exact H2_) | with_reducible exact H | (rw [hy129]; exact H) | exact H
         have Ny129 := Aside0.mk hy129
         clear hy129
         by_cases c18 : x12_1.length + y129.length < 17592186044416
         ·rw [if_pos c18] at H
          have LMc18 := Aside0.mk c18
          clear c18
          obtain ⟨y132, hy132⟩ : ∃ y_ : List Int, y_ = (x12_1 ++ y129) := ⟨_, rfl⟩
          replace H : ((some (([(rd_T37 y123 x40_1).f1] : List ByteArray) : List ByteArray)).bind fun y135 => (if x13_1.length + y135.length < 8796093022208 then (mend_Data.l0 k1 y132 (x13_1 ++ y135) y123 (y123.length : Int) (wrap64 (x40_1 + 1)) t118 t119 t120) else (none))) = some (r1, r2) := by first | (rw [hy132]; with_reducible exact H) | (have H2_ := (Option.bind_some _ _).symm.trans H; rw [hy132]; with_reducible exact H2_) | (have H2_ := (Option.bind_some _ _).symm.trans H; with_reducible exact H2_) | with_reducible exact H | (rw [hy132]; exact H) | exact H
          have Ny132 := Aside0.mk hy132
          clear hy132
          obtain ⟨y135, hy135⟩ : ∃ y_ : List ByteArray, y_ = (([(rd_T37 y123 x40_1).f1] : List ByteArray)) := ⟨_, rfl⟩
          replace H : (if x13_1.length + y135.length < 8796093022208 then (mend_Data.l0 k1 y132 (x13_1 ++ y135) y123 (y123.length : Int) (wrap64 (x40_1 + 1)) t118 t119 t120) else (none)) = some (r1, r2) := by first | (rw [hy135]; with_reducible exact H) | (have H2_ := (Option.bind_some _ _).symm.trans H; rw [hy135]; with_reducible exact H2_) | (have H2_ := (Option.bind_some _ _).symm.trans H; with_reducible exact H2_) | with_reducible exact H | (rw [hy135]; exact H) | exact H
          have Ny135 := Aside0.mk hy135
          clear hy135
          by_cases c19 : x13_1.length + y135.length < 8796093022208
          ·rw [if_pos c19] at H
           have LMc19 := Aside0.mk c19
           clear c19
           obtain ⟨y138, hy138⟩ : ∃ y_ : List ByteArray, y_ = (x13_1 ++ y135) := ⟨_, rfl⟩
           replace H : (mend_Data.l0 k1 y132 y138 y123 (y123.length : Int) (wrap64 (x40_1 + 1)) t118 t119 t120) = some (r1, r2) := by first | (rw [hy138]; with_reducible exact H) | (have H2_ := (Option.bind_some _ _).symm.trans H; rw [hy138]; with_reducible exact H2_) | (have H2_ := (Option.bind_some _ _).symm.trans H; with_reducible exact H2_) | with_reducible exact H | (rw [hy138]; exact H) | exact H
           have Ny138 := Aside0.mk hy138
           clear hy138
           have H' := Aside0.mk H
           clear H
           have p127 : 0 ≤ (x40_1 : Int) := of_decide_eq_true (by first | (with_reducible assumption) | assumption)
           have q127 : x40_1 < (y123.length : Int) := of_decide_eq_true (by first | (with_reducible assumption) | assumption)
           obtain ⟨ad127, e127, hx127_0, hx127_1⟩ := at_T37 HR126.out x40_1 p127 q127
           cases e127
           replace hx127_0 := (HB.out.cell (World.block_lt_of_cell? w _ hx127_0)).trans hx127_0
           replace hx127_1 := (HB.out.cell (World.block_lt_of_cell? w _ hx127_1)).trans hx127_1
           replace p127 := eq_true p127
           replace q127 := eq_true q127
           try go_wp2_with (first | ((with_reducible refine gate_dst (N := 15) rfl ?_); refine box_event ?hg (N := 15) ?hd (cs := #[.int .i64 0, .string (⟨#[]⟩ : ByteArray)]) (t := 37) ?hr ?_; (case hd => rfl); (case hg => rfl); (case hr => first | (go_simp; done) | (go_simp; rfl)); intro gb128 hg w20 hbox hb; have n0_ := Aside0.mk (Kd.R_below (by (with_reducible repeat (first | apply Kd.R_alloc | apply Kd.R_drewN | apply Kd.R_drew)); exact HO_12.out) hb); have n1_ := Aside0.mk (Kd.R_below (by (with_reducible repeat (first | apply Kd.R_alloc | apply Kd.R_drewN | apply Kd.R_drew)); exact HO_13.out) hb); have n2_ := Aside0.mk (blk_below (g := gb122) (o := .cells #[.int .i64 t118, .int .i64 t119, .string t120] 90 (0, 0)) (by (with_reducible repeat (first | refine blk_drewN ?_ _ | refine blk_drew ?_ | refine blk_alloc ?_ _)); exact BK122.out) hb); have n3_ := Aside0.mk (below_step (by repeat (first | (with_reducible first | exact HB.out | apply below_alloc | apply pw_below_drewN | apply below_drew1 | refine below_set ?_ GE122.out) | exact HB.out)) hb); have n4_ := Aside0.mk (hbox); have n5_ := Aside0.mk ((by rw [hg]; exact (below_size (by repeat (first | (with_reducible first | exact HB.out | apply below_alloc | apply pw_below_drewN | apply below_drew1 | refine below_set ?_ GE122.out) | exact HB.out))) : w.heap.size ≤ gb128)); have n6_ := Aside0.mk ((by rw [hg]; exact (below_size (by repeat (first | (with_reducible first | exact HB.out | apply below_alloc | apply pw_below_drewN | apply below_drew1 | refine below_set ?_ GE122.out) | exact HB.out))) : w.heap.size ≤ gb128)); have n7_ := Aside0.mk ((by rw [hg]; exact Nat.ne_of_lt (blk_lt (g := gb122) (o := .cells #[.int .i64 t118, .int .i64 t119, .string t120] 90 (0, 0)) (by (with_reducible repeat (first | refine blk_drewN ?_ _ | refine blk_drew ?_ | refine blk_alloc ?_ _)); exact BK122.out)) : gb122 ≠ gb128)); have n8_ := Aside0.mk ((by rw [hg]; exact Nat.ne_of_gt (blk_lt (g := gb122) (o := .cells #[.int .i64 t118, .int .i64 t119, .string t120] 90 (0, 0)) (by (with_reducible repeat (first | refine blk_drewN ?_ _ | refine blk_drew ?_ | refine blk_alloc ?_ _)); exact BK122.out)) : gb128 ≠ gb122)); clear HO_12; clear HO_13; clear BK122; clear HB; have HO_12 := n0_; have HO_13 := n1_; have BK122 := n2_; have HB := n3_; have BK128 := n4_; have GW128 := n5_; have GE128 := n6_; have NB122_128 := n7_; have NB128_122 := n8_; clear n0_ n1_ n2_ n3_ n4_ n5_ n6_ n7_ n8_; clear hb hbox hg; have hnb21 := NB128_122.out; have hnc21 := NB122_128.out; have hcz22_0 : w20.cell? ⟨gb128, 0, none⟩ = some (.int .i64 0) := (blk_cell BK128.out 0).trans rfl; have hcz22_1 : w20.cell? ⟨gb128, 1, none⟩ = some (.string (⟨#[]⟩ : ByteArray)) := (blk_cell BK128.out 1).trans rfl; have hfz22_0 := blk_frozen BK128.out 0; have hfz22_1 := blk_frozen BK128.out 1; obtain ⟨Ao23, co23, eo23⟩ := Kd.R_slice HO_12.out; subst eo23; obtain ⟨Ao24, co24, eo24⟩ := Kd.R_slice HO_13.out; subst eo24))
           have n0_ : Aside0 (Kd.R (Kd.int .i64) 3 ((w20.setCell ⟨gb128, 0, none⟩ (.int .i64 ((rd_T37 y123 x40_1).f0))).setCell ⟨gb128, 1, none⟩ (.string ((rd_T37 y123 x40_1).f1))) w.heap.size (fun _ => True) (.slice Ao23 x12_1.length co23) x12_1) := ⟨by (with_reducible repeat (first | apply Kd.R_alloc | apply Kd.R_drewN | apply Kd.R_drew)); exact Kd.R_mono (Kd.R_far (p := ⟨gb128, 1, none⟩) (Kd.R_far (p := ⟨gb128, 0, none⟩) (Kd.R_types HO_12.out BK128.out (by decide)) (fun _ hk => hk.2) (.int .i64 ((rd_T37 y123 x40_1).f0))) (fun _ hk => hk.2) (.string ((rd_T37 y123 x40_1).f1))) (fun _ hk => trivial)⟩
           have n1_ : Aside0 (Kd.R Kd.string 9 ((w20.setCell ⟨gb128, 0, none⟩ (.int .i64 ((rd_T37 y123 x40_1).f0))).setCell ⟨gb128, 1, none⟩ (.string ((rd_T37 y123 x40_1).f1))) w.heap.size (fun _ => True) (.slice Ao24 x13_1.length co24) x13_1) := ⟨by (with_reducible repeat (first | apply Kd.R_alloc | apply Kd.R_drewN | apply Kd.R_drew)); exact Kd.R_mono (Kd.R_far (p := ⟨gb128, 1, none⟩) (Kd.R_far (p := ⟨gb128, 0, none⟩) (Kd.R_types HO_13.out BK128.out (by decide)) (fun _ hk => hk.2) (.int .i64 ((rd_T37 y123 x40_1).f0))) (fun _ hk => hk.2) (.string ((rd_T37 y123 x40_1).f1))) (fun _ hk => trivial)⟩
           have n2_ : Aside0 (((w20.setCell ⟨gb128, 0, none⟩ (.int .i64 ((rd_T37 y123 x40_1).f0))).setCell ⟨gb128, 1, none⟩ (.string ((rd_T37 y123 x40_1).f1))).heap[gb122]? = some (.cells #[.int .i64 t118, .int .i64 t119, .string t120] 90 (0, 0))) := ⟨by (with_reducible repeat (first | refine blk_drewN ?_ _ | refine blk_drew ?_ | refine blk_alloc ?_ _)); refine blk_far ?_ NB122_128.out _; (with_reducible repeat (first | refine blk_drewN ?_ _ | refine blk_drew ?_ | refine blk_alloc ?_ _)); refine blk_far ?_ NB122_128.out _; (with_reducible repeat (first | refine blk_drewN ?_ _ | refine blk_drew ?_ | refine blk_alloc ?_ _)); exact BK122.out⟩
           have n3_ : Aside0 (((w20.setCell ⟨gb128, 0, none⟩ (.int .i64 ((rd_T37 y123 x40_1).f0))).setCell ⟨gb128, 1, none⟩ (.string ((rd_T37 y123 x40_1).f1))).heap[gb128]? = some (.cells #[.int .i64 ((rd_T37 y123 x40_1).f0), .string ((rd_T37 y123 x40_1).f1)] 37 (0, 0))) := ⟨by (with_reducible repeat (first | refine blk_drewN ?_ _ | refine blk_drew ?_ | refine blk_alloc ?_ _)); refine blk_put (cs := #[.int .i64 ((rd_T37 y123 x40_1).f0), .string (⟨#[]⟩ : ByteArray)]) ?_ 1 _ rfl; (with_reducible repeat (first | refine blk_drewN ?_ _ | refine blk_drew ?_ | refine blk_alloc ?_ _)); refine blk_put (cs := #[.int .i64 0, .string (⟨#[]⟩ : ByteArray)]) ?_ 0 _ rfl; (with_reducible repeat (first | refine blk_drewN ?_ _ | refine blk_drew ?_ | refine blk_alloc ?_ _)); exact BK128.out⟩
           have n4_ : Aside0 (Below w.heap.size w ((w20.setCell ⟨gb128, 0, none⟩ (.int .i64 ((rd_T37 y123 x40_1).f0))).setCell ⟨gb128, 1, none⟩ (.string ((rd_T37 y123 x40_1).f1)))) := ⟨by repeat (first | (with_reducible first | exact HB.out | apply below_alloc | apply pw_below_drewN | apply below_drew1 | refine below_set ?_ GE122.out | refine below_set ?_ GE128.out) | exact HB.out)⟩
           (try clear HO_12)
           (try clear HO_13)
           (try clear BK122)
           (try clear BK128)
           (try clear HB)
           generalize ((w20.setCell ⟨gb128, 0, none⟩ (.int .i64 ((rd_T37 y123 x40_1).f0))).setCell ⟨gb128, 1, none⟩ (.string ((rd_T37 y123 x40_1).f1))) = w25 at n0_ n1_ n2_ n3_ n4_ ⊢
           have HO_12 := n0_
           have HO_13 := n1_
           have BK122 := n2_
           have BK128 := n3_
           have HB := n4_
           clear n0_ n1_ n2_ n3_ n4_
           have n0_ := Aside0.mk (Kd.R_drew HO_12.out)
           have n1_ := Aside0.mk (Kd.R_drew HO_13.out)
           have n2_ := Aside0.mk (blk_drew BK122.out)
           have n3_ := Aside0.mk (blk_drew BK128.out)
           have n4_ := Aside0.mk (below_drew1 HB.out)
           clear HO_12
           clear HO_13
           clear BK122
           clear BK128
           clear HB
           have HO_12 := n0_
           have HO_13 := n1_
           have BK122 := n2_
           have BK128 := n3_
           have HB := n4_
           clear n0_ n1_ n2_ n3_ n4_
           refine start_ (n := 12) (S := fun w' => w'.cell? ⟨gb128, 0, none⟩ = some (.int .i64 ((rd_T37 y123 x40_1).f0)) ∧ w'.cell? ⟨gb128, 1, none⟩ = some (.string ((rd_T37 y123 x40_1).f1))) (ds := []) #[false, false, false, false, false, false, false, false, false, false, false, false] (by kernel_rfl) rfl rfl ⟨(blk_cell BK128.out 0).trans rfl, (blk_cell BK128.out 1).trans rfl⟩ (fun hHeld => ?_); refine with_tabW mend_Data.tab10 mend_Data.bits10 (fun HT_ HW_ => ?_)
           generalize w25.drew = w26 at HO_12 HO_13 BK122 BK128 HB hHeld ⊢
           refine pure_ (i := 0) (N := some 44) (v := ?_) (a' := ?_) #[true, false, false, false, false, false, false, false, false, false, false, false] rfl rfl (any_of HT_.out (by kernel_rfl)) (fun _ _ _ h => h) (Or.inl ⟨by rfl, ?_⟩) ?_ ?_
           rotate_left
           ·intro w'
            go_simp
            with_reducible rfl
           rotate_left
           ·simp only [Act.put, List.setIfInBounds_toArray, List.set_cons_zero, List.set_cons_succ, i64_w, i32_w]
            rfl
           refine pure_ (i := 1) (N := some 45) (v := ?_) (a' := ?_) #[true, true, false, false, false, false, false, false, false, false, false, false] rfl rfl (any_of HT_.out (by kernel_rfl)) (fun _ _ _ h => h) (Or.inl ⟨by rfl, ?_⟩) ?_ ?_
           rotate_left
           ·intro w'
            go_simp
            with_reducible rfl
           rotate_left
           ·simp only [Act.put, List.setIfInBounds_toArray, List.set_cons_zero, List.set_cons_succ, i64_w, i32_w]
            rfl
           refine pure_ (i := 5) (N := some 49) (v := ?_) (a' := ?_) #[true, true, false, false, false, true, false, false, false, false, false, false] rfl rfl (any_of HT_.out (by kernel_rfl)) (fun _ _ _ h => h) (Or.inl ⟨by rfl, ?_⟩) ?_ ?_
           rotate_left
           ·intro w'
            go_simp
            with_reducible rfl
           rotate_left
           ·simp only [Act.put, List.setIfInBounds_toArray, List.set_cons_zero, List.set_cons_succ, i64_w, i32_w]
            rfl
           refine pure_ (i := 6) (N := some 50) (v := ?_) (a' := ?_) #[true, true, false, false, false, true, true, false, false, false, false, false] rfl rfl (any_of HT_.out (by kernel_rfl)) (fun _ _ _ h => h) (Or.inl ⟨by rfl, ?_⟩) ?_ ?_
           rotate_left
           ·intro w'
            go_simp
            with_reducible rfl
           rotate_left
           ·simp only [Act.put, List.setIfInBounds_toArray, List.set_cons_zero, List.set_cons_succ, i64_w, i32_w]
            rfl
           refine take_ (i := 2) (N := some 46) (v := ?_) (a' := ?_) #[true, true, true, false, false, true, true, false, false, false, false, false] rfl rfl (take_ofW HT_.out HW_.out (by kernel_rfl)) (fun _ _ _ h => h) (Or.inl ⟨by rfl, ?_⟩) hHeld ?_ ?_
           rotate_left
           ·rintro w' ⟨s0, s1⟩
            go_simp
            with_reducible rfl
           rotate_left
           ·simp only [Act.put, List.setIfInBounds_toArray, List.set_cons_zero, List.set_cons_succ, i64_w, i32_w]
            rfl
           refine take_ (i := 7) (N := some 51) (v := ?_) (a' := ?_) #[true, true, true, false, false, true, true, true, false, false, false, false] rfl rfl (take_ofW HT_.out HW_.out (by kernel_rfl)) (fun _ _ _ h => h) (Or.inl ⟨by rfl, ?_⟩) hHeld ?_ ?_
           rotate_left
           ·rintro w' ⟨s0, s1⟩
            go_simp
            with_reducible rfl
           rotate_left
           ·simp only [Act.put, List.setIfInBounds_toArray, List.set_cons_zero, List.set_cons_succ, i64_w, i32_w]
            rfl
           refine join_ (σ := Value × Value × Value) 3 #[true, true, true, true, true, true, true, true, true, false, false, false] (fun s_ => [(47, s_.1), (48, s_.2.1), (52, s_.2.2)]) (fun s_ w' => (w'.cell? ⟨gb128, 0, none⟩ = some (.int .i64 ((rd_T37 y123 x40_1).f0)) ∧ w'.cell? ⟨gb128, 1, none⟩ = some (.string ((rd_T37 y123 x40_1).f1))) ∧ (Kd.R (Kd.int .i64) 3 w' w.heap.size (fun k_ => some k_ ≠ (s_.2.1 : Value).ownBlock) s_.1 y129) ∧ (Kd.R (Kd.int .i64) 3 w' w.heap.size (fun k_ => some k_ ≠ (s_.1 : Value).ownBlock) s_.2.1 y132) ∧ (Kd.R Kd.string 9 w' w.heap.size (fun k_ => some k_ ≠ (.slice Ao24 x13_1.length co24 : Value).ownBlock) s_.2.2 y135) ∧ (Kd.R Kd.string 9 w' w.heap.size (fun k_ => some k_ ≠ (s_.2.2 : Value).ownBlock) (.slice Ao24 x13_1.length co24) x13_1) ∧ (w'.heap[gb122]? = some (.cells #[.int .i64 t118, .int .i64 t119, .string t120] 90 (0, 0))) ∧ (w'.heap[gb128]? = some (.cells #[.int .i64 ((rd_T37 y123 x40_1).f0), .string ((rd_T37 y123 x40_1).f1)] 37 (0, 0))) ∧ (Below w.heap.size w w')) ?_ ?_
           rotate_left
           ·intro hCont
            refine two_ (i := 3) (j := 8) (Ni := some 47) (Nj := some 52) #[true, true, true, true, false, true, true, true, false, false, false, false] #[true, true, true, false, false, true, true, true, true, false, false, false] rfl rfl rfl rfl (two_of HT_.out (by kernel_rfl)) (by decide) (by decide) (fun K hK => ?_) (fun K hK => ?_)
            ·skip
             refine Kd.R_lit_step (Kd.int .i64) _ 3 ?hg (N := 47) ?hd (xs := ([(rd_T37 y123 x40_1).f0] : List Int)) (inner := [.int .i64 ((rd_T37 y123 x40_1).f0)]) (ok := fun _ => True) (okp := fun _ => True) ?hr ?hp (fun _ hk => hk) trivial (Below.refl _ _) (Nat.le_refl _) (by simp) ?_; (case hd => rfl); (case hg => rfl); (case hr => first | (go_simp; done) | (go_simp; rfl)); (case hp => exact (Reps.one (show Kd.M (Kd.int .i64) _ _ _ ((rd_T37 y123 x40_1).f0) [.int .i64 ((rd_T37 y123 x40_1).f0)] from rfl) (Reps.none _ _)))
             intro v130 w27 ho28 hb hg_ hnew_
             clear hg_ hnew_
             (first | rw [← Ny129.out] at ho28 | (simp only [Int.reduceToNat] at ho28; rw [← Ny129.out] at ho28))
             have n0_ := Aside0.mk (Kd.R_elder' (by (with_reducible repeat (first | apply Kd.R_alloc | apply Kd.R_drewN | apply Kd.R_drew)); exact HO_12.out) (Kd.R_base ho28) hb)
             have n1_ := Aside0.mk (Kd.R_below (by (with_reducible repeat (first | apply Kd.R_alloc | apply Kd.R_drewN | apply Kd.R_drew)); exact HO_13.out) hb)
             have n2_ := Aside0.mk (Kd.R_lower (Kd.R_new' ho28 (Kd.R_lt (by (with_reducible repeat (first | apply Kd.R_alloc | apply Kd.R_drewN | apply Kd.R_drew)); exact HO_12.out))) (below_size (by repeat (first | (with_reducible first | exact HB.out | apply below_alloc | apply pw_below_drewN | apply below_drew1 | refine below_set ?_ GE122.out | refine below_set ?_ GE128.out) | exact HB.out))))
             have n3_ := Aside0.mk (blk_below (g := gb122) (o := .cells #[.int .i64 t118, .int .i64 t119, .string t120] 90 (0, 0)) (by (with_reducible repeat (first | refine blk_drewN ?_ _ | refine blk_drew ?_ | refine blk_alloc ?_ _)); exact BK122.out) hb)
             have n4_ := Aside0.mk (blk_below (g := gb128) (o := .cells #[.int .i64 ((rd_T37 y123 x40_1).f0), .string ((rd_T37 y123 x40_1).f1)] 37 (0, 0)) (by (with_reducible repeat (first | refine blk_drewN ?_ _ | refine blk_drew ?_ | refine blk_alloc ?_ _)); exact BK128.out) hb)
             have n5_ := Aside0.mk (below_step (by repeat (first | (with_reducible first | exact HB.out | apply below_alloc | apply pw_below_drewN | apply below_drew1 | refine below_set ?_ GE122.out | refine below_set ?_ GE128.out) | exact HB.out)) hb)
             clear HO_12
             clear HO_13
             clear BK122
             clear BK128
             clear HB
             have HO_12 := n0_
             have HO_13 := n1_
             have HO131 := n2_
             have BK122 := n3_
             have BK128 := n4_
             have HB := n5_
             clear n0_ n1_ n2_ n3_ n4_ n5_
             clear hb ho28
             obtain ⟨Ao30, co30, eo30⟩ := Kd.R_slice HO131.out
             (first | subst eo30 | (injection eo30 with f1_ f2_ f3_; have f4_ := f1_.symm; have f5_ := f3_.symm; clear f1_ f2_ f3_; subst f4_; subst f5_))
             refine hK.out _ _ ⟨(blk_cell BK128.out 0).trans rfl, (blk_cell BK128.out 1).trans rfl⟩ (fun hHeld => ?_)
             clear hK K
             refine norm_ (a' := ?_) ?_ ?_
             rotate_left
             ·show Act.put _ (some 47) _ = _
              simp only [Act.put, List.setIfInBounds_toArray, List.set_cons_zero, List.set_cons_succ, i64_w, i32_w]
              rfl
             refine two_ (i := 4) (j := 8) (Ni := some 48) (Nj := some 52) #[true, true, true, true, true, true, true, true, false, false, false, false] #[true, true, true, true, false, true, true, true, true, false, false, false] rfl rfl rfl rfl (two_of HT_.out (by kernel_rfl)) (by decide) (by decide) (fun K hK => ?_) (fun K hK => ?_)
             ·skip
              refine Kd.R_append_rows_step (Kd.int .i64) (w0 := w) w.heap.size (by rfl) (.tmp 44) (.tmp 47) 32 3 (.int .i64 0) 8 rfl Tryd.underlying32 info3 rfl (by decide) (by omega) (.slice Ao23 x12_1.length co23) x12_1 y129 _ _ _ (fun k_ => some k_ ≠ (.slice Ao30 y129.length co30 : Value).ownBlock) (fun _ => False) rfl rfl ?aO ?aR (fun _ _ h => h) (fun _ h => h.elim) ?aF ?aB ?aS ?aL ?_
              (case aR => repeat (first | exact (Kd.R_reads' HO131.out).2.2 | (with_reducible refine Kd.C_alloc ?_ _) | (with_reducible refine Kd.C_drewN ?_ _) | (with_reducible refine Kd.C_drew ?_)))
              (case aB => exact (by repeat (first | (with_reducible first | exact HB.out | apply below_alloc | apply pw_below_drewN | apply below_drew1 | refine below_set ?_ GE122.out | refine below_set ?_ GE128.out) | exact HB.out)))
              (case aF => exact (fun k_ hk => Kd.fresh' (Kd.R_lt (by (with_reducible repeat (first | apply Kd.R_alloc | apply Kd.R_drewN | apply Kd.R_drew)); exact HO131.out)) k_ hk))
              (case aO => exact (by (with_reducible repeat (first | apply Kd.R_alloc | apply Kd.R_drewN | apply Kd.R_drew)); exact Kd.R_mono HO_12.out (fun _ hk => hk.2)))
              (case aS => exact (below_size (by repeat (first | (with_reducible first | exact HB.out | apply below_alloc | apply pw_below_drewN | apply below_drew1 | refine below_set ?_ GE122.out | refine below_set ?_ GE128.out) | exact HB.out))))
              (case aL => have := LMc18.out; omega)
              intro v133 w29 ho hb hg hat
              rw [← Ny132.out] at ho
              have n0_ := Aside0.mk (Kd.R_over' (by (with_reducible repeat (first | apply Kd.R_alloc | apply Kd.R_drewN | apply Kd.R_drew)); exact HO_13.out) (Kd.R_typed (by (with_reducible repeat (first | apply Kd.R_alloc | apply Kd.R_drewN | apply Kd.R_drew)); exact HO_12.out)) (by decide) hg)
              have n1_ := Aside0.mk (blk_grown (g := gb122) (o := .cells #[.int .i64 t118, .int .i64 t119, .string t120] 90 (0, 0)) (by (with_reducible repeat (first | refine blk_drewN ?_ _ | refine blk_drew ?_ | refine blk_alloc ?_ _)); exact BK122.out) hg (Kd.R_ne HO_12.out BK122.out (by decide)))
              have n2_ := Aside0.mk (blk_grown (g := gb128) (o := .cells #[.int .i64 ((rd_T37 y123 x40_1).f0), .string ((rd_T37 y123 x40_1).f1)] 37 (0, 0)) (by (with_reducible repeat (first | refine blk_drewN ?_ _ | refine blk_drew ?_ | refine blk_alloc ?_ _)); exact BK128.out) hg (Kd.R_ne HO_12.out BK128.out (by decide)))
              have n3_ := Aside0.mk (Kd.R_after (ok := (fun _ => True)) (by (with_reducible repeat (first | apply Kd.R_alloc | apply Kd.R_drewN | apply Kd.R_drew)); exact HO131.out) hg hat)
              have n4_ := Aside0.mk (hb)
              have n5_ := Aside0.mk (ho)
              clear HO_13
              clear BK122
              clear BK128
              clear HO131
              clear HB
              clear HO_12
              have HO_13 := n0_
              have BK122 := n1_
              have BK128 := n2_
              have HO131 := n3_
              have HB := n4_
              have HO134 := n5_
              clear n0_ n1_ n2_ n3_ n4_ n5_
              clear ho hb hg hat
              refine hK.out _ _ ⟨(blk_cell BK128.out 0).trans rfl, (blk_cell BK128.out 1).trans rfl⟩ (fun hHeld => ?_)
              clear hK K
              refine norm_ (a' := ?_) ?_ ?_
              rotate_left
              ·show Act.put _ (some 48) _ = _
               simp only [Act.put, List.setIfInBounds_toArray, List.set_cons_zero, List.set_cons_succ, i64_w, i32_w]
               rfl
              refine one_ (i := 8) (N := some 52) #[true, true, true, true, true, true, true, true, true, false, false, false] rfl rfl (one_of HT_.out (by kernel_rfl)) (by decide) (fun K hK => ?_)
              refine Kd.R_lit_step Kd.string _ 9 ?hg (N := 52) ?hd (xs := ([(rd_T37 y123 x40_1).f1] : List ByteArray)) (inner := [.string ((rd_T37 y123 x40_1).f1)]) (ok := fun _ => True) (okp := fun _ => True) ?hr ?hp (fun _ hk => hk) trivial (Below.refl _ _) (Nat.le_refl _) (by simp) ?_; (case hd => rfl); (case hg => rfl); (case hr => first | (go_simp; done) | (go_simp; rfl)); (case hp => exact (Reps.one (show Kd.M Kd.string _ _ _ ((rd_T37 y123 x40_1).f1) [.string ((rd_T37 y123 x40_1).f1)] from rfl) (Reps.none _ _)))
              intro v136 w31 ho32 hb hg_ hnew_
              clear hg_ hnew_
              (first | rw [← Ny135.out] at ho32 | (simp only [Int.reduceToNat] at ho32; rw [← Ny135.out] at ho32))
              have n0_ := Aside0.mk (Kd.R_elder' (by (with_reducible repeat (first | apply Kd.R_alloc | apply Kd.R_drewN | apply Kd.R_drew)); exact HO_13.out) (Kd.R_base ho32) hb)
              have n1_ := Aside0.mk (Kd.R_below (by (with_reducible repeat (first | apply Kd.R_alloc | apply Kd.R_drewN | apply Kd.R_drew)); exact HO131.out) hb)
              have n2_ := Aside0.mk (Kd.R_below (by (with_reducible repeat (first | apply Kd.R_alloc | apply Kd.R_drewN | apply Kd.R_drew)); exact HO134.out) hb)
              have n3_ := Aside0.mk (Kd.R_lower (Kd.R_new' ho32 (Kd.R_lt (by (with_reducible repeat (first | apply Kd.R_alloc | apply Kd.R_drewN | apply Kd.R_drew)); exact HO_13.out))) (below_size (by repeat (first | (with_reducible first | exact HB.out | apply below_alloc | apply pw_below_drewN | apply below_drew1 | refine below_set ?_ GE122.out | refine below_set ?_ GE128.out) | exact HB.out))))
              have n4_ := Aside0.mk (blk_below (g := gb122) (o := .cells #[.int .i64 t118, .int .i64 t119, .string t120] 90 (0, 0)) (by (with_reducible repeat (first | refine blk_drewN ?_ _ | refine blk_drew ?_ | refine blk_alloc ?_ _)); exact BK122.out) hb)
              have n5_ := Aside0.mk (blk_below (g := gb128) (o := .cells #[.int .i64 ((rd_T37 y123 x40_1).f0), .string ((rd_T37 y123 x40_1).f1)] 37 (0, 0)) (by (with_reducible repeat (first | refine blk_drewN ?_ _ | refine blk_drew ?_ | refine blk_alloc ?_ _)); exact BK128.out) hb)
              have n6_ := Aside0.mk (below_step (by repeat (first | (with_reducible first | exact HB.out | apply below_alloc | apply pw_below_drewN | apply below_drew1 | refine below_set ?_ GE122.out | refine below_set ?_ GE128.out) | exact HB.out)) hb)
              clear HO_13
              clear HO131
              clear HO134
              clear BK122
              clear BK128
              clear HB
              have HO_13 := n0_
              have HO131 := n1_
              have HO134 := n2_
              have HO137 := n3_
              have BK122 := n4_
              have BK128 := n5_
              have HB := n6_
              clear n0_ n1_ n2_ n3_ n4_ n5_ n6_
              clear hb ho32
              refine hK.out _ _ ⟨(blk_cell BK128.out 0).trans rfl, (blk_cell BK128.out 1).trans rfl⟩ (fun hHeld => ?_)
              clear hK K
              refine norm_ (a' := ?_) ?_ ?_
              rotate_left
              ·show Act.put _ (some 52) _ = _
               simp only [Act.put, List.setIfInBounds_toArray, List.set_cons_zero, List.set_cons_succ, i64_w, i32_w]
               rfl
              exact norm_ (by simp only [putAll, Act.put, List.setIfInBounds_toArray, List.set_cons_zero, List.set_cons_succ]) (hCont (.slice Ao30 y129.length co30, v133, v136) _ ⟨hHeld, (by (with_reducible repeat (first | apply Kd.R_alloc | apply Kd.R_drewN | apply Kd.R_drew)); exact Kd.R_mono HO131.out (fun _ hk => hk.2)), (by (with_reducible repeat (first | apply Kd.R_alloc | apply Kd.R_drewN | apply Kd.R_drew)); exact HO134.out), (by (with_reducible repeat (first | apply Kd.R_alloc | apply Kd.R_drewN | apply Kd.R_drew)); exact Kd.R_mono HO137.out (fun _ hk => hk.2)), (by (with_reducible repeat (first | apply Kd.R_alloc | apply Kd.R_drewN | apply Kd.R_drew)); exact Kd.R_mono HO_13.out (fun _ hk => hk.2)), (by (with_reducible repeat (first | refine blk_drewN ?_ _ | refine blk_drew ?_ | refine blk_alloc ?_ _)); exact BK122.out), (by (with_reducible repeat (first | refine blk_drewN ?_ _ | refine blk_drew ?_ | refine blk_alloc ?_ _)); exact BK128.out), (by repeat (first | (with_reducible first | exact HB.out | apply below_alloc | apply pw_below_drewN | apply below_drew1 | refine below_set ?_ GE122.out | refine below_set ?_ GE128.out) | exact HB.out))⟩)
             ·skip
              refine Kd.R_lit_step Kd.string _ 9 ?hg (N := 52) ?hd (xs := ([(rd_T37 y123 x40_1).f1] : List ByteArray)) (inner := [.string ((rd_T37 y123 x40_1).f1)]) (ok := fun _ => True) (okp := fun _ => True) ?hr ?hp (fun _ hk => hk) trivial (Below.refl _ _) (Nat.le_refl _) (by simp) ?_; (case hd => rfl); (case hg => rfl); (case hr => first | (go_simp; done) | (go_simp; rfl)); (case hp => exact (Reps.one (show Kd.M Kd.string _ _ _ ((rd_T37 y123 x40_1).f1) [.string ((rd_T37 y123 x40_1).f1)] from rfl) (Reps.none _ _)))
              intro v136 w29 ho30 hb hg_ hnew_
              clear hg_ hnew_
              (first | rw [← Ny135.out] at ho30 | (simp only [Int.reduceToNat] at ho30; rw [← Ny135.out] at ho30))
              have n0_ := Aside0.mk (Kd.R_below (by (with_reducible repeat (first | apply Kd.R_alloc | apply Kd.R_drewN | apply Kd.R_drew)); exact HO_12.out) hb)
              have n1_ := Aside0.mk (Kd.R_elder' (by (with_reducible repeat (first | apply Kd.R_alloc | apply Kd.R_drewN | apply Kd.R_drew)); exact HO_13.out) (Kd.R_base ho30) hb)
              have n2_ := Aside0.mk (Kd.R_below (by (with_reducible repeat (first | apply Kd.R_alloc | apply Kd.R_drewN | apply Kd.R_drew)); exact HO131.out) hb)
              have n3_ := Aside0.mk (Kd.R_lower (Kd.R_new' ho30 (Kd.R_lt (by (with_reducible repeat (first | apply Kd.R_alloc | apply Kd.R_drewN | apply Kd.R_drew)); exact HO_13.out))) (below_size (by repeat (first | (with_reducible first | exact HB.out | apply below_alloc | apply pw_below_drewN | apply below_drew1 | refine below_set ?_ GE122.out | refine below_set ?_ GE128.out) | exact HB.out))))
              have n4_ := Aside0.mk (blk_below (g := gb122) (o := .cells #[.int .i64 t118, .int .i64 t119, .string t120] 90 (0, 0)) (by (with_reducible repeat (first | refine blk_drewN ?_ _ | refine blk_drew ?_ | refine blk_alloc ?_ _)); exact BK122.out) hb)
              have n5_ := Aside0.mk (blk_below (g := gb128) (o := .cells #[.int .i64 ((rd_T37 y123 x40_1).f0), .string ((rd_T37 y123 x40_1).f1)] 37 (0, 0)) (by (with_reducible repeat (first | refine blk_drewN ?_ _ | refine blk_drew ?_ | refine blk_alloc ?_ _)); exact BK128.out) hb)
              have n6_ := Aside0.mk (below_step (by repeat (first | (with_reducible first | exact HB.out | apply below_alloc | apply pw_below_drewN | apply below_drew1 | refine below_set ?_ GE122.out | refine below_set ?_ GE128.out) | exact HB.out)) hb)
              clear HO_12
              clear HO_13
              clear HO131
              clear BK122
              clear BK128
              clear HB
              have HO_12 := n0_
              have HO_13 := n1_
              have HO131 := n2_
              have HO137 := n3_
              have BK122 := n4_
              have BK128 := n5_
              have HB := n6_
              clear n0_ n1_ n2_ n3_ n4_ n5_ n6_
              clear hb ho30
              obtain ⟨Ao32, co32, eo32⟩ := Kd.R_slice HO131.out
              (first | subst eo32 | (injection eo32 with f1_ f2_ f3_; have f4_ := f1_.symm; have f5_ := f3_.symm; clear f1_ f2_ f3_; subst f4_; subst f5_))
              refine hK.out _ _ ⟨(blk_cell BK128.out 0).trans rfl, (blk_cell BK128.out 1).trans rfl⟩ (fun hHeld => ?_)
              clear hK K
              refine norm_ (a' := ?_) ?_ ?_
              rotate_left
              ·show Act.put _ (some 52) _ = _
               simp only [Act.put, List.setIfInBounds_toArray, List.set_cons_zero, List.set_cons_succ, i64_w, i32_w]
               rfl
              refine one_ (i := 4) (N := some 48) #[true, true, true, true, true, true, true, true, true, false, false, false] rfl rfl (one_of HT_.out (by kernel_rfl)) (by decide) (fun K hK => ?_)
              refine Kd.R_append_rows_step (Kd.int .i64) (w0 := w) w.heap.size (by rfl) (.tmp 44) (.tmp 47) 32 3 (.int .i64 0) 8 rfl Tryd.underlying32 info3 rfl (by decide) (by omega) (.slice Ao23 x12_1.length co23) x12_1 y129 _ _ _ (fun k_ => some k_ ≠ (.slice Ao32 y129.length co32 : Value).ownBlock) (fun _ => False) rfl rfl ?aO ?aR (fun _ _ h => h) (fun _ h => h.elim) ?aF ?aB ?aS ?aL ?_
              (case aR => repeat (first | exact (Kd.R_reads' HO131.out).2.2 | (with_reducible refine Kd.C_alloc ?_ _) | (with_reducible refine Kd.C_drewN ?_ _) | (with_reducible refine Kd.C_drew ?_)))
              (case aB => exact (by repeat (first | (with_reducible first | exact HB.out | apply below_alloc | apply pw_below_drewN | apply below_drew1 | refine below_set ?_ GE122.out | refine below_set ?_ GE128.out) | exact HB.out)))
              (case aF => exact (fun k_ hk => Kd.fresh' (Kd.R_lt (by (with_reducible repeat (first | apply Kd.R_alloc | apply Kd.R_drewN | apply Kd.R_drew)); exact HO131.out)) k_ hk))
              (case aO => exact (by (with_reducible repeat (first | apply Kd.R_alloc | apply Kd.R_drewN | apply Kd.R_drew)); exact Kd.R_mono HO_12.out (fun _ hk => hk.2)))
              (case aS => exact (below_size (by repeat (first | (with_reducible first | exact HB.out | apply below_alloc | apply pw_below_drewN | apply below_drew1 | refine below_set ?_ GE122.out | refine below_set ?_ GE128.out) | exact HB.out))))
              (case aL => have := LMc18.out; omega)
              intro v133 w31 ho hb hg hat
              rw [← Ny132.out] at ho
              have n0_ := Aside0.mk (Kd.R_over' (by (with_reducible repeat (first | apply Kd.R_alloc | apply Kd.R_drewN | apply Kd.R_drew)); exact HO_13.out) (Kd.R_typed (by (with_reducible repeat (first | apply Kd.R_alloc | apply Kd.R_drewN | apply Kd.R_drew)); exact HO_12.out)) (by decide) hg)
              have n1_ := Aside0.mk (blk_grown (g := gb122) (o := .cells #[.int .i64 t118, .int .i64 t119, .string t120] 90 (0, 0)) (by (with_reducible repeat (first | refine blk_drewN ?_ _ | refine blk_drew ?_ | refine blk_alloc ?_ _)); exact BK122.out) hg (Kd.R_ne HO_12.out BK122.out (by decide)))
              have n2_ := Aside0.mk (blk_grown (g := gb128) (o := .cells #[.int .i64 ((rd_T37 y123 x40_1).f0), .string ((rd_T37 y123 x40_1).f1)] 37 (0, 0)) (by (with_reducible repeat (first | refine blk_drewN ?_ _ | refine blk_drew ?_ | refine blk_alloc ?_ _)); exact BK128.out) hg (Kd.R_ne HO_12.out BK128.out (by decide)))
              have n3_ := Aside0.mk (Kd.R_after (ok := (fun _ => True)) (by (with_reducible repeat (first | apply Kd.R_alloc | apply Kd.R_drewN | apply Kd.R_drew)); exact HO131.out) hg hat)
              have n4_ := Aside0.mk (Kd.R_over' (by (with_reducible repeat (first | apply Kd.R_alloc | apply Kd.R_drewN | apply Kd.R_drew)); exact HO137.out) (Kd.R_typed (by (with_reducible repeat (first | apply Kd.R_alloc | apply Kd.R_drewN | apply Kd.R_drew)); exact HO_12.out)) (by decide) hg)
              have n5_ := Aside0.mk (hb)
              have n6_ := Aside0.mk (ho)
              clear HO_13
              clear BK122
              clear BK128
              clear HO131
              clear HO137
              clear HB
              clear HO_12
              have HO_13 := n0_
              have BK122 := n1_
              have BK128 := n2_
              have HO131 := n3_
              have HO137 := n4_
              have HB := n5_
              have HO134 := n6_
              clear n0_ n1_ n2_ n3_ n4_ n5_ n6_
              clear ho hb hg hat
              refine hK.out _ _ ⟨(blk_cell BK128.out 0).trans rfl, (blk_cell BK128.out 1).trans rfl⟩ (fun hHeld => ?_)
              clear hK K
              refine norm_ (a' := ?_) ?_ ?_
              rotate_left
              ·show Act.put _ (some 48) _ = _
               simp only [Act.put, List.setIfInBounds_toArray, List.set_cons_zero, List.set_cons_succ, i64_w, i32_w]
               rfl
              exact norm_ (by simp only [putAll, Act.put, List.setIfInBounds_toArray, List.set_cons_zero, List.set_cons_succ]) (hCont (.slice Ao32 y129.length co32, v133, v136) _ ⟨hHeld, (by (with_reducible repeat (first | apply Kd.R_alloc | apply Kd.R_drewN | apply Kd.R_drew)); exact Kd.R_mono HO131.out (fun _ hk => hk.2)), (by (with_reducible repeat (first | apply Kd.R_alloc | apply Kd.R_drewN | apply Kd.R_drew)); exact HO134.out), (by (with_reducible repeat (first | apply Kd.R_alloc | apply Kd.R_drewN | apply Kd.R_drew)); exact Kd.R_mono HO137.out (fun _ hk => hk.2)), (by (with_reducible repeat (first | apply Kd.R_alloc | apply Kd.R_drewN | apply Kd.R_drew)); exact Kd.R_mono HO_13.out (fun _ hk => hk.2)), (by (with_reducible repeat (first | refine blk_drewN ?_ _ | refine blk_drew ?_ | refine blk_alloc ?_ _)); exact BK122.out), (by (with_reducible repeat (first | refine blk_drewN ?_ _ | refine blk_drew ?_ | refine blk_alloc ?_ _)); exact BK128.out), (by repeat (first | (with_reducible first | exact HB.out | apply below_alloc | apply pw_below_drewN | apply below_drew1 | refine below_set ?_ GE122.out | refine below_set ?_ GE128.out) | exact HB.out))⟩)
            ·skip
             refine Kd.R_lit_step Kd.string _ 9 ?hg (N := 52) ?hd (xs := ([(rd_T37 y123 x40_1).f1] : List ByteArray)) (inner := [.string ((rd_T37 y123 x40_1).f1)]) (ok := fun _ => True) (okp := fun _ => True) ?hr ?hp (fun _ hk => hk) trivial (Below.refl _ _) (Nat.le_refl _) (by simp) ?_; (case hd => rfl); (case hg => rfl); (case hr => first | (go_simp; done) | (go_simp; rfl)); (case hp => exact (Reps.one (show Kd.M Kd.string _ _ _ ((rd_T37 y123 x40_1).f1) [.string ((rd_T37 y123 x40_1).f1)] from rfl) (Reps.none _ _)))
             intro v136 w27 ho28 hb hg_ hnew_
             clear hg_ hnew_
             (first | rw [← Ny135.out] at ho28 | (simp only [Int.reduceToNat] at ho28; rw [← Ny135.out] at ho28))
             have n0_ := Aside0.mk (Kd.R_below (by (with_reducible repeat (first | apply Kd.R_alloc | apply Kd.R_drewN | apply Kd.R_drew)); exact HO_12.out) hb)
             have n1_ := Aside0.mk (Kd.R_elder' (by (with_reducible repeat (first | apply Kd.R_alloc | apply Kd.R_drewN | apply Kd.R_drew)); exact HO_13.out) (Kd.R_base ho28) hb)
             have n2_ := Aside0.mk (Kd.R_lower (Kd.R_new' ho28 (Kd.R_lt (by (with_reducible repeat (first | apply Kd.R_alloc | apply Kd.R_drewN | apply Kd.R_drew)); exact HO_13.out))) (below_size (by repeat (first | (with_reducible first | exact HB.out | apply below_alloc | apply pw_below_drewN | apply below_drew1 | refine below_set ?_ GE122.out | refine below_set ?_ GE128.out) | exact HB.out))))
             have n3_ := Aside0.mk (blk_below (g := gb122) (o := .cells #[.int .i64 t118, .int .i64 t119, .string t120] 90 (0, 0)) (by (with_reducible repeat (first | refine blk_drewN ?_ _ | refine blk_drew ?_ | refine blk_alloc ?_ _)); exact BK122.out) hb)
             have n4_ := Aside0.mk (blk_below (g := gb128) (o := .cells #[.int .i64 ((rd_T37 y123 x40_1).f0), .string ((rd_T37 y123 x40_1).f1)] 37 (0, 0)) (by (with_reducible repeat (first | refine blk_drewN ?_ _ | refine blk_drew ?_ | refine blk_alloc ?_ _)); exact BK128.out) hb)
             have n5_ := Aside0.mk (below_step (by repeat (first | (with_reducible first | exact HB.out | apply below_alloc | apply pw_below_drewN | apply below_drew1 | refine below_set ?_ GE122.out | refine below_set ?_ GE128.out) | exact HB.out)) hb)
             clear HO_12
             clear HO_13
             clear BK122
             clear BK128
             clear HB
             have HO_12 := n0_
             have HO_13 := n1_
             have HO137 := n2_
             have BK122 := n3_
             have BK128 := n4_
             have HB := n5_
             clear n0_ n1_ n2_ n3_ n4_ n5_
             clear hb ho28
             refine hK.out _ _ ⟨(blk_cell BK128.out 0).trans rfl, (blk_cell BK128.out 1).trans rfl⟩ (fun hHeld => ?_)
             clear hK K
             refine norm_ (a' := ?_) ?_ ?_
             rotate_left
             ·show Act.put _ (some 52) _ = _
              simp only [Act.put, List.setIfInBounds_toArray, List.set_cons_zero, List.set_cons_succ, i64_w, i32_w]
              rfl
             refine one_ (i := 3) (N := some 47) #[true, true, true, true, false, true, true, true, true, false, false, false] rfl rfl (one_of HT_.out (by kernel_rfl)) (by decide) (fun K hK => ?_)
             refine Kd.R_lit_step (Kd.int .i64) _ 3 ?hg (N := 47) ?hd (xs := ([(rd_T37 y123 x40_1).f0] : List Int)) (inner := [.int .i64 ((rd_T37 y123 x40_1).f0)]) (ok := fun _ => True) (okp := fun _ => True) ?hr ?hp (fun _ hk => hk) trivial (Below.refl _ _) (Nat.le_refl _) (by simp) ?_; (case hd => rfl); (case hg => rfl); (case hr => first | (go_simp; done) | (go_simp; rfl)); (case hp => exact (Reps.one (show Kd.M (Kd.int .i64) _ _ _ ((rd_T37 y123 x40_1).f0) [.int .i64 ((rd_T37 y123 x40_1).f0)] from rfl) (Reps.none _ _)))
             intro v130 w29 ho30 hb hg_ hnew_
             clear hg_ hnew_
             (first | rw [← Ny129.out] at ho30 | (simp only [Int.reduceToNat] at ho30; rw [← Ny129.out] at ho30))
             have n0_ := Aside0.mk (Kd.R_elder' (by (with_reducible repeat (first | apply Kd.R_alloc | apply Kd.R_drewN | apply Kd.R_drew)); exact HO_12.out) (Kd.R_base ho30) hb)
             have n1_ := Aside0.mk (Kd.R_below (by (with_reducible repeat (first | apply Kd.R_alloc | apply Kd.R_drewN | apply Kd.R_drew)); exact HO_13.out) hb)
             have n2_ := Aside0.mk (Kd.R_below (by (with_reducible repeat (first | apply Kd.R_alloc | apply Kd.R_drewN | apply Kd.R_drew)); exact HO137.out) hb)
             have n3_ := Aside0.mk (Kd.R_lower (Kd.R_new' ho30 (Kd.R_lt (by (with_reducible repeat (first | apply Kd.R_alloc | apply Kd.R_drewN | apply Kd.R_drew)); exact HO_12.out))) (below_size (by repeat (first | (with_reducible first | exact HB.out | apply below_alloc | apply pw_below_drewN | apply below_drew1 | refine below_set ?_ GE122.out | refine below_set ?_ GE128.out) | exact HB.out))))
             have n4_ := Aside0.mk (blk_below (g := gb122) (o := .cells #[.int .i64 t118, .int .i64 t119, .string t120] 90 (0, 0)) (by (with_reducible repeat (first | refine blk_drewN ?_ _ | refine blk_drew ?_ | refine blk_alloc ?_ _)); exact BK122.out) hb)
             have n5_ := Aside0.mk (blk_below (g := gb128) (o := .cells #[.int .i64 ((rd_T37 y123 x40_1).f0), .string ((rd_T37 y123 x40_1).f1)] 37 (0, 0)) (by (with_reducible repeat (first | refine blk_drewN ?_ _ | refine blk_drew ?_ | refine blk_alloc ?_ _)); exact BK128.out) hb)
             have n6_ := Aside0.mk (below_step (by repeat (first | (with_reducible first | exact HB.out | apply below_alloc | apply pw_below_drewN | apply below_drew1 | refine below_set ?_ GE122.out | refine below_set ?_ GE128.out) | exact HB.out)) hb)
             clear HO_12
             clear HO_13
             clear HO137
             clear BK122
             clear BK128
             clear HB
             have HO_12 := n0_
             have HO_13 := n1_
             have HO137 := n2_
             have HO131 := n3_
             have BK122 := n4_
             have BK128 := n5_
             have HB := n6_
             clear n0_ n1_ n2_ n3_ n4_ n5_ n6_
             clear hb ho30
             obtain ⟨Ao32, co32, eo32⟩ := Kd.R_slice HO131.out
             (first | subst eo32 | (injection eo32 with f1_ f2_ f3_; have f4_ := f1_.symm; have f5_ := f3_.symm; clear f1_ f2_ f3_; subst f4_; subst f5_))
             refine hK.out _ _ ⟨(blk_cell BK128.out 0).trans rfl, (blk_cell BK128.out 1).trans rfl⟩ (fun hHeld => ?_)
             clear hK K
             refine norm_ (a' := ?_) ?_ ?_
             rotate_left
             ·show Act.put _ (some 47) _ = _
              simp only [Act.put, List.setIfInBounds_toArray, List.set_cons_zero, List.set_cons_succ, i64_w, i32_w]
              rfl
             refine one_ (i := 4) (N := some 48) #[true, true, true, true, true, true, true, true, true, false, false, false] rfl rfl (one_of HT_.out (by kernel_rfl)) (by decide) (fun K hK => ?_)
             refine Kd.R_append_rows_step (Kd.int .i64) (w0 := w) w.heap.size (by rfl) (.tmp 44) (.tmp 47) 32 3 (.int .i64 0) 8 rfl Tryd.underlying32 info3 rfl (by decide) (by omega) (.slice Ao23 x12_1.length co23) x12_1 y129 _ _ _ (fun k_ => some k_ ≠ (.slice Ao32 y129.length co32 : Value).ownBlock) (fun _ => False) rfl rfl ?aO ?aR (fun _ _ h => h) (fun _ h => h.elim) ?aF ?aB ?aS ?aL ?_
             (case aR => repeat (first | exact (Kd.R_reads' HO131.out).2.2 | (with_reducible refine Kd.C_alloc ?_ _) | (with_reducible refine Kd.C_drewN ?_ _) | (with_reducible refine Kd.C_drew ?_)))
             (case aB => exact (by repeat (first | (with_reducible first | exact HB.out | apply below_alloc | apply pw_below_drewN | apply below_drew1 | refine below_set ?_ GE122.out | refine below_set ?_ GE128.out) | exact HB.out)))
             (case aF => exact (fun k_ hk => Kd.fresh' (Kd.R_lt (by (with_reducible repeat (first | apply Kd.R_alloc | apply Kd.R_drewN | apply Kd.R_drew)); exact HO131.out)) k_ hk))
             (case aO => exact (by (with_reducible repeat (first | apply Kd.R_alloc | apply Kd.R_drewN | apply Kd.R_drew)); exact Kd.R_mono HO_12.out (fun _ hk => hk.2)))
             (case aS => exact (below_size (by repeat (first | (with_reducible first | exact HB.out | apply below_alloc | apply pw_below_drewN | apply below_drew1 | refine below_set ?_ GE122.out | refine below_set ?_ GE128.out) | exact HB.out))))
             (case aL => have := LMc18.out; omega)
             intro v133 w31 ho hb hg hat
             rw [← Ny132.out] at ho
             have n0_ := Aside0.mk (Kd.R_over' (by (with_reducible repeat (first | apply Kd.R_alloc | apply Kd.R_drewN | apply Kd.R_drew)); exact HO_13.out) (Kd.R_typed (by (with_reducible repeat (first | apply Kd.R_alloc | apply Kd.R_drewN | apply Kd.R_drew)); exact HO_12.out)) (by decide) hg)
             have n1_ := Aside0.mk (blk_grown (g := gb122) (o := .cells #[.int .i64 t118, .int .i64 t119, .string t120] 90 (0, 0)) (by (with_reducible repeat (first | refine blk_drewN ?_ _ | refine blk_drew ?_ | refine blk_alloc ?_ _)); exact BK122.out) hg (Kd.R_ne HO_12.out BK122.out (by decide)))
             have n2_ := Aside0.mk (blk_grown (g := gb128) (o := .cells #[.int .i64 ((rd_T37 y123 x40_1).f0), .string ((rd_T37 y123 x40_1).f1)] 37 (0, 0)) (by (with_reducible repeat (first | refine blk_drewN ?_ _ | refine blk_drew ?_ | refine blk_alloc ?_ _)); exact BK128.out) hg (Kd.R_ne HO_12.out BK128.out (by decide)))
             have n3_ := Aside0.mk (Kd.R_over' (by (with_reducible repeat (first | apply Kd.R_alloc | apply Kd.R_drewN | apply Kd.R_drew)); exact HO137.out) (Kd.R_typed (by (with_reducible repeat (first | apply Kd.R_alloc | apply Kd.R_drewN | apply Kd.R_drew)); exact HO_12.out)) (by decide) hg)
             have n4_ := Aside0.mk (Kd.R_after (ok := (fun _ => True)) (by (with_reducible repeat (first | apply Kd.R_alloc | apply Kd.R_drewN | apply Kd.R_drew)); exact HO131.out) hg hat)
             have n5_ := Aside0.mk (hb)
             have n6_ := Aside0.mk (ho)
             clear HO_13
             clear BK122
             clear BK128
             clear HO137
             clear HO131
             clear HB
             clear HO_12
             have HO_13 := n0_
             have BK122 := n1_
             have BK128 := n2_
             have HO137 := n3_
             have HO131 := n4_
             have HB := n5_
             have HO134 := n6_
             clear n0_ n1_ n2_ n3_ n4_ n5_ n6_
             clear ho hb hg hat
             refine hK.out _ _ ⟨(blk_cell BK128.out 0).trans rfl, (blk_cell BK128.out 1).trans rfl⟩ (fun hHeld => ?_)
             clear hK K
             refine norm_ (a' := ?_) ?_ ?_
             rotate_left
             ·show Act.put _ (some 48) _ = _
              simp only [Act.put, List.setIfInBounds_toArray, List.set_cons_zero, List.set_cons_succ, i64_w, i32_w]
              rfl
             exact norm_ (by simp only [putAll, Act.put, List.setIfInBounds_toArray, List.set_cons_zero, List.set_cons_succ]) (hCont (.slice Ao32 y129.length co32, v133, v136) _ ⟨hHeld, (by (with_reducible repeat (first | apply Kd.R_alloc | apply Kd.R_drewN | apply Kd.R_drew)); exact Kd.R_mono HO131.out (fun _ hk => hk.2)), (by (with_reducible repeat (first | apply Kd.R_alloc | apply Kd.R_drewN | apply Kd.R_drew)); exact HO134.out), (by (with_reducible repeat (first | apply Kd.R_alloc | apply Kd.R_drewN | apply Kd.R_drew)); exact Kd.R_mono HO137.out (fun _ hk => hk.2)), (by (with_reducible repeat (first | apply Kd.R_alloc | apply Kd.R_drewN | apply Kd.R_drew)); exact Kd.R_mono HO_13.out (fun _ hk => hk.2)), (by (with_reducible repeat (first | refine blk_drewN ?_ _ | refine blk_drew ?_ | refine blk_alloc ?_ _)); exact BK122.out), (by (with_reducible repeat (first | refine blk_drewN ?_ _ | refine blk_drew ?_ | refine blk_alloc ?_ _)); exact BK128.out), (by repeat (first | (with_reducible first | exact HB.out | apply below_alloc | apply pw_below_drewN | apply below_drew1 | refine below_set ?_ GE122.out | refine below_set ?_ GE128.out) | exact HB.out))⟩)
           rintro ⟨v130, v133, v136⟩ w33 ⟨hS_, h0_, h1_, h2_, h3_, h4_, h5_, h6_⟩
           have n0_ : Aside0 (Kd.R (Kd.int .i64) 3 w33 w.heap.size (fun k_ => some k_ ≠ (v133 : Value).ownBlock) v130 y129) := ⟨h0_⟩
           have n1_ : Aside0 (Kd.R (Kd.int .i64) 3 w33 w.heap.size (fun k_ => some k_ ≠ (v130 : Value).ownBlock) v133 y132) := ⟨h1_⟩
           have n2_ : Aside0 (Kd.R Kd.string 9 w33 w.heap.size (fun k_ => some k_ ≠ (.slice Ao24 x13_1.length co24 : Value).ownBlock) v136 y135) := ⟨h2_⟩
           have n3_ : Aside0 (Kd.R Kd.string 9 w33 w.heap.size (fun k_ => some k_ ≠ (v136 : Value).ownBlock) (.slice Ao24 x13_1.length co24) x13_1) := ⟨h3_⟩
           have n4_ : Aside0 (w33.heap[gb122]? = some (.cells #[.int .i64 t118, .int .i64 t119, .string t120] 90 (0, 0))) := ⟨h4_⟩
           have n5_ : Aside0 (w33.heap[gb128]? = some (.cells #[.int .i64 ((rd_T37 y123 x40_1).f0), .string ((rd_T37 y123 x40_1).f1)] 37 (0, 0))) := ⟨h5_⟩
           have n6_ : Aside0 (Below w.heap.size w w33) := ⟨h6_⟩
           clear HO_12
           clear HO_13
           clear BK122
           clear BK128
           clear HB
           clear h0_ h1_ h2_ h3_ h4_ h5_ h6_
           have HO131 := n0_
           have HO134 := n1_
           have HO137 := n2_
           have HO_13 := n3_
           have BK122 := n4_
           have BK128 := n5_
           have HB := n6_
           clear n0_ n1_ n2_ n3_ n4_ n5_ n6_
           have hHeld : w33.cell? ⟨gb128, 0, none⟩ = some (.int .i64 ((rd_T37 y123 x40_1).f0)) ∧ w33.cell? ⟨gb128, 1, none⟩ = some (.string ((rd_T37 y123 x40_1).f1)) := hS_
           obtain ⟨Ao35, co35, eo35⟩ := Kd.R_slice HO137.out
           (first | subst eo35 | (injection eo35 with f1_ f2_ f3_; have f4_ := f1_.symm; have f5_ := f3_.symm; clear f1_ f2_ f3_; subst f4_; subst f5_))
           refine norm_ (a' := ?_) ?_ ?_
           rotate_left
           ·simp only [putAll, Act.put, List.setIfInBounds_toArray, List.set_cons_zero, List.set_cons_succ]
            rfl
           refine one_ (i := 9) (N := some 53) #[true, true, true, true, true, true, true, true, true, true, false, false] rfl rfl (one_of HT_.out (by kernel_rfl)) (by decide) (fun K hK => ?_)
           refine Kd.R_append_rows_step Kd.string (w0 := w) w.heap.size (by rfl) (.tmp 49) (.tmp 52) 26 9 (.string ⟨#[]⟩) 16 rfl Tryd.underlying26 info9 rfl (by decide) (by omega) (.slice Ao24 x13_1.length co24) x13_1 y135 _ _ _ (fun k_ => some k_ ≠ (.slice Ao35 y135.length co35 : Value).ownBlock) (fun _ => False) rfl rfl ?aO ?aR (fun _ _ h => h) (fun _ h => h.elim) ?aF ?aB ?aS ?aL ?_
           (case aR => repeat (first | exact (Kd.R_reads' HO137.out).2.2 | (with_reducible refine Kd.C_alloc ?_ _) | (with_reducible refine Kd.C_drewN ?_ _) | (with_reducible refine Kd.C_drew ?_)))
           (case aB => exact (by repeat (first | (with_reducible first | exact HB.out | apply below_alloc | apply pw_below_drewN | apply below_drew1 | refine below_set ?_ GE122.out | refine below_set ?_ GE128.out) | exact HB.out)))
           (case aF => exact (fun k_ hk => Kd.fresh' (Kd.R_lt (by (with_reducible repeat (first | apply Kd.R_alloc | apply Kd.R_drewN | apply Kd.R_drew)); exact HO137.out)) k_ hk))
           (case aO => exact (by (with_reducible repeat (first | apply Kd.R_alloc | apply Kd.R_drewN | apply Kd.R_drew)); exact HO_13.out))
           (case aS => exact (below_size (by repeat (first | (with_reducible first | exact HB.out | apply below_alloc | apply pw_below_drewN | apply below_drew1 | refine below_set ?_ GE122.out | refine below_set ?_ GE128.out) | exact HB.out))))
           (case aL => have := LMc19.out; omega)
           intro v139 w34 ho hb hg hat
           rw [← Ny138.out] at ho
           have n0_ := Aside0.mk (blk_grown (g := gb122) (o := .cells #[.int .i64 t118, .int .i64 t119, .string t120] 90 (0, 0)) (by (with_reducible repeat (first | refine blk_drewN ?_ _ | refine blk_drew ?_ | refine blk_alloc ?_ _)); exact BK122.out) hg (Kd.R_ne HO_13.out BK122.out (by decide)))
           have n1_ := Aside0.mk (blk_grown (g := gb128) (o := .cells #[.int .i64 ((rd_T37 y123 x40_1).f0), .string ((rd_T37 y123 x40_1).f1)] 37 (0, 0)) (by (with_reducible repeat (first | refine blk_drewN ?_ _ | refine blk_drew ?_ | refine blk_alloc ?_ _)); exact BK128.out) hg (Kd.R_ne HO_13.out BK128.out (by decide)))
           have n2_ := Aside0.mk (Kd.R_over' (by (with_reducible repeat (first | apply Kd.R_alloc | apply Kd.R_drewN | apply Kd.R_drew)); exact HO131.out) (Kd.R_typed (by (with_reducible repeat (first | apply Kd.R_alloc | apply Kd.R_drewN | apply Kd.R_drew)); exact HO_13.out)) (by decide) hg)
           have n3_ := Aside0.mk (Kd.R_over' (by (with_reducible repeat (first | apply Kd.R_alloc | apply Kd.R_drewN | apply Kd.R_drew)); exact HO134.out) (Kd.R_typed (by (with_reducible repeat (first | apply Kd.R_alloc | apply Kd.R_drewN | apply Kd.R_drew)); exact HO_13.out)) (by decide) hg)
           have n4_ := Aside0.mk (Kd.R_after (ok := (fun _ => True)) (by (with_reducible repeat (first | apply Kd.R_alloc | apply Kd.R_drewN | apply Kd.R_drew)); exact Kd.R_mono HO137.out (fun _ hk => ⟨trivial, hk⟩)) hg hat)
           have n5_ := Aside0.mk (hb)
           have n6_ := Aside0.mk (ho)
           clear BK122
           clear BK128
           clear HO131
           clear HO134
           clear HO137
           clear HB
           clear HO_13
           have BK122 := n0_
           have BK128 := n1_
           have HO131 := n2_
           have HO134 := n3_
           have HO137 := n4_
           have HB := n5_
           have HO140 := n6_
           clear n0_ n1_ n2_ n3_ n4_ n5_ n6_
           clear ho hb hg hat
           refine hK.out _ _ ⟨(blk_cell BK128.out 0).trans rfl, (blk_cell BK128.out 1).trans rfl⟩ (fun hHeld => ?_)
           clear hK K
           refine norm_ (a' := ?_) ?_ ?_
           rotate_left
           ·show Act.put _ (some 53) _ = _
            simp only [Act.put, List.setIfInBounds_toArray, List.set_cons_zero, List.set_cons_succ, i64_w, i32_w]
            rfl
           refine pure_ (i := 10) (N := some 12) (v := ?_) (a' := ?_) #[true, true, true, true, true, true, true, true, true, true, true, false] rfl rfl (any_of HT_.out (by kernel_rfl)) (fun _ _ _ h => h) (Or.inl ⟨by rfl, ?_⟩) ?_ ?_
           rotate_left
           ·intro w'
            go_simp
            with_reducible rfl
           rotate_left
           ·simp only [Act.put, List.setIfInBounds_toArray, List.set_cons_zero, List.set_cons_succ, i64_w, i32_w]
            rfl
           refine pure_ (i := 11) (N := some 13) (v := ?_) (a' := ?_) #[true, true, true, true, true, true, true, true, true, true, true, true] rfl rfl (any_of HT_.out (by kernel_rfl)) (fun _ _ _ h => h) (Or.inl ⟨by rfl, ?_⟩) ?_ ?_
           rotate_left
           ·intro w'
            go_simp
            with_reducible rfl
           rotate_left
           ·simp only [Act.put, List.setIfInBounds_toArray, List.set_cons_zero, List.set_cons_succ, i64_w, i32_w]
            rfl
           refine done_ (done_of HT_.out (by kernel_rfl)) ?_
           try go_wp2
           go_roundg k1
           case measure => have := HK1.out; omega
           case rel => exact ⟨(y132), (y138), (wrap64 (x40_1 + 1)), (by first | rfl | (simp; done) | (simp [*]; done)), H', ⟨by have := HK1.out; omega⟩, ⟨by (with_reducible repeat (first | apply Kd.R_alloc | apply Kd.R_drewN | apply Kd.R_drew)); exact Kd.R_mono HO134.out (fun _ hk => trivial)⟩, ⟨by (with_reducible repeat (first | apply Kd.R_alloc | apply Kd.R_drewN | apply Kd.R_drew)); exact Kd.R_mono HO140.out (fun _ hk => trivial)⟩, ⟨by (with_reducible repeat (first | refine blk_drewN ?_ _ | refine blk_drew ?_ | refine blk_alloc ?_ _)); exact BK122.out⟩, ⟨by repeat (first | (with_reducible first | exact HB.out | apply below_alloc | apply pw_below_drewN | apply below_drew1 | refine below_set ?_ GE122.out | refine below_set ?_ GE128.out) | exact HB.out)⟩⟩
          ·rw [if_neg c19] at H
           exact absurd H (by simp)
         ·rw [if_neg c18] at H
          exact absurd H (by simp)
        ·rw [if_neg c17] at H
         exact absurd H (by simp)
       ·rw [if_neg c16] at H
        exact absurd H (by simp)
      ·rw [if_neg c15] at H
       have c15b0 : decide (x40_1 < (y123.length : Int)) = false := decide_eq_false c15
       clear c15
       replace H := Option.bind_eq_some_iff.mp H
       obtain ⟨⟨t141, t142, t143, t144⟩, A360, H⟩ := H
       replace H : ((matrix_Inverse.f t141 t142 t143).bind fun bt146 => (if bt146.2.2.2 = 0 then ((mend_under.f bt146.1 bt146.2.1 bt146.2.2.1 x13_1).bind fun t151 => (some (t151, 0))) else (some (([] : List ByteArray), bt146.2.2.2)))) = some (r1, r2) := H
       have A36 := Aside0.mk A360
       clear A360
       replace H := Option.bind_eq_some_iff.mp H
       obtain ⟨⟨t146, t147, t148, t149⟩, A370, H⟩ := H
       replace H : (if t149 = 0 then ((mend_under.f t146 t147 t148 x13_1).bind fun t151 => (some (t151, 0))) else (some (([] : List ByteArray), t149))) = some (r1, r2) := H
       have A37 := Aside0.mk A370
       clear A370
       by_cases c38 : t149 = 0
       ·rw [if_pos c38] at H
        have c38b0 : (t149 == 0) = true := beq_iff_eq.mpr c38
        have c38b1 : (t149 != 0) = false := bne_eq_false_iff_eq.mpr c38
        clear c38
        replace H := Option.bind_eq_some_iff.mp H
        obtain ⟨t151, A390, H⟩ := H
        replace H : (some (t151, 0)) = some (r1, r2) := H
        have A39 := Aside0.mk A390
        clear A390
        simp only [Option.some.injEq, Prod.mk.injEq] at H
        obtain ⟨rfl, rfl⟩ := H
        have hcz40_0 : wr.cell? ⟨gb122, 0, none⟩ = some (.int .i64 t118) := (blk_cell BK122.out 0).trans rfl
        have hcz40_1 : wr.cell? ⟨gb122, 1, none⟩ = some (.int .i64 t119) := (blk_cell BK122.out 1).trans rfl
        have hcz40_2 : wr.cell? ⟨gb122, 2, none⟩ = some (.string t120) := (blk_cell BK122.out 2).trans rfl
        have hfz40_0 := blk_frozen BK122.out 0
        have hfz40_1 := blk_frozen BK122.out 1
        have hfz40_2 := blk_frozen BK122.out 2
        obtain ⟨Ao41, co41, eo41⟩ := Kd.R_slice HO_12.out
        subst eo41
        go_wp2_with (first | ((with_reducible refine gate_callee (f := 53) rfl ?_); refine goesL_ (some 58) rfl rfl Tryd.func53 (by kernel_rfl) rfl #[.agg #[.int .i64 t118, .int .i64 t119, .string t120], .slice Ao41 x12_1.length co41] rfl (by (try simp only [List.map_toArray, List.map_cons, List.map_nil]); first | done | rfl | (simp only [List.length_drop, List.length_take]; rfl)) ?_; (with_reducible refine (matrix_Pick.calls t118 t119 t120 _ _ x12_1 t141 t142 t143 t144 _ ?side1 ?side2 A36.out).mono ?_); (case side1 => repeat (first | exact (Kd.R_reads' HO_12.out).2.2 | (with_reducible refine Kd.C_alloc ?_ _) | (with_reducible refine Kd.C_drewN ?_ _) | (with_reducible refine Kd.C_drew ?_))); (case side2 => exact (Kd.R_reads' HO_12.out).2.1); rintro e w42 ⟨rfl, hb⟩; refine ⟨_, rfl, ?_⟩; have n0_ := Aside0.mk (Kd.R_below (by (with_reducible repeat (first | apply Kd.R_alloc | apply Kd.R_drewN | apply Kd.R_drew)); exact HO_12.out) hb); have n1_ := Aside0.mk (Kd.R_below (by (with_reducible repeat (first | apply Kd.R_alloc | apply Kd.R_drewN | apply Kd.R_drew)); exact HO_13.out) hb); have n2_ := Aside0.mk (blk_below (g := gb122) (o := .cells #[.int .i64 t118, .int .i64 t119, .string t120] 90 (0, 0)) (by (with_reducible repeat (first | refine blk_drewN ?_ _ | refine blk_drew ?_ | refine blk_alloc ?_ _)); exact BK122.out) hb); have n3_ := Aside0.mk (below_step (by repeat (first | (with_reducible first | exact HB.out | apply below_alloc | apply pw_below_drewN | apply below_drew1 | refine below_set ?_ GE122.out) | exact HB.out)) hb); clear HO_12; clear HO_13; clear BK122; clear HB; have HO_12 := n0_; have HO_13 := n1_; have BK122 := n2_; have HB := n3_; clear n0_ n1_ n2_ n3_; (try clear hb); (try clear hb2); (try clear hk); (try clear hi)) | ((with_reducible refine gate_dst (N := 16) rfl ?_); refine box_event ?hg (N := 16) ?hd (cs := #[.int .i64 0, .int .i64 0, .string (⟨#[]⟩ : ByteArray)]) (t := 90) ?hr ?_; (case hd => rfl); (case hg => rfl); (case hr => first | (go_simp; done) | (go_simp; rfl)); intro gb145 hg w43 hbox hb; have n0_ := Aside0.mk (Kd.R_below (by (with_reducible repeat (first | apply Kd.R_alloc | apply Kd.R_drewN | apply Kd.R_drew)); exact HO_12.out) hb); have n1_ := Aside0.mk (Kd.R_below (by (with_reducible repeat (first | apply Kd.R_alloc | apply Kd.R_drewN | apply Kd.R_drew)); exact HO_13.out) hb); have n2_ := Aside0.mk (blk_below (g := gb122) (o := .cells #[.int .i64 t118, .int .i64 t119, .string t120] 90 (0, 0)) (by (with_reducible repeat (first | refine blk_drewN ?_ _ | refine blk_drew ?_ | refine blk_alloc ?_ _)); exact BK122.out) hb); have n3_ := Aside0.mk (below_step (by repeat (first | (with_reducible first | exact HB.out | apply below_alloc | apply pw_below_drewN | apply below_drew1 | refine below_set ?_ GE122.out) | exact HB.out)) hb); have n4_ := Aside0.mk (hbox); have n5_ := Aside0.mk ((by rw [hg]; exact (below_size (by repeat (first | (with_reducible first | exact HB.out | apply below_alloc | apply pw_below_drewN | apply below_drew1 | refine below_set ?_ GE122.out) | exact HB.out))) : w.heap.size ≤ gb145)); have n6_ := Aside0.mk ((by rw [hg]; exact (below_size (by repeat (first | (with_reducible first | exact HB.out | apply below_alloc | apply pw_below_drewN | apply below_drew1 | refine below_set ?_ GE122.out) | exact HB.out))) : w.heap.size ≤ gb145)); have n7_ := Aside0.mk ((by rw [hg]; exact Nat.ne_of_lt (blk_lt (g := gb122) (o := .cells #[.int .i64 t118, .int .i64 t119, .string t120] 90 (0, 0)) (by (with_reducible repeat (first | refine blk_drewN ?_ _ | refine blk_drew ?_ | refine blk_alloc ?_ _)); exact BK122.out)) : gb122 ≠ gb145)); have n8_ := Aside0.mk ((by rw [hg]; exact Nat.ne_of_gt (blk_lt (g := gb122) (o := .cells #[.int .i64 t118, .int .i64 t119, .string t120] 90 (0, 0)) (by (with_reducible repeat (first | refine blk_drewN ?_ _ | refine blk_drew ?_ | refine blk_alloc ?_ _)); exact BK122.out)) : gb145 ≠ gb122)); clear HO_12; clear HO_13; clear BK122; clear HB; have HO_12 := n0_; have HO_13 := n1_; have BK122 := n2_; have HB := n3_; have BK145 := n4_; have GW145 := n5_; have GE145 := n6_; have NB122_145 := n7_; have NB145_122 := n8_; clear n0_ n1_ n2_ n3_ n4_ n5_ n6_ n7_ n8_; clear hb hbox hg; have hnb44 := NB145_122.out; have hnc44 := NB122_145.out; have hcz45_0 : w43.cell? ⟨gb145, 0, none⟩ = some (.int .i64 0) := (blk_cell BK145.out 0).trans rfl; have hcz45_1 : w43.cell? ⟨gb145, 1, none⟩ = some (.int .i64 0) := (blk_cell BK145.out 1).trans rfl; have hcz45_2 : w43.cell? ⟨gb145, 2, none⟩ = some (.string (⟨#[]⟩ : ByteArray)) := (blk_cell BK145.out 2).trans rfl; have hfz45_0 := blk_frozen BK145.out 0; have hfz45_1 := blk_frozen BK145.out 1; have hfz45_2 := blk_frozen BK145.out 2) | ((with_reducible refine gate_callee (f := 54) rfl ?_); refine goesL_ (some 63) rfl rfl Tryd.func54 (by kernel_rfl) rfl #[.agg #[.int .i64 t141, .int .i64 t142, .string t143]] rfl (by (try simp only [List.map_toArray, List.map_cons, List.map_nil]); first | done | rfl | (simp only [List.length_drop, List.length_take]; rfl)) ?_; (with_reducible refine (matrix_Inverse.calls t141 t142 t143 t146 t147 t148 t149 _ A37.out).mono ?_); rintro e w46 ⟨rfl, hb⟩; refine ⟨_, rfl, ?_⟩; have n0_ := Aside0.mk (Kd.R_below (by (with_reducible repeat (first | apply Kd.R_alloc | apply Kd.R_drewN | apply Kd.R_drew)); exact (Kd.R_mono (Kd.R_far (p := ⟨gb145, 2, none⟩) (Kd.R_far (p := ⟨gb145, 1, none⟩) (Kd.R_far (p := ⟨gb145, 0, none⟩) (Kd.R_types HO_12.out BK145.out (by decide)) (fun _ hk => hk.2) (.int .i64 t141)) (fun _ hk => hk.2) (.int .i64 t142)) (fun _ hk => hk.2) (.string t143)) (fun _ h_ => h_.1))) hb); have n1_ := Aside0.mk (Kd.R_below (by (with_reducible repeat (first | apply Kd.R_alloc | apply Kd.R_drewN | apply Kd.R_drew)); exact (Kd.R_mono (Kd.R_far (p := ⟨gb145, 2, none⟩) (Kd.R_far (p := ⟨gb145, 1, none⟩) (Kd.R_far (p := ⟨gb145, 0, none⟩) (Kd.R_types HO_13.out BK145.out (by decide)) (fun _ hk => hk.2) (.int .i64 t141)) (fun _ hk => hk.2) (.int .i64 t142)) (fun _ hk => hk.2) (.string t143)) (fun _ h_ => h_.1))) hb); have n2_ := Aside0.mk (blk_below (g := gb122) (o := .cells #[.int .i64 t118, .int .i64 t119, .string t120] 90 (0, 0)) (by (with_reducible repeat (first | refine blk_drewN ?_ _ | refine blk_drew ?_ | refine blk_alloc ?_ _)); refine blk_far ?_ NB122_145.out _; (with_reducible repeat (first | refine blk_drewN ?_ _ | refine blk_drew ?_ | refine blk_alloc ?_ _)); refine blk_far ?_ NB122_145.out _; (with_reducible repeat (first | refine blk_drewN ?_ _ | refine blk_drew ?_ | refine blk_alloc ?_ _)); refine blk_far ?_ NB122_145.out _; (with_reducible repeat (first | refine blk_drewN ?_ _ | refine blk_drew ?_ | refine blk_alloc ?_ _)); exact BK122.out) hb); have n3_ := Aside0.mk (blk_below (g := gb145) (o := .cells #[.int .i64 t141, .int .i64 t142, .string t143] 90 (0, 0)) (by (with_reducible repeat (first | refine blk_drewN ?_ _ | refine blk_drew ?_ | refine blk_alloc ?_ _)); refine blk_put (cs := #[.int .i64 t141, .int .i64 t142, .string (⟨#[]⟩ : ByteArray)]) ?_ 2 _ rfl; (with_reducible repeat (first | refine blk_drewN ?_ _ | refine blk_drew ?_ | refine blk_alloc ?_ _)); refine blk_put (cs := #[.int .i64 t141, .int .i64 0, .string (⟨#[]⟩ : ByteArray)]) ?_ 1 _ rfl; (with_reducible repeat (first | refine blk_drewN ?_ _ | refine blk_drew ?_ | refine blk_alloc ?_ _)); refine blk_put (cs := #[.int .i64 0, .int .i64 0, .string (⟨#[]⟩ : ByteArray)]) ?_ 0 _ rfl; (with_reducible repeat (first | refine blk_drewN ?_ _ | refine blk_drew ?_ | refine blk_alloc ?_ _)); exact BK145.out) hb); have n4_ := Aside0.mk (below_step (by repeat (first | (with_reducible first | exact HB.out | apply below_alloc | apply pw_below_drewN | apply below_drew1 | refine below_set ?_ GE122.out | refine below_set ?_ GE145.out) | exact HB.out)) hb); clear HO_12; clear HO_13; clear BK122; clear BK145; clear HB; have HO_12 := n0_; have HO_13 := n1_; have BK122 := n2_; have BK145 := n3_; have HB := n4_; clear n0_ n1_ n2_ n3_ n4_; (try clear hb); (try clear hb2); (try clear hk); (try clear hi)) | ((with_reducible refine gate_dst (N := 18) rfl ?_); refine box_event ?hg (N := 18) ?hd (cs := #[.int .i64 0, .int .i64 0, .string (⟨#[]⟩ : ByteArray)]) (t := 90) ?hr ?_; (case hd => rfl); (case hg => rfl); (case hr => first | (go_simp; done) | (go_simp; rfl)); intro gb150 hg w47 hbox hb; have n0_ := Aside0.mk (Kd.R_below (by (with_reducible repeat (first | apply Kd.R_alloc | apply Kd.R_drewN | apply Kd.R_drew)); exact HO_12.out) hb); have n1_ := Aside0.mk (Kd.R_below (by (with_reducible repeat (first | apply Kd.R_alloc | apply Kd.R_drewN | apply Kd.R_drew)); exact HO_13.out) hb); have n2_ := Aside0.mk (blk_below (g := gb122) (o := .cells #[.int .i64 t118, .int .i64 t119, .string t120] 90 (0, 0)) (by (with_reducible repeat (first | refine blk_drewN ?_ _ | refine blk_drew ?_ | refine blk_alloc ?_ _)); exact BK122.out) hb); have n3_ := Aside0.mk (blk_below (g := gb145) (o := .cells #[.int .i64 t141, .int .i64 t142, .string t143] 90 (0, 0)) (by (with_reducible repeat (first | refine blk_drewN ?_ _ | refine blk_drew ?_ | refine blk_alloc ?_ _)); exact BK145.out) hb); have n4_ := Aside0.mk (below_step (by repeat (first | (with_reducible first | exact HB.out | apply below_alloc | apply pw_below_drewN | apply below_drew1 | refine below_set ?_ GE122.out | refine below_set ?_ GE145.out) | exact HB.out)) hb); have n5_ := Aside0.mk (hbox); have n6_ := Aside0.mk ((by rw [hg]; exact (below_size (by repeat (first | (with_reducible first | exact HB.out | apply below_alloc | apply pw_below_drewN | apply below_drew1 | refine below_set ?_ GE122.out | refine below_set ?_ GE145.out) | exact HB.out))) : w.heap.size ≤ gb150)); have n7_ := Aside0.mk ((by rw [hg]; exact (below_size (by repeat (first | (with_reducible first | exact HB.out | apply below_alloc | apply pw_below_drewN | apply below_drew1 | refine below_set ?_ GE122.out | refine below_set ?_ GE145.out) | exact HB.out))) : w.heap.size ≤ gb150)); have n8_ := Aside0.mk ((by rw [hg]; exact Nat.ne_of_lt (blk_lt (g := gb122) (o := .cells #[.int .i64 t118, .int .i64 t119, .string t120] 90 (0, 0)) (by (with_reducible repeat (first | refine blk_drewN ?_ _ | refine blk_drew ?_ | refine blk_alloc ?_ _)); exact BK122.out)) : gb122 ≠ gb150)); have n9_ := Aside0.mk ((by rw [hg]; exact Nat.ne_of_gt (blk_lt (g := gb122) (o := .cells #[.int .i64 t118, .int .i64 t119, .string t120] 90 (0, 0)) (by (with_reducible repeat (first | refine blk_drewN ?_ _ | refine blk_drew ?_ | refine blk_alloc ?_ _)); exact BK122.out)) : gb150 ≠ gb122)); have n10_ := Aside0.mk ((by rw [hg]; exact Nat.ne_of_lt (blk_lt (g := gb145) (o := .cells #[.int .i64 t141, .int .i64 t142, .string t143] 90 (0, 0)) (by (with_reducible repeat (first | refine blk_drewN ?_ _ | refine blk_drew ?_ | refine blk_alloc ?_ _)); exact BK145.out)) : gb145 ≠ gb150)); have n11_ := Aside0.mk ((by rw [hg]; exact Nat.ne_of_gt (blk_lt (g := gb145) (o := .cells #[.int .i64 t141, .int .i64 t142, .string t143] 90 (0, 0)) (by (with_reducible repeat (first | refine blk_drewN ?_ _ | refine blk_drew ?_ | refine blk_alloc ?_ _)); exact BK145.out)) : gb150 ≠ gb145)); clear HO_12; clear HO_13; clear BK122; clear BK145; clear HB; have HO_12 := n0_; have HO_13 := n1_; have BK122 := n2_; have BK145 := n3_; have HB := n4_; have BK150 := n5_; have GW150 := n6_; have GE150 := n7_; have NB122_150 := n8_; have NB150_122 := n9_; have NB145_150 := n10_; have NB150_145 := n11_; clear n0_ n1_ n2_ n3_ n4_ n5_ n6_ n7_ n8_ n9_ n10_ n11_; clear hb hbox hg; have hnb48 := NB150_122.out; have hnc48 := NB122_150.out; have hnb49 := NB150_145.out; have hnc49 := NB145_150.out; have hcz50_0 : w47.cell? ⟨gb150, 0, none⟩ = some (.int .i64 0) := (blk_cell BK150.out 0).trans rfl; have hcz50_1 : w47.cell? ⟨gb150, 1, none⟩ = some (.int .i64 0) := (blk_cell BK150.out 1).trans rfl; have hcz50_2 : w47.cell? ⟨gb150, 2, none⟩ = some (.string (⟨#[]⟩ : ByteArray)) := (blk_cell BK150.out 2).trans rfl; have hfz50_0 := blk_frozen BK150.out 0; have hfz50_1 := blk_frozen BK150.out 1; have hfz50_2 := blk_frozen BK150.out 2; obtain ⟨Ao51, co51, eo51⟩ := Kd.R_slice HO_13.out; subst eo51) | ((with_reducible refine gate_callee (f := 55) rfl ?_); refine goesL_ (some 71) rfl rfl Tryd.func55 (by kernel_rfl) rfl #[.agg #[.int .i64 t146, .int .i64 t147, .string t148], .slice Ao51 x13_1.length co51] rfl (by (try simp only [List.map_toArray, List.map_cons, List.map_nil]); first | done | rfl | (simp only [List.length_drop, List.length_take]; rfl)) ?_; (with_reducible refine (mend_under.calls t146 t147 t148 _ _ x13_1 t151 _ ?side1 ?side2 A39.out).mono ?_); (case side1 => refine (Kd.R_reads' (e := 9) (base := w.heap.size) (ok := fun k_ => True) (n := x13_1.length) (c := co51) ?_).2.2; exact (by (with_reducible repeat (first | apply Kd.R_alloc | apply Kd.R_drewN | apply Kd.R_drew)); exact (Kd.R_mono (Kd.R_far (p := ⟨gb150, 2, none⟩) (Kd.R_far (p := ⟨gb150, 1, none⟩) (Kd.R_far (p := ⟨gb150, 0, none⟩) (Kd.R_types HO_13.out BK150.out (by decide)) (fun _ hk => hk.2) (.int .i64 t146)) (fun _ hk => hk.2) (.int .i64 t147)) (fun _ hk => hk.2) (.string t148)) (fun _ h_ => h_.1)))); (case side2 => exact (Kd.R_reads' HO_13.out).2.1); rintro e w52 ⟨v152, rfl, ho0, hb⟩; refine ⟨_, rfl, ?_⟩; have n0_ := Aside0.mk (Kd.R_below (by (with_reducible repeat (first | apply Kd.R_alloc | apply Kd.R_drewN | apply Kd.R_drew)); exact (Kd.R_mono (Kd.R_far (p := ⟨gb150, 2, none⟩) (Kd.R_far (p := ⟨gb150, 1, none⟩) (Kd.R_far (p := ⟨gb150, 0, none⟩) (Kd.R_types HO_12.out BK150.out (by decide)) (fun _ hk => hk.2) (.int .i64 t146)) (fun _ hk => hk.2) (.int .i64 t147)) (fun _ hk => hk.2) (.string t148)) (fun _ h_ => h_.1))) hb); have n1_ := Aside0.mk (Kd.R_elder' (by (with_reducible repeat (first | apply Kd.R_alloc | apply Kd.R_drewN | apply Kd.R_drew)); exact (Kd.R_mono (Kd.R_far (p := ⟨gb150, 2, none⟩) (Kd.R_far (p := ⟨gb150, 1, none⟩) (Kd.R_far (p := ⟨gb150, 0, none⟩) (Kd.R_types HO_13.out BK150.out (by decide)) (fun _ hk => hk.2) (.int .i64 t146)) (fun _ hk => hk.2) (.int .i64 t147)) (fun _ hk => hk.2) (.string t148)) (fun _ h_ => h_.1))) (Kd.R_base ho0) hb); have n2_ := Aside0.mk (Kd.R_lower (Kd.R_new' ho0 (Kd.R_lt (by (with_reducible repeat (first | apply Kd.R_alloc | apply Kd.R_drewN | apply Kd.R_drew)); exact (Kd.R_mono (Kd.R_far (p := ⟨gb150, 2, none⟩) (Kd.R_far (p := ⟨gb150, 1, none⟩) (Kd.R_far (p := ⟨gb150, 0, none⟩) (Kd.R_types HO_13.out BK150.out (by decide)) (fun _ hk => hk.2) (.int .i64 t146)) (fun _ hk => hk.2) (.int .i64 t147)) (fun _ hk => hk.2) (.string t148)) (fun _ h_ => h_.1))))) (below_size (by repeat (first | (with_reducible first | exact HB.out | apply below_alloc | apply pw_below_drewN | apply below_drew1 | refine below_set ?_ GE122.out | refine below_set ?_ GE145.out | refine below_set ?_ GE150.out) | exact HB.out)))); have n3_ := Aside0.mk (blk_below (g := gb122) (o := .cells #[.int .i64 t118, .int .i64 t119, .string t120] 90 (0, 0)) (by (with_reducible repeat (first | refine blk_drewN ?_ _ | refine blk_drew ?_ | refine blk_alloc ?_ _)); refine blk_far ?_ NB122_150.out _; (with_reducible repeat (first | refine blk_drewN ?_ _ | refine blk_drew ?_ | refine blk_alloc ?_ _)); refine blk_far ?_ NB122_150.out _; (with_reducible repeat (first | refine blk_drewN ?_ _ | refine blk_drew ?_ | refine blk_alloc ?_ _)); refine blk_far ?_ NB122_150.out _; (with_reducible repeat (first | refine blk_drewN ?_ _ | refine blk_drew ?_ | refine blk_alloc ?_ _)); exact BK122.out) hb); have n4_ := Aside0.mk (blk_below (g := gb145) (o := .cells #[.int .i64 t141, .int .i64 t142, .string t143] 90 (0, 0)) (by (with_reducible repeat (first | refine blk_drewN ?_ _ | refine blk_drew ?_ | refine blk_alloc ?_ _)); refine blk_far ?_ NB145_150.out _; (with_reducible repeat (first | refine blk_drewN ?_ _ | refine blk_drew ?_ | refine blk_alloc ?_ _)); refine blk_far ?_ NB145_150.out _; (with_reducible repeat (first | refine blk_drewN ?_ _ | refine blk_drew ?_ | refine blk_alloc ?_ _)); refine blk_far ?_ NB145_150.out _; (with_reducible repeat (first | refine blk_drewN ?_ _ | refine blk_drew ?_ | refine blk_alloc ?_ _)); exact BK145.out) hb); have n5_ := Aside0.mk (blk_below (g := gb150) (o := .cells #[.int .i64 t146, .int .i64 t147, .string t148] 90 (0, 0)) (by (with_reducible repeat (first | refine blk_drewN ?_ _ | refine blk_drew ?_ | refine blk_alloc ?_ _)); refine blk_put (cs := #[.int .i64 t146, .int .i64 t147, .string (⟨#[]⟩ : ByteArray)]) ?_ 2 _ rfl; (with_reducible repeat (first | refine blk_drewN ?_ _ | refine blk_drew ?_ | refine blk_alloc ?_ _)); refine blk_put (cs := #[.int .i64 t146, .int .i64 0, .string (⟨#[]⟩ : ByteArray)]) ?_ 1 _ rfl; (with_reducible repeat (first | refine blk_drewN ?_ _ | refine blk_drew ?_ | refine blk_alloc ?_ _)); refine blk_put (cs := #[.int .i64 0, .int .i64 0, .string (⟨#[]⟩ : ByteArray)]) ?_ 0 _ rfl; (with_reducible repeat (first | refine blk_drewN ?_ _ | refine blk_drew ?_ | refine blk_alloc ?_ _)); exact BK150.out) hb); have n6_ := Aside0.mk (below_step (by repeat (first | (with_reducible first | exact HB.out | apply below_alloc | apply pw_below_drewN | apply below_drew1 | refine below_set ?_ GE122.out | refine below_set ?_ GE145.out | refine below_set ?_ GE150.out) | exact HB.out)) hb); clear HO_12; clear HO_13; clear BK122; clear BK145; clear BK150; clear HB; have HO_12 := n0_; have HO_13 := n1_; have HO153 := n2_; have BK122 := n3_; have BK145 := n4_; have BK150 := n5_; have HB := n6_; clear n0_ n1_ n2_ n3_ n4_ n5_ n6_; (try clear hb); (try clear hb2); (try clear hk); (try clear hi); (try clear ho0)))
        go_ret2
        exact ⟨_, by first | rfl | (simp [errW_none, errW_some] <;> rfl) | (simp [*, errW_none, errW_some] <;> rfl), by (with_reducible repeat (first | apply Kd.R_alloc | apply Kd.R_drewN | apply Kd.R_drew)); exact Kd.R_mono HO153.out (fun _ hk => trivial), by repeat (first | (with_reducible first | exact HB.out | apply below_alloc | apply pw_below_drewN | apply below_drew1 | refine below_set ?_ GE122.out | refine below_set ?_ GE145.out | refine below_set ?_ GE150.out) | exact HB.out)⟩
       ·rw [if_neg c38] at H
        have c38b0 : (t149 == 0) = false := beq_eq_false_iff_ne.mpr c38
        have c38b1 : (t149 != 0) = true := bne_iff_ne.mpr c38
        simp only [Option.some.injEq, Prod.mk.injEq] at H
        obtain ⟨rfl, rfl⟩ := H
        have hcz53_0 : wr.cell? ⟨gb122, 0, none⟩ = some (.int .i64 t118) := (blk_cell BK122.out 0).trans rfl
        have hcz53_1 : wr.cell? ⟨gb122, 1, none⟩ = some (.int .i64 t119) := (blk_cell BK122.out 1).trans rfl
        have hcz53_2 : wr.cell? ⟨gb122, 2, none⟩ = some (.string t120) := (blk_cell BK122.out 2).trans rfl
        have hfz53_0 := blk_frozen BK122.out 0
        have hfz53_1 := blk_frozen BK122.out 1
        have hfz53_2 := blk_frozen BK122.out 2
        obtain ⟨Ao54, co54, eo54⟩ := Kd.R_slice HO_12.out
        subst eo54
        go_wp2_with (first | ((with_reducible refine gate_callee (f := 53) rfl ?_); refine goesL_ (some 58) rfl rfl Tryd.func53 (by kernel_rfl) rfl #[.agg #[.int .i64 t118, .int .i64 t119, .string t120], .slice Ao54 x12_1.length co54] rfl (by (try simp only [List.map_toArray, List.map_cons, List.map_nil]); first | done | rfl | (simp only [List.length_drop, List.length_take]; rfl)) ?_; (with_reducible refine (matrix_Pick.calls t118 t119 t120 _ _ x12_1 t141 t142 t143 t144 _ ?side1 ?side2 A36.out).mono ?_); (case side1 => repeat (first | exact (Kd.R_reads' HO_12.out).2.2 | (with_reducible refine Kd.C_alloc ?_ _) | (with_reducible refine Kd.C_drewN ?_ _) | (with_reducible refine Kd.C_drew ?_))); (case side2 => exact (Kd.R_reads' HO_12.out).2.1); rintro e w55 ⟨rfl, hb⟩; refine ⟨_, rfl, ?_⟩; have n0_ := Aside0.mk (Kd.R_below (by (with_reducible repeat (first | apply Kd.R_alloc | apply Kd.R_drewN | apply Kd.R_drew)); exact HO_12.out) hb); have n1_ := Aside0.mk (Kd.R_below (by (with_reducible repeat (first | apply Kd.R_alloc | apply Kd.R_drewN | apply Kd.R_drew)); exact HO_13.out) hb); have n2_ := Aside0.mk (blk_below (g := gb122) (o := .cells #[.int .i64 t118, .int .i64 t119, .string t120] 90 (0, 0)) (by (with_reducible repeat (first | refine blk_drewN ?_ _ | refine blk_drew ?_ | refine blk_alloc ?_ _)); exact BK122.out) hb); have n3_ := Aside0.mk (below_step (by repeat (first | (with_reducible first | exact HB.out | apply below_alloc | apply pw_below_drewN | apply below_drew1 | refine below_set ?_ GE122.out) | exact HB.out)) hb); clear HO_12; clear HO_13; clear BK122; clear HB; have HO_12 := n0_; have HO_13 := n1_; have BK122 := n2_; have HB := n3_; clear n0_ n1_ n2_ n3_; (try clear hb); (try clear hb2); (try clear hk); (try clear hi)) | ((with_reducible refine gate_dst (N := 16) rfl ?_); refine box_event ?hg (N := 16) ?hd (cs := #[.int .i64 0, .int .i64 0, .string (⟨#[]⟩ : ByteArray)]) (t := 90) ?hr ?_; (case hd => rfl); (case hg => rfl); (case hr => first | (go_simp; done) | (go_simp; rfl)); intro gb145 hg w56 hbox hb; have n0_ := Aside0.mk (Kd.R_below (by (with_reducible repeat (first | apply Kd.R_alloc | apply Kd.R_drewN | apply Kd.R_drew)); exact HO_12.out) hb); have n1_ := Aside0.mk (Kd.R_below (by (with_reducible repeat (first | apply Kd.R_alloc | apply Kd.R_drewN | apply Kd.R_drew)); exact HO_13.out) hb); have n2_ := Aside0.mk (blk_below (g := gb122) (o := .cells #[.int .i64 t118, .int .i64 t119, .string t120] 90 (0, 0)) (by (with_reducible repeat (first | refine blk_drewN ?_ _ | refine blk_drew ?_ | refine blk_alloc ?_ _)); exact BK122.out) hb); have n3_ := Aside0.mk (below_step (by repeat (first | (with_reducible first | exact HB.out | apply below_alloc | apply pw_below_drewN | apply below_drew1 | refine below_set ?_ GE122.out) | exact HB.out)) hb); have n4_ := Aside0.mk (hbox); have n5_ := Aside0.mk ((by rw [hg]; exact (below_size (by repeat (first | (with_reducible first | exact HB.out | apply below_alloc | apply pw_below_drewN | apply below_drew1 | refine below_set ?_ GE122.out) | exact HB.out))) : w.heap.size ≤ gb145)); have n6_ := Aside0.mk ((by rw [hg]; exact (below_size (by repeat (first | (with_reducible first | exact HB.out | apply below_alloc | apply pw_below_drewN | apply below_drew1 | refine below_set ?_ GE122.out) | exact HB.out))) : w.heap.size ≤ gb145)); have n7_ := Aside0.mk ((by rw [hg]; exact Nat.ne_of_lt (blk_lt (g := gb122) (o := .cells #[.int .i64 t118, .int .i64 t119, .string t120] 90 (0, 0)) (by (with_reducible repeat (first | refine blk_drewN ?_ _ | refine blk_drew ?_ | refine blk_alloc ?_ _)); exact BK122.out)) : gb122 ≠ gb145)); have n8_ := Aside0.mk ((by rw [hg]; exact Nat.ne_of_gt (blk_lt (g := gb122) (o := .cells #[.int .i64 t118, .int .i64 t119, .string t120] 90 (0, 0)) (by (with_reducible repeat (first | refine blk_drewN ?_ _ | refine blk_drew ?_ | refine blk_alloc ?_ _)); exact BK122.out)) : gb145 ≠ gb122)); clear HO_12; clear HO_13; clear BK122; clear HB; have HO_12 := n0_; have HO_13 := n1_; have BK122 := n2_; have HB := n3_; have BK145 := n4_; have GW145 := n5_; have GE145 := n6_; have NB122_145 := n7_; have NB145_122 := n8_; clear n0_ n1_ n2_ n3_ n4_ n5_ n6_ n7_ n8_; clear hb hbox hg; have hnb57 := NB145_122.out; have hnc57 := NB122_145.out; have hcz58_0 : w56.cell? ⟨gb145, 0, none⟩ = some (.int .i64 0) := (blk_cell BK145.out 0).trans rfl; have hcz58_1 : w56.cell? ⟨gb145, 1, none⟩ = some (.int .i64 0) := (blk_cell BK145.out 1).trans rfl; have hcz58_2 : w56.cell? ⟨gb145, 2, none⟩ = some (.string (⟨#[]⟩ : ByteArray)) := (blk_cell BK145.out 2).trans rfl; have hfz58_0 := blk_frozen BK145.out 0; have hfz58_1 := blk_frozen BK145.out 1; have hfz58_2 := blk_frozen BK145.out 2) | ((with_reducible refine gate_callee (f := 54) rfl ?_); refine goesL_ (some 63) rfl rfl Tryd.func54 (by kernel_rfl) rfl #[.agg #[.int .i64 t141, .int .i64 t142, .string t143]] rfl (by (try simp only [List.map_toArray, List.map_cons, List.map_nil]); first | done | rfl | (simp only [List.length_drop, List.length_take]; rfl)) ?_; (with_reducible refine (matrix_Inverse.calls t141 t142 t143 t146 t147 t148 t149 _ A37.out).mono ?_); rintro e w59 ⟨rfl, hb⟩; refine ⟨_, rfl, ?_⟩; have n0_ := Aside0.mk (Kd.R_below (by (with_reducible repeat (first | apply Kd.R_alloc | apply Kd.R_drewN | apply Kd.R_drew)); exact (Kd.R_mono (Kd.R_far (p := ⟨gb145, 2, none⟩) (Kd.R_far (p := ⟨gb145, 1, none⟩) (Kd.R_far (p := ⟨gb145, 0, none⟩) (Kd.R_types HO_12.out BK145.out (by decide)) (fun _ hk => hk.2) (.int .i64 t141)) (fun _ hk => hk.2) (.int .i64 t142)) (fun _ hk => hk.2) (.string t143)) (fun _ h_ => h_.1))) hb); have n1_ := Aside0.mk (Kd.R_below (by (with_reducible repeat (first | apply Kd.R_alloc | apply Kd.R_drewN | apply Kd.R_drew)); exact (Kd.R_mono (Kd.R_far (p := ⟨gb145, 2, none⟩) (Kd.R_far (p := ⟨gb145, 1, none⟩) (Kd.R_far (p := ⟨gb145, 0, none⟩) (Kd.R_types HO_13.out BK145.out (by decide)) (fun _ hk => hk.2) (.int .i64 t141)) (fun _ hk => hk.2) (.int .i64 t142)) (fun _ hk => hk.2) (.string t143)) (fun _ h_ => h_.1))) hb); have n2_ := Aside0.mk (blk_below (g := gb122) (o := .cells #[.int .i64 t118, .int .i64 t119, .string t120] 90 (0, 0)) (by (with_reducible repeat (first | refine blk_drewN ?_ _ | refine blk_drew ?_ | refine blk_alloc ?_ _)); refine blk_far ?_ NB122_145.out _; (with_reducible repeat (first | refine blk_drewN ?_ _ | refine blk_drew ?_ | refine blk_alloc ?_ _)); refine blk_far ?_ NB122_145.out _; (with_reducible repeat (first | refine blk_drewN ?_ _ | refine blk_drew ?_ | refine blk_alloc ?_ _)); refine blk_far ?_ NB122_145.out _; (with_reducible repeat (first | refine blk_drewN ?_ _ | refine blk_drew ?_ | refine blk_alloc ?_ _)); exact BK122.out) hb); have n3_ := Aside0.mk (blk_below (g := gb145) (o := .cells #[.int .i64 t141, .int .i64 t142, .string t143] 90 (0, 0)) (by (with_reducible repeat (first | refine blk_drewN ?_ _ | refine blk_drew ?_ | refine blk_alloc ?_ _)); refine blk_put (cs := #[.int .i64 t141, .int .i64 t142, .string (⟨#[]⟩ : ByteArray)]) ?_ 2 _ rfl; (with_reducible repeat (first | refine blk_drewN ?_ _ | refine blk_drew ?_ | refine blk_alloc ?_ _)); refine blk_put (cs := #[.int .i64 t141, .int .i64 0, .string (⟨#[]⟩ : ByteArray)]) ?_ 1 _ rfl; (with_reducible repeat (first | refine blk_drewN ?_ _ | refine blk_drew ?_ | refine blk_alloc ?_ _)); refine blk_put (cs := #[.int .i64 0, .int .i64 0, .string (⟨#[]⟩ : ByteArray)]) ?_ 0 _ rfl; (with_reducible repeat (first | refine blk_drewN ?_ _ | refine blk_drew ?_ | refine blk_alloc ?_ _)); exact BK145.out) hb); have n4_ := Aside0.mk (below_step (by repeat (first | (with_reducible first | exact HB.out | apply below_alloc | apply pw_below_drewN | apply below_drew1 | refine below_set ?_ GE122.out | refine below_set ?_ GE145.out) | exact HB.out)) hb); clear HO_12; clear HO_13; clear BK122; clear BK145; clear HB; have HO_12 := n0_; have HO_13 := n1_; have BK122 := n2_; have BK145 := n3_; have HB := n4_; clear n0_ n1_ n2_ n3_ n4_; (try clear hb); (try clear hb2); (try clear hk); (try clear hi)) | ((with_reducible refine gate_dst (N := 18) rfl ?_); refine box_event ?hg (N := 18) ?hd (cs := #[.int .i64 0, .int .i64 0, .string (⟨#[]⟩ : ByteArray)]) (t := 90) ?hr ?_; (case hd => rfl); (case hg => rfl); (case hr => first | (go_simp; done) | (go_simp; rfl)); intro gb150 hg w60 hbox hb; have n0_ := Aside0.mk (Kd.R_below (by (with_reducible repeat (first | apply Kd.R_alloc | apply Kd.R_drewN | apply Kd.R_drew)); exact HO_12.out) hb); have n1_ := Aside0.mk (Kd.R_below (by (with_reducible repeat (first | apply Kd.R_alloc | apply Kd.R_drewN | apply Kd.R_drew)); exact HO_13.out) hb); have n2_ := Aside0.mk (blk_below (g := gb122) (o := .cells #[.int .i64 t118, .int .i64 t119, .string t120] 90 (0, 0)) (by (with_reducible repeat (first | refine blk_drewN ?_ _ | refine blk_drew ?_ | refine blk_alloc ?_ _)); exact BK122.out) hb); have n3_ := Aside0.mk (blk_below (g := gb145) (o := .cells #[.int .i64 t141, .int .i64 t142, .string t143] 90 (0, 0)) (by (with_reducible repeat (first | refine blk_drewN ?_ _ | refine blk_drew ?_ | refine blk_alloc ?_ _)); exact BK145.out) hb); have n4_ := Aside0.mk (below_step (by repeat (first | (with_reducible first | exact HB.out | apply below_alloc | apply pw_below_drewN | apply below_drew1 | refine below_set ?_ GE122.out | refine below_set ?_ GE145.out) | exact HB.out)) hb); have n5_ := Aside0.mk (hbox); have n6_ := Aside0.mk ((by rw [hg]; exact (below_size (by repeat (first | (with_reducible first | exact HB.out | apply below_alloc | apply pw_below_drewN | apply below_drew1 | refine below_set ?_ GE122.out | refine below_set ?_ GE145.out) | exact HB.out))) : w.heap.size ≤ gb150)); have n7_ := Aside0.mk ((by rw [hg]; exact (below_size (by repeat (first | (with_reducible first | exact HB.out | apply below_alloc | apply pw_below_drewN | apply below_drew1 | refine below_set ?_ GE122.out | refine below_set ?_ GE145.out) | exact HB.out))) : w.heap.size ≤ gb150)); have n8_ := Aside0.mk ((by rw [hg]; exact Nat.ne_of_lt (blk_lt (g := gb122) (o := .cells #[.int .i64 t118, .int .i64 t119, .string t120] 90 (0, 0)) (by (with_reducible repeat (first | refine blk_drewN ?_ _ | refine blk_drew ?_ | refine blk_alloc ?_ _)); exact BK122.out)) : gb122 ≠ gb150)); have n9_ := Aside0.mk ((by rw [hg]; exact Nat.ne_of_gt (blk_lt (g := gb122) (o := .cells #[.int .i64 t118, .int .i64 t119, .string t120] 90 (0, 0)) (by (with_reducible repeat (first | refine blk_drewN ?_ _ | refine blk_drew ?_ | refine blk_alloc ?_ _)); exact BK122.out)) : gb150 ≠ gb122)); have n10_ := Aside0.mk ((by rw [hg]; exact Nat.ne_of_lt (blk_lt (g := gb145) (o := .cells #[.int .i64 t141, .int .i64 t142, .string t143] 90 (0, 0)) (by (with_reducible repeat (first | refine blk_drewN ?_ _ | refine blk_drew ?_ | refine blk_alloc ?_ _)); exact BK145.out)) : gb145 ≠ gb150)); have n11_ := Aside0.mk ((by rw [hg]; exact Nat.ne_of_gt (blk_lt (g := gb145) (o := .cells #[.int .i64 t141, .int .i64 t142, .string t143] 90 (0, 0)) (by (with_reducible repeat (first | refine blk_drewN ?_ _ | refine blk_drew ?_ | refine blk_alloc ?_ _)); exact BK145.out)) : gb150 ≠ gb145)); clear HO_12; clear HO_13; clear BK122; clear BK145; clear HB; have HO_12 := n0_; have HO_13 := n1_; have BK122 := n2_; have BK145 := n3_; have HB := n4_; have BK150 := n5_; have GW150 := n6_; have GE150 := n7_; have NB122_150 := n8_; have NB150_122 := n9_; have NB145_150 := n10_; have NB150_145 := n11_; clear n0_ n1_ n2_ n3_ n4_ n5_ n6_ n7_ n8_ n9_ n10_ n11_; clear hb hbox hg; have hnb61 := NB150_122.out; have hnc61 := NB122_150.out; have hnb62 := NB150_145.out; have hnc62 := NB145_150.out; have hcz63_0 : w60.cell? ⟨gb150, 0, none⟩ = some (.int .i64 0) := (blk_cell BK150.out 0).trans rfl; have hcz63_1 : w60.cell? ⟨gb150, 1, none⟩ = some (.int .i64 0) := (blk_cell BK150.out 1).trans rfl; have hcz63_2 : w60.cell? ⟨gb150, 2, none⟩ = some (.string (⟨#[]⟩ : ByteArray)) := (blk_cell BK150.out 2).trans rfl; have hfz63_0 := blk_frozen BK150.out 0; have hfz63_1 := blk_frozen BK150.out 1; have hfz63_2 := blk_frozen BK150.out 2))
        go_ret2
        exact ⟨_, by first | rfl | (simp [errW_none, errW_some] <;> rfl) | (simp [*, errW_none, errW_some] <;> rfl), by first | exact Kd.R_nil _ _ _ _ _ | exact Kd.N_nil _ _ _ _ _ | exact Kd.V_nil _ _ _ _ _ | exact Kd.Q_nil _ _ _ _ _ | exact Kd.S_nil _ _ _ _ _, by repeat (first | (with_reducible first | exact HB.out | apply below_alloc | apply pw_below_drewN | apply below_drew1 | refine below_set ?_ GE122.out | refine below_set ?_ GE145.out | refine below_set ?_ GE150.out) | exact HB.out)⟩
   ·rw [if_neg c8] at H
    exact absurd H (by simp)
  ·rw [if_neg c7] at H
   exact absurd H (by simp)
 ·rw [if_neg c5] at H
  have c5b0 : (t117 == 0) = false := beq_eq_false_iff_ne.mpr c5
  have c5b1 : (t117 != 0) = true := bne_iff_ne.mpr c5
  simp only [Option.some.injEq, Prod.mk.injEq] at H
  obtain ⟨rfl, rfl⟩ := H
  go_enter Tryd.func39, Tryd.ntmps39
  go_wp2_with (first | ((with_reducible refine gate_callee (f := 52) rfl ?_); refine goesL_ (some 24) rfl rfl Tryd.func52 (by kernel_rfl) rfl #[.int .i64 a0, .int .i64 a1, .slice A2 l2.length c2] rfl (by (try simp only [List.map_toArray, List.map_cons, List.map_nil]); first | done | rfl | (simp only [List.length_drop, List.length_take]; rfl)) ?_; (with_reducible refine (mend_Check.calls a0 a1 _ _ l2 t116 t117 _ ?side1 ?side2 A4.out).mono ?_); (case side1 => repeat (first | exact HR2.out | (with_reducible refine Kd.C_alloc ?_ _) | (with_reducible refine Kd.C_drewN ?_ _) | (with_reducible refine Kd.C_drew ?_))); (case side2 => exact HC2.out); rintro e w64 ⟨rfl, hb⟩; refine ⟨_, rfl, ?_⟩; have n0_ := Aside0.mk (below_step (by repeat (first | (with_reducible first | exact HB.out | apply below_alloc | apply pw_below_drewN | apply below_drew1) | exact HB.out)) hb); clear HB; have HB := n0_; clear n0_; (try clear hb); (try clear hb2); (try clear hk); (try clear hi)))
  go_ret2
  exact ⟨_, by first | rfl | (simp [errW_none, errW_some] <;> rfl) | (simp [*, errW_none, errW_some] <;> rfl), by first | exact Kd.R_nil _ _ _ _ _ | exact Kd.N_nil _ _ _ _ _ | exact Kd.V_nil _ _ _ _ _ | exact Kd.Q_nil _ _ _ _ _ | exact Kd.S_nil _ _ _ _ _, by repeat (first | (with_reducible first | exact HB.out | apply below_alloc | apply pw_below_drewN | apply below_drew1) | exact HB.out)⟩

end Go.Proofs.YtpmnhlbkgeiomaaDoor.PS
namespace Go.Proofs.YtpmnhlbkgeiomaaDoor.PS
open Go.RowKit Go.Proofs.YtpmnhlbkgeiomaaDoorW.PrintWords Go.Proofs.YtpmnhlbkgeiomaaDoorW.PrintLast Go.Proofs.YtpmnhlbkgeiomaaDoorW.PrintMore Go.Proofs.YtpmnhlbkgeiomaaDoor.Gf Go.Proofs.YtpmnhlbkgeiomaaDoor.Fld Go.Proofs.YtpmnhlbkgeiomaaDoor.Grd Go.Proofs.YtpmnhlbkgeiomaaDoor.Rowb
set_option linter.unusedVariables false
set_option linter.unusedSimpArgs false
theorem rdT_nat (l : List S37) (i : Nat) (h : i < l.length) : rd_T37 l (i : Int) = l[i] := by
  unfold rd_T37
  rw [Int.toNat_natCast, getD_lt _ _ _ h]
/-! Check. -/
structure Good (K M : Nat) (l : List S37) : Prop where
  k1 : 1 ≤ K
  km : K + M ≤ 255
  len : K ≤ l.length
  rng : ∀ (i : Nat) (h : i < l.length), 0 ≤ l[i].f0 ∧ l[i].f0 < (K : Int) + (M : Int)
  dist : ∀ (j i : Nat) (hj : j < i) (h : i < l.length), (l[j]'(by omega)).f0 ≠ l[i].f0
  size : ∀ (i : Nat) (h : i < l.length), l[i].f1.size = (rd_T37 l 0).f1.size
  most : (rd_T37 l 0).f1.size ≤ 2052
theorem scan_all (k m : Int) (l : List S37) (h : ∀ j, j < l.length → errAt k m l j = 0) : ∀ d i, i + d = l.length → scanC k m l d i = if (l.length : Int) < k then (-1, 40) else (0, 0)
  | 0, i, hi => rfl
  | d + 1, i, hi => by
    unfold scanC
    rw [if_pos (h i (by omega))]
    exact scan_all k m l h d (i + 1) (by omega)
theorem err_mk {k m : Int} {l : List S37} {i : Nat} (hi : i < l.length) (h1 : 0 ≤ l[i].f0) (h2 : l[i].f0 < k + m) (h3 : ∀ j (hj : j < i), (l[j]'(by omega)).f0 ≠ l[i].f0) (h4 : l[i].f1.size ≤ 2052) (h5 : l[i].f1.size = (rd_T37 l 0).f1.size) : errAt k m l i = 0 := by
  unfold errAt
  rw [rdT_nat l i hi, if_neg (by omega), if_neg, if_neg (by omega), if_neg (by simpa using h5)]
  intro hs
  unfold seenB at hs
  obtain ⟨j, hj, e⟩ := List.any_eq_true.1 hs
  have hj := List.mem_range.1 hj
  rw [rdT_nat l j (by omega)] at e
  exact h3 j hj (of_decide_eq_true e)
theorem good_check {K M : Nat} {l : List S37} (g : Good K M l) : checkV (K : Int) (M : Int) l = (0, 0) := by
  unfold checkV
  rw [if_pos (by unfold codeB; exact decide_eq_true (by have := g.k1; have := g.km; omega)), scan_all _ _ l (fun j hj => err_mk hj (g.rng j hj).1 (g.rng j hj).2 (fun q hq => g.dist q j hq hj) (by rw [g.size j hj]; exact g.most) (g.size j hj)) l.length 0 (by omega), if_neg (by have := g.len; omega)]
/-! The matrix. -/
def rowsI (l : List S37) (K : Nat) : List Int := (l.take K).map fun x => x.f0
def havS (l : List S37) (K : Nat) : List ByteArray := (l.take K).map fun x => x.f1
def pickM (K M : Nat) (l : List S37) : Grid := pickG (genG K M) ((rowsI l K).map Int.toNat)
def invM (K M : Nat) (l : List S37) : Grid := (inverse (pickM K M l)).getD []
def shardN (l : List S37) : Nat := (rd_T37 l 0).f1.size
def dataL (K M : Nat) (l : List S37) : List ByteArray := undL (at2 (invM K M l)) K K (shardN l) (havS l K)
theorem genG_rows (K M : Nat) : ∀ r, r ∈ genG K M → r.length = K := fun r hr => by
  obtain ⟨x, _, rfl⟩ := List.mem_map.1 hr
  exact genRow_len K x
theorem genG_at (K M r j : Nat) (hr : r < K + M) (hj : j < K) : at2 (genG K M) r j = genAt K r j := by
  unfold at2
  rw [rowAt_lt (by rw [genG_len]; exact hr)]
  unfold genG
  rw [List.getElem_map, List.getElem_range]
  unfold genRow
  rw [getD_lt _ _ _ (by simpa using hj)]
  simp
theorem flat_getD {C : Nat} (L : Grid) (hr : ∀ r, r ∈ L → r.length = C) (i j : Nat) (hi : i < L.length) (hj : j < C) : L.flatten.getD (i * C + j) 0 = at2 L i j := by
  have h1 := flat_row L i hi hr
  have h2 : L[i].length = C := hr _ (List.getElem_mem hi)
  unfold at2
  rw [rowAt_lt hi, ← h1, List.getD_eq_getElem?_getD, List.getD_eq_getElem?_getD, List.getElem?_take, if_pos hj, List.getElem?_drop]
theorem undL_congr {c c' : Nat → Nat → UInt8} {R C n : Nat} {data : List ByteArray} (h : ∀ r j, r < R → j < C → c r j = c' r j) : undL c R C n data = undL c' R C n data := by
  unfold undL
  refine List.map_congr_left (fun r hr => congrArg txt ?_)
  unfold accC
  refine List.map_congr_left (fun t _ => ?_)
  exact xs_congr (fun j hj => congrArg (fun x => gmul x (dAt data j t)) (h r j (List.mem_range.1 hr) (List.mem_range.1 hj)))
section
variable {K M : Nat} {l : List S37} (g : Good K M l)
include g
theorem Good.rowsLen : (rowsI l K).length = K := by
  unfold rowsI
  rw [List.length_map, List.length_take]
  have := g.len
  omega
theorem Good.havLen : (havS l K).length = K := by
  unfold havS
  rw [List.length_map, List.length_take]
  have := g.len
  omega
theorem Good.rowAtI (i : Nat) (h : i < (rowsI l K).length) : (rowsI l K)[i] = (l[i]'(by rw [g.rowsLen] at h; have := g.len; omega)).f0 := by
  simp only [rowsI, List.getElem_map, List.getElem_take]
theorem Good.havAt (i : Nat) (h : i < (havS l K).length) : (havS l K)[i] = (l[i]'(by rw [g.havLen] at h; have := g.len; omega)).f1 := by
  simp only [havS, List.getElem_map, List.getElem_take]
theorem Good.rowsRange : ∀ x, x ∈ rowsI l K → 0 ≤ x ∧ x < ((K + M : Nat) : Int) := fun x hx => by
  obtain ⟨i, hi, rfl⟩ := List.getElem_of_mem hx
  rw [g.rowAtI i hi]
  have := g.rng i (by rw [g.rowsLen] at hi; have := g.len; omega)
  push_cast
  exact this
theorem Good.rowsNodup : (rowsI l K).Nodup := by
  rw [List.nodup_iff_pairwise_ne, List.pairwise_iff_getElem]
  intro j i hj hi hlt
  rw [g.rowAtI j hj, g.rowAtI i hi]
  exact g.dist j i hlt (by rw [g.rowsLen] at hi; have := g.len; omega)
theorem Good.pickOk : pickOk (K + M) (rowsI l K) = true := by
  unfold PS.pickOk
  rw [Bool.and_eq_true, Bool.and_eq_true]
  refine ⟨⟨List.all_eq_true.2 (fun x hx => decide_eq_true (g.rowsRange x hx)), decide_eq_true g.rowsNodup⟩, decide_eq_true ?_⟩
  rw [g.rowsLen]
  have := g.k1
  have := g.km
  omega
theorem Good.numsNodup : ((rowsI l K).map Int.toNat).Nodup := nodup_map_of (fun a ha b hb e => by
  have := g.rowsRange a ha
  have := g.rowsRange b hb
  omega) g.rowsNodup
theorem Good.numsRange : ∀ r, r ∈ (rowsI l K).map Int.toNat → r < K + M := fun r hr => by
  obtain ⟨x, hx, rfl⟩ := List.mem_map.1 hr
  have := g.rowsRange x hx
  omega
theorem Good.pickLen : (pickM K M l).length = K := by
  unfold pickM
  rw [pickG_len, List.length_map, g.rowsLen]
theorem Good.pickRows : ∀ r, r ∈ pickM K M l → r.length = K := pickG_rows (genG_rows K M) _ (fun r hr => by rw [genG_len]; exact g.numsRange r hr)
theorem Good.pickSq : Sq K (pickM K M l) := sq_of g.pickLen g.pickRows
theorem Good.pickAt (i j : Nat) (hi : i < K) (hj : j < K) : at2 (pickM K M l) i j = genAt K ((l[i]'(by have := g.len; omega)).f0.toNat) j := by
  have h1 : i < (pickM K M l).length := by rw [g.pickLen]; exact hi
  have h2 : i < (rowsI l K).length := by rw [g.rowsLen]; exact hi
  have h3 : Gf.rowAt (pickM K M l) i = Gf.rowAt (genG K M) ((rowsI l K)[i].toNat) := by
    rw [rowAt_lt h1]
    simp only [pickM, pickG, List.getElem_map]
  have h4 := g.rowsRange _ (List.getElem_mem h2)
  have h5 : at2 (pickM K M l) i j = at2 (genG K M) ((rowsI l K)[i].toNat) j := by
    unfold at2
    rw [h3]
  rw [h5, genG_at K M _ j (by omega) hj, g.rowAtI i h2]
theorem Good.plain : Plain K (pickM K M l) := fun d h => by
  refine mds K (K + M) (by have := g.km; omega) ((rowsI l K).map Int.toNat) g.numsRange (by omega) (by rw [List.length_map, g.rowsLen]) g.numsNodup d (fun r hr => ?_)
  obtain ⟨x, hx, rfl⟩ := List.mem_map.1 hr
  obtain ⟨i, hi, rfl⟩ := List.getElem_of_mem hx
  have hi' : i < K := by rw [g.rowsLen] at hi; exact hi
  rw [← h i hi']
  refine dotn_congr (fun j hj => ?_) (fun _ _ => rfl)
  rw [g.pickAt i j hi' hj, g.rowAtI i hi]
theorem Good.inv : inverse (pickM K M l) = some (invM K M l) ∧ Sq K (invM K M l) ∧ ∀ d i, i < K → dotn K (at2 (invM K M l) i) (fun j => dotn K (at2 (pickM K M l) j) d) = d i := by
  obtain ⟨R, h1, h2, h3⟩ := inverse_plain g.pickSq g.plain
  have e : invM K M l = R := by unfold invM; rw [h1]; rfl
  rw [e]
  exact ⟨h1, h2, h3⟩
theorem Good.invRows : ∀ r, r ∈ invM K M l → r.length = K := fun r hr => by
  obtain ⟨i, hi, rfl⟩ := List.getElem_of_mem hr
  have := g.inv.2.1.rows i (by rw [← g.inv.2.1.len]; exact hi)
  rwa [rowAt_lt hi] at this
theorem Good.even : evenB (havS l K) = true ∧ (rdOf ByteArray.empty (havS l K) 0).size = shardN l := by
  have h0 : 0 < (havS l K).length := by rw [g.havLen]; exact g.k1
  have hs : ∀ i (h : i < (havS l K).length), (havS l K)[i].size = shardN l := fun i h => by
    rw [g.havAt i h]
    exact g.size i _
  have e0 : rdOf ByteArray.empty (havS l K) 0 = (havS l K)[0] := rdOf_nat _ 0 h0
  have e1 : (rdOf ByteArray.empty (havS l K) 0).size = shardN l := by rw [e0, hs 0 h0]
  refine ⟨?_, e1⟩
  unfold evenB
  rw [List.all_eq_true]
  intro s hm
  obtain ⟨i, hi, rfl⟩ := List.getElem_of_mem hm
  rw [hs i hi, e1]
  simp
theorem Good.pick_f : matrix_Pick.f ((K : Int) + (M : Int)) (K : Int) (txt (genG K M).flatten) (rowsI l K) = some ((K : Int), (K : Int), txt (pickM K M l).flatten, 0) := by
  have h1 := g.k1
  have h2 := g.km
  have hs : (txt (genG K M).flatten).size = (K + M) * K := by rw [txt_size, flat_len _ (genG_rows K M), genG_len]
  have e : (K : Int) + (M : Int) = ((K + M : Nat) : Int) := by push_cast; rfl
  unfold matrix_Pick.f
  rw [e, if_pos ⟨by unfold shapeB; exact decide_eq_true ⟨by omega, by omega, by omega, by omega, by rw [hs]; rfl⟩, by rw [Int.toNat_natCast]; exact g.pickOk⟩]
  simp only [Int.toNat_natCast]
  rw [gridOf_txt (K + M) K _ (genG_len K M) (genG_rows K M), g.rowsLen]
  rfl
theorem Good.inv_f : invF (K : Int) (K : Int) (txt (pickM K M l).flatten) = some ((K : Int), (K : Int), txt (invM K M l).flatten, 0) := by
  have h1 := g.k1
  have h2 := g.km
  have hs : (txt (pickM K M l).flatten).size = K * K := by rw [txt_size, flat_len _ g.pickRows, g.pickLen]
  unfold invF
  rw [if_pos ⟨by unfold shapeB; exact decide_eq_true ⟨by omega, by omega, by omega, by omega, by rw [hs]; rfl⟩, rfl⟩]
  simp only [Int.toNat_natCast]
  rw [gridOf_txt K K _ g.pickLen g.pickRows, g.inv.1]
  rfl
theorem Good.invAt (r j : Nat) (hr : r < K) (hj : j < K) : (invM K M l).flatten.getD (r * K + j) 0 = at2 (invM K M l) r j := flat_getD _ g.invRows r j (by rw [g.inv.2.1.len]; exact hr) hj
theorem Good.und_f : mend_under.f (K : Int) (K : Int) (txt (invM K M l).flatten) (havS l K) = some (dataL K M l) := by
  have h1 := g.k1
  have h2 := g.km
  have hs : (txt (invM K M l).flatten).size = K * K := by rw [txt_size, flat_len _ g.invRows, g.inv.2.1.len]
  unfold mend_under.f
  rw [if_pos ⟨by omega, by omega, by omega, by omega, by rw [hs]; rfl, by rw [g.havLen]; rfl, g.even.1, by rw [g.even.2]; exact g.most⟩]
  simp only [Int.toNat_natCast]
  rw [g.even.2]
  unfold dataL
  refine congrArg some (undL_congr (fun r j hr hj => ?_))
  unfold coef
  rw [txt_list]
  exact g.invAt r j hr hj
theorem Good.data_from (d : Nat) (x1 x2 : Int) (x3 : ByteArray) : ∀ i, i + d = K → ∀ k, d + 1 ≤ k → mend_Data.l0 k (rowsI l i) (havS l i) (l.take K) (K : Int) (i : Int) x1 x2 x3 = mend_Data.l0 1 (rowsI l K) (havS l K) (l.take K) (K : Int) (K : Int) x1 x2 x3 := by
  have h1 := g.km
  have hlen := g.len
  have htl : (l.take K).length = K := by rw [List.length_take]; omega
  induction d with
  | zero =>
    intro i hi k hk
    obtain ⟨m, rfl, _⟩ := pred_of (K := 0) hk
    have e : i = K := by omega
    subst e
    simp only [mend_Data.l0]
    rw [if_neg (by omega), if_neg (by omega)]
  | succ d ih =>
    intro i hi k hk
    obtain ⟨m, rfl, hm⟩ := pred_of hk
    have hil : i < (l.take K).length := by omega
    have e : rd_T37 (l.take K) (i : Int) = l[i]'(by omega) := by rw [rdT_nat _ i hil, List.getElem_take]
    have er : rowsI l i ++ [(l[i]'(by omega)).f0] = rowsI l (i + 1) := by
      unfold rowsI
      rw [List.take_succ_eq_append_getElem (by omega), List.map_append]
      rfl
    have eh : havS l i ++ [(l[i]'(by omega)).f1] = havS l (i + 1) := by
      unfold havS
      rw [List.take_succ_eq_append_getElem (by omega), List.map_append]
      rfl
    have el1 : (rowsI l i).length ≤ 255 := by unfold rowsI; rw [List.length_map, List.length_take]; omega
    have el2 : (havS l i).length ≤ 255 := by unfold havS; rw [List.length_map, List.length_take]; omega
    have step : mend_Data.l0 (m + 1) (rowsI l i) (havS l i) (l.take K) (K : Int) (i : Int) x1 x2 x3 = mend_Data.l0 m (rowsI l (i + 1)) (havS l (i + 1)) (l.take K) (K : Int) ((i + 1 : Nat) : Int) x1 x2 x3 := by
      conv => lhs; unfold mend_Data.l0
      rw [if_pos (by omega), if_pos (by omega), if_pos (by omega), e, Option.bind_some, if_pos (by simp; omega), Option.bind_some, if_pos (by simp; omega), er, eh, w64_in ((i : Int) + 1) (by omega) (by omega)]
      rfl
    rw [step]
    exact ih (i + 1) (by omega) m hm
theorem Good.data_f (k : Nat) (hk : 256 ≤ k) : mend_Data.f k (K : Int) (M : Int) l = some (dataL K M l, 0) := by
  have h1 := g.k1
  have h2 := g.km
  have hlen := g.len
  have hn : numsOk l = true := numsOk_mk fun x hx => by
    obtain ⟨i, hi, rfl⟩ := List.getElem_of_mem hx
    have := g.rng i hi
    omega
  have hc : codeB (K : Int) (M : Int) = true := by unfold codeB; exact decide_eq_true (by omega)
  unfold mend_Data.f mend_Check.f matrix_Generator.f
  rw [if_pos hn, Option.bind_some, good_check g, if_pos rfl, if_pos hc, Option.bind_some, if_pos (by omega), if_pos (by omega), Option.bind_some]
  simp only [Int.toNat_natCast]
  rw [show ((l.take K).length : Int) = (K : Int) by rw [List.length_take]; omega]
  have := g.data_from K ((K : Int) + (M : Int)) (K : Int) (txt (genG K M).flatten) 0 (by omega) k (by omega)
  rw [show (((0 : Nat) : Int)) = (0 : Int) from rfl] at this
  have e0 : rowsI l 0 = [] := by simp [rowsI]
  have e1 : havS l 0 = [] := by simp [havS]
  rw [e0, e1] at this
  rw [this]
  unfold mend_Data.l0
  rw [if_neg (by omega), g.pick_f, Option.bind_some]
  simp only
  unfold matrix_Inverse.f
  rw [g.inv_f, Option.bind_some, if_pos rfl]
  simp only
  rw [g.und_f, Option.bind_some]
omit g in
theorem Good.dataLen (_ : Good K M l) : (dataL K M l).length = K := by simp [dataL, undL]
omit g in
theorem Good.dataSize (_ : Good K M l) : ∀ s, s ∈ dataL K M l → s.size = shardN l := fun s hs => by
  unfold dataL undL at hs
  obtain ⟨r, _, rfl⟩ := List.mem_map.1 hs
  rw [txt_size, accC_len]
end
end Go.Proofs.YtpmnhlbkgeiomaaDoor.PS
namespace Go.Proofs.YtpmnhlbkgeiomaaDoor.PS
open Go.RowKit Go.Proofs.YtpmnhlbkgeiomaaDoorW.PrintWords Go.Proofs.YtpmnhlbkgeiomaaDoorW.PrintLast Go.Proofs.YtpmnhlbkgeiomaaDoorW.PrintMore
attribute [local go_sem] Mk.str_leq Mk.str_gtr Mk.str_geq max2_int min2_int max_two min_two max_three min_three max_four min_four   -- for this text's walks alone
set_option linter.unusedVariables false
set_option linter.unusedSimpArgs false

/-! ### mend_Object: function 23 -/
def mend_Object.f (k : Nat) (a0 : Int) (a1 : Int) (l2 : List (S37)) : Option (ByteArray × Int) := (mend_Data.f k a0 a1 l2).bind fun bt154 => (if bt154.2 = 0 then ((stripe_Join.f bt154.1).bind fun bt158 => (some (bt158.1, bt158.2))) else (some ((⟨#[]⟩ : ByteArray), bt154.2)))
theorem mend_Object.mono : ∀ a0 a1 a2 k, LeO (mend_Object.f k a0 a1 a2) (mend_Object.f (k + 1) a0 a1 a2) := by
 intro a0 a1 a2 k
 unfold mend_Object.f
 repeat' first
   | (with_reducible exact mend_Data.mono _ _ _ _)
   | (with_reducible exact LeO.refl _)
   | (with_reducible exact LeO.none _)
   | (with_reducible refine LeO.ite ?_ ?_)
   | (with_reducible refine LeO.bind ?_ (fun _ => ?_))
   | exact mend_Data.mono _ _ _ _
   | exact LeO.none _
   | refine LeO.ite ?_ ?_
   | refine LeO.bind ?_ (fun _ => ?_)
set_option maxHeartbeats 8000000 in
set_option maxRecDepth 100000 in
theorem mend_Object.calls (k : Nat) (a0 : Int) (a1 : Int) (A2 : Option Addr) (c2 : Nat) (l2 : List (S37)) (r1 : ByteArray) (r2 : Int) (w : World) (hr2 : Kd.C k37 w A2 l2.length l2) (hc2 : l2.length ≤ c2) (h : mend_Object.f k a0 a1 l2 = some (r1, r2)) :
  Calls Tryd.prog 23 #[.int .i64 a0, .int .i64 a1, .slice A2 l2.length c2] w fun e w' => e = .returned (.tuple #[.string r1, .int .i64 r2]) ∧ Below w.heap.size w w' := by
 have HR2 := Aside0.mk hr2
 have HC2 := Aside0.mk hc2
 clear hr2 hc2
 have HB := Aside0.mk (Below.refl w.heap.size w)
 have H : ((mend_Data.f k a0 a1 l2).bind fun bt154 => (if bt154.2 = 0 then ((stripe_Join.f bt154.1).bind fun bt158 => (some (bt158.1, bt158.2))) else (some ((⟨#[]⟩ : ByteArray), bt154.2)))) = some (r1, r2) := h
 clear h
 replace H := Option.bind_eq_some_iff.mp H
 obtain ⟨⟨t154, t155⟩, A40, H⟩ := H
 replace H : (if t155 = 0 then ((stripe_Join.f t154).bind fun bt158 => (some (bt158.1, bt158.2))) else (some ((⟨#[]⟩ : ByteArray), t155))) = some (r1, r2) := H
 have A4 := Aside0.mk A40
 clear A40
 by_cases c5 : t155 = 0
 ·rw [if_pos c5] at H
  have c5b0 : (t155 == 0) = true := beq_iff_eq.mpr c5
  have c5b1 : (t155 != 0) = false := bne_eq_false_iff_eq.mpr c5
  clear c5
  replace H := Option.bind_eq_some_iff.mp H
  obtain ⟨⟨t158, t159⟩, A60, H⟩ := H
  replace H : (some (t158, t159)) = some (r1, r2) := H
  have A6 := Aside0.mk A60
  clear A60
  simp only [Option.some.injEq, Prod.mk.injEq] at H
  obtain ⟨rfl, rfl⟩ := H
  go_enter Tryd.func23, Tryd.ntmps23
  go_wp2_with (first | ((with_reducible refine gate_callee (f := 39) rfl ?_); refine goesL_ (some 14) rfl rfl Tryd.func39 (by kernel_rfl) rfl #[.int .i64 a0, .int .i64 a1, .slice A2 l2.length c2] rfl (by (try simp only [List.map_toArray, List.map_cons, List.map_nil]); first | done | rfl | (simp only [List.length_drop, List.length_take]; rfl)) ?_; (with_reducible refine (mend_Data.calls k a0 a1 _ _ l2 t154 t155 _ ?side1 ?side2 A4.out).mono ?_); (case side1 => repeat (first | exact HR2.out | (with_reducible refine Kd.C_alloc ?_ _) | (with_reducible refine Kd.C_drewN ?_ _) | (with_reducible refine Kd.C_drew ?_))); (case side2 => exact HC2.out); rintro e w7 ⟨v156, rfl, ho0, hb⟩; refine ⟨_, rfl, ?_⟩; have n0_ := Aside0.mk (Kd.R_lower ho0 (below_size (by repeat (first | (with_reducible first | exact HB.out | apply below_alloc | apply pw_below_drewN | apply below_drew1) | exact HB.out)))); have n1_ := Aside0.mk (below_step (by repeat (first | (with_reducible first | exact HB.out | apply below_alloc | apply pw_below_drewN | apply below_drew1) | exact HB.out)) hb); clear HB; have HO157 := n0_; have HB := n1_; clear n0_ n1_; (try clear hb); (try clear hb2); (try clear hk); (try clear hi); (try clear ho0); obtain ⟨Ao8, co8, eo8⟩ := Kd.R_slice HO157.out; subst eo8) | ((with_reducible refine gate_callee (f := 40) rfl ?_); refine goesL_ (some 21) rfl rfl Tryd.func40 (by kernel_rfl) rfl #[.slice Ao8 t154.length co8] rfl (by (try simp only [List.map_toArray, List.map_cons, List.map_nil]); first | done | rfl | (simp only [List.length_drop, List.length_take]; rfl)) ?_; (with_reducible refine (stripe_Join.calls _ _ t154 t158 t159 _ ?side1 ?side2 A6.out).mono ?_); (case side1 => repeat (first | exact (Kd.R_reads' HO157.out).2.2 | (with_reducible refine Kd.C_alloc ?_ _) | (with_reducible refine Kd.C_drewN ?_ _) | (with_reducible refine Kd.C_drew ?_))); (case side2 => exact (Kd.R_reads' HO157.out).2.1); rintro e w9 ⟨rfl, hb⟩; refine ⟨_, rfl, ?_⟩; have n0_ := Aside0.mk (Kd.R_below (by (with_reducible repeat (first | apply Kd.R_alloc | apply Kd.R_drewN | apply Kd.R_drew)); exact HO157.out) hb); have n1_ := Aside0.mk (below_step (by repeat (first | (with_reducible first | exact HB.out | apply below_alloc | apply pw_below_drewN | apply below_drew1) | exact HB.out)) hb); clear HO157; clear HB; have HO157 := n0_; have HB := n1_; clear n0_ n1_; (try clear hb); (try clear hb2); (try clear hk); (try clear hi)))
  go_ret2
  exact ⟨by first | rfl | (simp [errW_none, errW_some] <;> rfl) | (simp [*, errW_none, errW_some] <;> rfl), by repeat (first | (with_reducible first | exact HB.out | apply below_alloc | apply pw_below_drewN | apply below_drew1) | exact HB.out)⟩
 ·rw [if_neg c5] at H
  have c5b0 : (t155 == 0) = false := beq_eq_false_iff_ne.mpr c5
  have c5b1 : (t155 != 0) = true := bne_iff_ne.mpr c5
  simp only [Option.some.injEq, Prod.mk.injEq] at H
  obtain ⟨rfl, rfl⟩ := H
  go_enter Tryd.func23, Tryd.ntmps23
  go_wp2_with (first | ((with_reducible refine gate_callee (f := 39) rfl ?_); refine goesL_ (some 14) rfl rfl Tryd.func39 (by kernel_rfl) rfl #[.int .i64 a0, .int .i64 a1, .slice A2 l2.length c2] rfl (by (try simp only [List.map_toArray, List.map_cons, List.map_nil]); first | done | rfl | (simp only [List.length_drop, List.length_take]; rfl)) ?_; (with_reducible refine (mend_Data.calls k a0 a1 _ _ l2 t154 t155 _ ?side1 ?side2 A4.out).mono ?_); (case side1 => repeat (first | exact HR2.out | (with_reducible refine Kd.C_alloc ?_ _) | (with_reducible refine Kd.C_drewN ?_ _) | (with_reducible refine Kd.C_drew ?_))); (case side2 => exact HC2.out); rintro e w10 ⟨v156, rfl, ho0, hb⟩; refine ⟨_, rfl, ?_⟩; have n0_ := Aside0.mk (Kd.R_lower ho0 (below_size (by repeat (first | (with_reducible first | exact HB.out | apply below_alloc | apply pw_below_drewN | apply below_drew1) | exact HB.out)))); have n1_ := Aside0.mk (below_step (by repeat (first | (with_reducible first | exact HB.out | apply below_alloc | apply pw_below_drewN | apply below_drew1) | exact HB.out)) hb); clear HB; have HO157 := n0_; have HB := n1_; clear n0_ n1_; (try clear hb); (try clear hb2); (try clear hk); (try clear hi); (try clear ho0)))
  go_ret2
  exact ⟨by first | rfl | (simp [errW_none, errW_some] <;> rfl) | (simp [*, errW_none, errW_some] <;> rfl), by repeat (first | (with_reducible first | exact HB.out | apply below_alloc | apply pw_below_drewN | apply below_drew1) | exact HB.out)⟩

end Go.Proofs.YtpmnhlbkgeiomaaDoor.PS
namespace Go.Proofs.YtpmnhlbkgeiomaaDoor.PS
open Go.RowKit Go.Proofs.YtpmnhlbkgeiomaaDoorW.PrintWords Go.Proofs.YtpmnhlbkgeiomaaDoorW.PrintLast Go.Proofs.YtpmnhlbkgeiomaaDoorW.PrintMore
attribute [local go_sem] Mk.str_leq Mk.str_gtr Mk.str_geq max2_int min2_int max_two min_two max_three min_three max_four min_four   -- for this text's walks alone
set_option linter.unusedVariables false
set_option linter.unusedSimpArgs false

/-! ### mend_all: function 27 -/
def mend_all.f (k : Nat) (a0 : Int) (a1 : Int) (l2 : List (S37)) : Option (List ByteArray × Int) := (mend_Data.f k a0 a1 l2).bind fun bt222 => (if bt222.2 = 0 then ((stripe_Parity.f a0 a1 bt222.1).bind fun bt226 => (if bt222.1.length + bt226.1.length < 8796093022208 then (some ((bt222.1 ++ bt226.1), bt226.2)) else (none))) else (some (([] : List ByteArray), bt222.2)))
theorem mend_all.mono : ∀ a0 a1 a2 k, LeO (mend_all.f k a0 a1 a2) (mend_all.f (k + 1) a0 a1 a2) := by
 intro a0 a1 a2 k
 unfold mend_all.f
 repeat' first
   | (with_reducible exact mend_Data.mono _ _ _ _)
   | (with_reducible exact LeO.refl _)
   | (with_reducible exact LeO.none _)
   | (with_reducible refine LeO.ite ?_ ?_)
   | (with_reducible refine LeO.bind ?_ (fun _ => ?_))
   | exact mend_Data.mono _ _ _ _
   | exact LeO.none _
   | refine LeO.ite ?_ ?_
   | refine LeO.bind ?_ (fun _ => ?_)
set_option maxHeartbeats 8000000 in
set_option maxRecDepth 100000 in
theorem mend_all.calls (k : Nat) (a0 : Int) (a1 : Int) (A2 : Option Addr) (c2 : Nat) (l2 : List (S37)) (r1 : List ByteArray) (r2 : Int) (w : World) (hr2 : Kd.C k37 w A2 l2.length l2) (hc2 : l2.length ≤ c2) (h : mend_all.f k a0 a1 l2 = some (r1, r2)) :
  Calls Tryd.prog 27 #[.int .i64 a0, .int .i64 a1, .slice A2 l2.length c2] w fun e w' => ∃ v0_ : Value, e = .returned (.tuple #[v0_, .int .i64 r2]) ∧ Kd.R Kd.string 9 w' w.heap.size (fun _ => True) v0_ r1 ∧ Below w.heap.size w w' := by
 have HR2 := Aside0.mk hr2
 have HC2 := Aside0.mk hc2
 clear hr2 hc2
 have HB := Aside0.mk (Below.refl w.heap.size w)
 have H : ((mend_Data.f k a0 a1 l2).bind fun bt222 => (if bt222.2 = 0 then ((stripe_Parity.f a0 a1 bt222.1).bind fun bt226 => (if bt222.1.length + bt226.1.length < 8796093022208 then (some ((bt222.1 ++ bt226.1), bt226.2)) else (none))) else (some (([] : List ByteArray), bt222.2)))) = some (r1, r2) := h
 clear h
 replace H := Option.bind_eq_some_iff.mp H
 obtain ⟨⟨t222, t223⟩, A40, H⟩ := H
 replace H : (if t223 = 0 then ((stripe_Parity.f a0 a1 t222).bind fun bt226 => (if t222.length + bt226.1.length < 8796093022208 then (some ((t222 ++ bt226.1), bt226.2)) else (none))) else (some (([] : List ByteArray), t223))) = some (r1, r2) := H
 have A4 := Aside0.mk A40
 clear A40
 by_cases c5 : t223 = 0
 ·rw [if_pos c5] at H
  have c5b0 : (t223 == 0) = true := beq_iff_eq.mpr c5
  have c5b1 : (t223 != 0) = false := bne_eq_false_iff_eq.mpr c5
  clear c5
  replace H := Option.bind_eq_some_iff.mp H
  obtain ⟨⟨t226, t227⟩, A60, H⟩ := H
  replace H : (if t222.length + t226.length < 8796093022208 then (some ((t222 ++ t226), t227)) else (none)) = some (r1, r2) := H
  have A6 := Aside0.mk A60
  clear A60
  by_cases c7 : t222.length + t226.length < 8796093022208
  ·rw [if_pos c7] at H
   have LMc7 := Aside0.mk c7
   clear c7
   obtain ⟨y230, hy230⟩ : ∃ y_ : List ByteArray, y_ = (t222 ++ t226) := ⟨_, rfl⟩
   replace H : (some (y230, t227)) = some (r1, r2) := by first | (rw [hy230]; with_reducible exact H) | (have H2_ := (Option.bind_some _ _).symm.trans H; rw [hy230]; with_reducible exact H2_) | (have H2_ := (Option.bind_some _ _).symm.trans H; with_reducible exact H2_) | with_reducible exact H | (rw [hy230]; exact H) | exact H
   have Ny230 := Aside0.mk hy230
   clear hy230
   simp only [Option.some.injEq, Prod.mk.injEq] at H
   obtain ⟨rfl, rfl⟩ := H
   go_enter Tryd.func27, Tryd.ntmps27
   go_wp2_with (first | ((with_reducible refine gate_callee (f := 39) rfl ?_); refine goesL_ (some 15) rfl rfl Tryd.func39 (by kernel_rfl) rfl #[.int .i64 a0, .int .i64 a1, .slice A2 l2.length c2] rfl (by (try simp only [List.map_toArray, List.map_cons, List.map_nil]); first | done | rfl | (simp only [List.length_drop, List.length_take]; rfl)) ?_; (with_reducible refine (mend_Data.calls k a0 a1 _ _ l2 t222 t223 _ ?side1 ?side2 A4.out).mono ?_); (case side1 => repeat (first | exact HR2.out | (with_reducible refine Kd.C_alloc ?_ _) | (with_reducible refine Kd.C_drewN ?_ _) | (with_reducible refine Kd.C_drew ?_))); (case side2 => exact HC2.out); rintro e w8 ⟨v224, rfl, ho0, hb⟩; refine ⟨_, rfl, ?_⟩; have n0_ := Aside0.mk (Kd.R_lower ho0 (below_size (by repeat (first | (with_reducible first | exact HB.out | apply below_alloc | apply pw_below_drewN | apply below_drew1) | exact HB.out)))); have n1_ := Aside0.mk (below_step (by repeat (first | (with_reducible first | exact HB.out | apply below_alloc | apply pw_below_drewN | apply below_drew1) | exact HB.out)) hb); clear HB; have HO225 := n0_; have HB := n1_; clear n0_ n1_; (try clear hb); (try clear hb2); (try clear hk); (try clear hi); (try clear ho0); obtain ⟨Ao9, co9, eo9⟩ := Kd.R_slice HO225.out; subst eo9) | ((with_reducible refine gate_callee (f := 26) rfl ?_); refine goesL_ (some 25) rfl rfl Tryd.func26 (by kernel_rfl) rfl #[.int .i64 a0, .int .i64 a1, .slice Ao9 t222.length co9] rfl (by (try simp only [List.map_toArray, List.map_cons, List.map_nil]); first | done | rfl | (simp only [List.length_drop, List.length_take]; rfl)) ?_; (with_reducible refine (stripe_Parity.calls a0 a1 _ _ t222 t226 t227 _ ?side1 ?side2 A6.out).mono ?_); (case side1 => repeat (first | exact (Kd.R_reads' HO225.out).2.2 | (with_reducible refine Kd.C_alloc ?_ _) | (with_reducible refine Kd.C_drewN ?_ _) | (with_reducible refine Kd.C_drew ?_))); (case side2 => exact (Kd.R_reads' HO225.out).2.1); rintro e w10 ⟨v228, rfl, ho0, hb⟩; refine ⟨_, rfl, ?_⟩; have n0_ := Aside0.mk (Kd.R_elder' (by (with_reducible repeat (first | apply Kd.R_alloc | apply Kd.R_drewN | apply Kd.R_drew)); exact HO225.out) (Kd.R_base ho0) hb); have n1_ := Aside0.mk (Kd.R_lower (Kd.R_new' ho0 (Kd.R_lt (by (with_reducible repeat (first | apply Kd.R_alloc | apply Kd.R_drewN | apply Kd.R_drew)); exact HO225.out))) (below_size (by repeat (first | (with_reducible first | exact HB.out | apply below_alloc | apply pw_below_drewN | apply below_drew1) | exact HB.out)))); have n2_ := Aside0.mk (below_step (by repeat (first | (with_reducible first | exact HB.out | apply below_alloc | apply pw_below_drewN | apply below_drew1) | exact HB.out)) hb); clear HO225; clear HB; have HO225 := n0_; have HO229 := n1_; have HB := n2_; clear n0_ n1_ n2_; (try clear hb); (try clear hb2); (try clear hk); (try clear hi); (try clear ho0); obtain ⟨Ao12, co12, eo12⟩ := Kd.R_slice HO229.out; subst eo12) | ((with_reducible refine gate_builtin (b := .append) (xs := #[.tmp 28, .tmp 29]) rfl ?_); at_builtin; refine Kd.R_append_rows Kd.string (w0 := w) w.heap.size rfl (.tmp 28) (.tmp 29) 26 9 (.string ⟨#[]⟩) 16 rfl Tryd.underlying26 info9 rfl (by decide) (by omega) (.slice Ao9 t222.length co9) t222 t226 _ _ _ (fun k_ => some k_ ≠ (.slice Ao12 t226.length co12 : Value).ownBlock) (fun _ => False) rfl rfl ?aO ?aR (fun _ _ h => h) (fun _ h => h.elim) ?aF ?aB ?aS ?aL ?_; (case aR => repeat (first | exact (Kd.R_reads' HO229.out).2.2 | (with_reducible refine Kd.C_alloc ?_ _) | (with_reducible refine Kd.C_drewN ?_ _) | (with_reducible refine Kd.C_drew ?_))); (case aB => exact (by repeat (first | (with_reducible first | exact HB.out | apply below_alloc | apply pw_below_drewN | apply below_drew1) | exact HB.out))); (case aF => exact (fun k_ hk => Kd.fresh' (Kd.R_lt (by (with_reducible repeat (first | apply Kd.R_alloc | apply Kd.R_drewN | apply Kd.R_drew)); exact HO229.out)) k_ hk)); (case aO => exact (by (with_reducible repeat (first | apply Kd.R_alloc | apply Kd.R_drewN | apply Kd.R_drew)); exact Kd.R_mono HO225.out (fun _ hk => hk.2))); (case aS => exact (below_size (by repeat (first | (with_reducible first | exact HB.out | apply below_alloc | apply pw_below_drewN | apply below_drew1) | exact HB.out)))); (case aL => have := LMc7.out; omega); intro v231 w11 ho hb hg hat; rw [← Ny230.out] at ho; have n0_ := Aside0.mk (Kd.R_after (ok := (fun _ => True)) (by (with_reducible repeat (first | apply Kd.R_alloc | apply Kd.R_drewN | apply Kd.R_drew)); exact HO229.out) hg hat); have n1_ := Aside0.mk (hb); have n2_ := Aside0.mk (ho); clear HO229; clear HB; clear HO225; have HO229 := n0_; have HB := n1_; have HO232 := n2_; clear n0_ n1_ n2_; clear ho hb hg hat))
   go_ret2
   exact ⟨_, by first | rfl | (simp [errW_none, errW_some] <;> rfl) | (simp [*, errW_none, errW_some] <;> rfl), by (with_reducible repeat (first | apply Kd.R_alloc | apply Kd.R_drewN | apply Kd.R_drew)); exact Kd.R_mono HO232.out (fun _ hk => trivial), by repeat (first | (with_reducible first | exact HB.out | apply below_alloc | apply pw_below_drewN | apply below_drew1) | exact HB.out)⟩
  ·rw [if_neg c7] at H
   exact absurd H (by simp)
 ·rw [if_neg c5] at H
  have c5b0 : (t223 == 0) = false := beq_eq_false_iff_ne.mpr c5
  have c5b1 : (t223 != 0) = true := bne_iff_ne.mpr c5
  simp only [Option.some.injEq, Prod.mk.injEq] at H
  obtain ⟨rfl, rfl⟩ := H
  go_enter Tryd.func27, Tryd.ntmps27
  go_wp2_with (first | ((with_reducible refine gate_callee (f := 39) rfl ?_); refine goesL_ (some 15) rfl rfl Tryd.func39 (by kernel_rfl) rfl #[.int .i64 a0, .int .i64 a1, .slice A2 l2.length c2] rfl (by (try simp only [List.map_toArray, List.map_cons, List.map_nil]); first | done | rfl | (simp only [List.length_drop, List.length_take]; rfl)) ?_; (with_reducible refine (mend_Data.calls k a0 a1 _ _ l2 t222 t223 _ ?side1 ?side2 A4.out).mono ?_); (case side1 => repeat (first | exact HR2.out | (with_reducible refine Kd.C_alloc ?_ _) | (with_reducible refine Kd.C_drewN ?_ _) | (with_reducible refine Kd.C_drew ?_))); (case side2 => exact HC2.out); rintro e w13 ⟨v224, rfl, ho0, hb⟩; refine ⟨_, rfl, ?_⟩; have n0_ := Aside0.mk (Kd.R_lower ho0 (below_size (by repeat (first | (with_reducible first | exact HB.out | apply below_alloc | apply pw_below_drewN | apply below_drew1) | exact HB.out)))); have n1_ := Aside0.mk (below_step (by repeat (first | (with_reducible first | exact HB.out | apply below_alloc | apply pw_below_drewN | apply below_drew1) | exact HB.out)) hb); clear HB; have HO225 := n0_; have HB := n1_; clear n0_ n1_; (try clear hb); (try clear hb2); (try clear hk); (try clear hi); (try clear ho0)))
  go_ret2
  exact ⟨_, by first | rfl | (simp [errW_none, errW_some] <;> rfl) | (simp [*, errW_none, errW_some] <;> rfl), by first | exact Kd.R_nil _ _ _ _ _ | exact Kd.N_nil _ _ _ _ _ | exact Kd.V_nil _ _ _ _ _ | exact Kd.Q_nil _ _ _ _ _ | exact Kd.S_nil _ _ _ _ _, by repeat (first | (with_reducible first | exact HB.out | apply below_alloc | apply pw_below_drewN | apply below_drew1) | exact HB.out)⟩

end Go.Proofs.YtpmnhlbkgeiomaaDoor.PS
namespace Go.Proofs.YtpmnhlbkgeiomaaDoor.PS
open Go.RowKit Go.Proofs.YtpmnhlbkgeiomaaDoorW.PrintWords Go.Proofs.YtpmnhlbkgeiomaaDoorW.PrintLast Go.Proofs.YtpmnhlbkgeiomaaDoorW.PrintMore Go.Proofs.YtpmnhlbkgeiomaaDoor.Gf Go.Proofs.YtpmnhlbkgeiomaaDoor.Fld Go.Proofs.YtpmnhlbkgeiomaaDoor.Grd Go.Proofs.YtpmnhlbkgeiomaaDoor.Rowb
set_option linter.unusedVariables false
set_option linter.unusedSimpArgs false
theorem accC_get (c : Nat → UInt8) (n : Nat) (data : List ByteArray) (q t : Nat) (h : t < n) : (accC c n data q).getD t 0 = xs (List.range q) fun j => gmul (c j) (dAt data j t) := by
  rw [getD_lt _ _ _ (by rw [accC_len]; exact h)]
  unfold accC
  rw [List.getElem_map, List.getElem_range]
theorem accC_dotn (c : Nat → UInt8) (n : Nat) (data : List ByteArray) (q t : Nat) (h : t < n) : (accC c n data q).getD t 0 = dotn q c (fun j => dAt data j t) := accC_get c n data q t h
theorem dAt_at (data : List ByteArray) (j t : Nat) (h : j < data.length) : dAt data j t = data[j].data.toList.getD t 0 := by
  unfold dAt
  rw [getD_lt _ _ _ h]
theorem txt_ext {s : ByteArray} {l : List UInt8} (h1 : s.size = l.length) (h2 : ∀ t, t < l.length → l.getD t 0 = s.data.toList.getD t 0) : txt l = s := by
  rw [← txt_eq s]
  congr 1
  have hl : s.data.toList.length = l.length := by rw [Array.length_toList]; exact h1
  apply List.ext_getElem hl.symm
  intro t ht1 ht2
  have := h2 t ht1
  rwa [getD_lt _ _ _ ht1, getD_lt _ _ _ ht2] at this
/-- A row of the identity gives the shard itself. -/
theorem accC_unit (K n : Nat) (data : List ByteArray) (hl : data.length = K) (hs : ∀ s, s ∈ data → s.size = n) (r : Nat) (hr : r < K) : txt (accC (genAt K r) n data K) = data[r]'(by omega) := by
  refine txt_ext (by rw [accC_len]; exact hs _ (List.getElem_mem _)) (fun t ht => ?_)
  rw [accC_len] at ht
  rw [accC_dotn _ _ _ _ _ ht, dotn_congr (b := fun j => if r = j then 1 else 0) (fun j _ => by unfold genAt; rw [if_pos hr]) (fun _ _ => rfl), dotn_unit K r hr, dAt_at data r t (by omega)]
/-- All shards of a code. -/
def allL (K M n : Nat) (data : List ByteArray) : List ByteArray := data ++ parL K n data M
theorem allL_len {K M n : Nat} {data : List ByteArray} (hl : data.length = K) : (allL K M n data).length = K + M := by unfold allL; rw [List.length_append, parL_len, hl]
theorem allL_under (K M n : Nat) (data : List ByteArray) (hl : data.length = K) (hs : ∀ s, s ∈ data → s.size = n) : ((List.range (K + M)).map fun r => txt (accC (genAt K r) n data K)) = allL K M n data := by
  unfold allL
  apply List.ext_getElem
  · simp [parL_len, hl]
  · intro i h1 h2
    simp only [List.getElem_map, List.getElem_range]
    by_cases hi : i < K
    · rw [List.getElem_append_left (by omega), accC_unit K n data hl hs i hi]
    · rw [List.getElem_append_right (by omega)]
      unfold parL
      simp only [List.getElem_map, List.getElem_range]
      rw [show K + (i - data.length) = i by omega]
      rfl
theorem allL_at {K M n : Nat} {data : List ByteArray} (hl : data.length = K) (hs : ∀ s, s ∈ data → s.size = n) (i : Nat) (hi : i < K + M) : (allL K M n data)[i]'(by rw [allL_len hl]; exact hi) = txt (accC (genAt K i) n data K) := by
  have h := allL_under K M n data hl hs
  have e : (allL K M n data)[i]? = some (txt (accC (genAt K i) n data K)) := by
    rw [← h, List.getElem?_map, List.getElem?_range hi]
    rfl
  rw [List.getElem?_eq_getElem (by rw [allL_len hl]; exact hi)] at e
  injection e
theorem even_mk {l : List ByteArray} {n : Nat} (h0 : 0 < l.length) (hs : ∀ s, s ∈ l → s.size = n) : evenB l = true ∧ (rdOf ByteArray.empty l 0).size = n := by
  have e0 : rdOf ByteArray.empty l 0 = l[0] := rdOf_nat _ 0 h0
  have e1 : (rdOf ByteArray.empty l 0).size = n := by rw [e0]; exact hs _ (List.getElem_mem _)
  refine ⟨?_, e1⟩
  unfold evenB
  rw [List.all_eq_true]
  intro s hm
  rw [hs s hm, e1]
  simp
section
variable {K M : Nat} {l : List S37} (g : Good K M l)
include g
theorem Good.par_f : stripe_Parity.f (K : Int) (M : Int) (dataL K M l) = some (parL K (shardN l) (dataL K M l) M, 0) := by
  have h1 := g.k1
  have h2 := g.km
  obtain ⟨e1, e2⟩ := even_mk (by rw [g.dataLen]; exact h1) g.dataSize
  unfold stripe_Parity.f parityV
  rw [if_pos (codeB_in h1 h2), if_pos ⟨by rw [g.dataLen], e1⟩, e2, if_pos (show shardN l ≤ 2052 from g.most)]
  rfl
theorem Good.all_f (k : Nat) (hk : 256 ≤ k) : mend_all.f k (K : Int) (M : Int) l = some (allL K M (shardN l) (dataL K M l), 0) := by
  have h2 := g.km
  unfold mend_all.f
  rw [g.data_f k hk, Option.bind_some, if_pos rfl]
  simp only
  rw [g.par_f, Option.bind_some, if_pos (by rw [g.dataLen, parL_len]; omega)]
  rfl
/-- Shards that are a code's own make the data again. -/
theorem Good.recover (data : List ByteArray) (hd : data.length = K) (hs : ∀ s, s ∈ data → s.size = shardN l) (hx : ∀ (i : Nat) (h : i < K), (l[i]'(by have := g.len; omega)).f1 = txt (accC (genAt K (l[i]'(by have := g.len; omega)).f0.toNat) (shardN l) data K)) : dataL K M l = data := by
  have hlen := g.len
  unfold dataL undL
  apply List.ext_getElem
  · simp [hd]
  · intro i h1 h2
    have hi : i < K := by simpa using h1
    simp only [List.getElem_map, List.getElem_range]
    refine txt_ext (by rw [accC_len]; exact hs _ (List.getElem_mem _)) (fun t ht => ?_)
    rw [accC_len] at ht
    rw [accC_dotn _ _ _ _ _ ht]
    have h3 := g.inv.2.2 (fun j => dAt data j t) i hi
    rw [← dAt_at data i t (by omega), ← h3]
    refine dotn_congr (fun _ _ => rfl) (fun j hj => ?_)
    rw [dAt_at _ j t (by rw [g.havLen]; exact hj), g.havAt j (by rw [g.havLen]; exact hj), hx j hj, txt_list, accC_dotn _ _ _ _ _ ht]
    exact dotn_congr (fun q hq => (g.pickAt j q hj hq).symm) (fun _ _ => rfl)
end
end Go.Proofs.YtpmnhlbkgeiomaaDoor.PS
namespace Go.Proofs.YtpmnhlbkgeiomaaDoor.PS
open Go.RowKit Go.Proofs.YtpmnhlbkgeiomaaDoorW.PrintWords Go.Proofs.YtpmnhlbkgeiomaaDoorW.PrintLast Go.Proofs.YtpmnhlbkgeiomaaDoorW.PrintMore
attribute [local go_sem] Mk.str_leq Mk.str_gtr Mk.str_geq max2_int min2_int max_two min_two max_three min_three max_four min_four   -- for this text's walks alone
set_option linter.unusedVariables false
set_option linter.unusedSimpArgs false

/-! ### mend_Agree: function 13 -/
def mend_Agree.l0 : Nat → List ByteArray → List (S37) → Int → Int → Option (Bool × Int)
 | 0, _, _, _, _ => none
 | k + 1, x8, x22, x23, x24 => if x24 < x23 then (if 0 ≤ x24 then (if x24 < (x22.length : Int) then (if 0 ≤ ((rd_T37 x22 x24).f0) then (if ((rd_T37 x22 x24).f0) < (x8.length : Int) then (if (rdOf ByteArray.empty x8 ((rd_T37 x22 x24).f0)).toList = ((rd_T37 x22 x24).f1).toList then (mend_Agree.l0 k x8 x22 x23 (wrap64 (x24 + 1))) else (some (false, 0))) else (none)) else (none)) else (none)) else (none)) else (some (true, 0))
def mend_Agree.f (k : Nat) (a0 : Int) (a1 : Int) (l2 : List (S37)) : Option (Bool × Int) := (mend_all.f k a0 a1 l2).bind fun bt233 => (if bt233.2 = 0 then (mend_Agree.l0 k bt233.1 l2 (l2.length : Int) 0) else (some (false, bt233.2)))
theorem mend_Agree.mono_l : ∀ k, (∀ y0 y1 y2 y3, LeO (mend_Agree.l0 k y0 y1 y2 y3) (mend_Agree.l0 (k + 1) y0 y1 y2 y3))
 | 0 => fun _ _ _ _ r h => by simp [mend_Agree.l0] at h
 | k + 1 => by
  have ih0 := mend_Agree.mono_l k
  ·intro y0 y1 y2 y3
   unfold mend_Agree.l0
   repeat' first
   | (with_reducible exact ih0 _ _ _ _)
   | (with_reducible exact mend_all.mono _ _ _ _)
   | (with_reducible exact LeO.refl _)
   | (with_reducible exact LeO.none _)
   | (with_reducible refine LeO.ite ?_ ?_)
   | (with_reducible refine LeO.bind ?_ (fun _ => ?_))
   | exact ih0 _ _ _ _
   | exact mend_all.mono _ _ _ _
   | exact LeO.none _
   | refine LeO.ite ?_ ?_
   | refine LeO.bind ?_ (fun _ => ?_)
theorem mend_Agree.mono : ∀ a0 a1 a2 k, LeO (mend_Agree.f k a0 a1 a2) (mend_Agree.f (k + 1) a0 a1 a2) := by
 intro a0 a1 a2 k
 have ih0 := mend_Agree.mono_l k
 unfold mend_Agree.f
 repeat' first
   | (with_reducible exact ih0 _ _ _ _)
   | (with_reducible exact mend_all.mono _ _ _ _)
   | (with_reducible exact LeO.refl _)
   | (with_reducible exact LeO.none _)
   | (with_reducible refine LeO.ite ?_ ?_)
   | (with_reducible refine LeO.bind ?_ (fun _ => ?_))
   | exact ih0 _ _ _ _
   | exact mend_all.mono _ _ _ _
   | exact LeO.none _
   | refine LeO.ite ?_ ?_
   | refine LeO.bind ?_ (fun _ => ?_)
set_option maxHeartbeats 8000000 in
set_option maxRecDepth 100000 in
theorem mend_Agree.calls (k : Nat) (a0 : Int) (a1 : Int) (A2 : Option Addr) (c2 : Nat) (l2 : List (S37)) (r1 : Bool) (r2 : Int) (w : World) (hr2 : Kd.C k37 w A2 l2.length l2) (hc2 : l2.length ≤ c2) (h : mend_Agree.f k a0 a1 l2 = some (r1, r2)) :
  Calls Tryd.prog 13 #[.int .i64 a0, .int .i64 a1, .slice A2 l2.length c2] w fun e w' => e = .returned (.tuple #[.bool r1, .int .i64 r2]) ∧ Below w.heap.size w w' := by
 have hu37 := Tryd.underlying37
 have HR2 := Aside0.mk hr2
 have HC2 := Aside0.mk hc2
 clear hr2 hc2
 have HB := Aside0.mk (Below.refl w.heap.size w)
 have H : ((mend_all.f k a0 a1 l2).bind fun bt233 => (if bt233.2 = 0 then (mend_Agree.l0 k bt233.1 l2 (l2.length : Int) 0) else (some (false, bt233.2)))) = some (r1, r2) := h
 clear h
 replace H := Option.bind_eq_some_iff.mp H
 obtain ⟨⟨t233, t234⟩, A40, H⟩ := H
 replace H : (if t234 = 0 then (mend_Agree.l0 k t233 l2 (l2.length : Int) 0) else (some (false, t234))) = some (r1, r2) := H
 have A4 := Aside0.mk A40
 clear A40
 by_cases c5 : t234 = 0
 ·rw [if_pos c5] at H
  have c5b0 : (t234 == 0) = true := beq_iff_eq.mpr c5
  have c5b1 : (t234 != 0) = false := bne_eq_false_iff_eq.mpr c5
  clear c5
  have H' := Aside0.mk H
  clear H
  go_enter Tryd.func13, Tryd.ntmps13
  go_wp2_with (first | (go_at_call 27; (with_reducible refine (mend_all.calls k a0 a1 _ _ l2 t233 t234 _ ?side1 ?side2 A4.out).mono ?_); (case side1 => repeat (first | exact HR2.out | (with_reducible refine Kd.C_alloc ?_ _) | (with_reducible refine Kd.C_drewN ?_ _) | (with_reducible refine Kd.C_drew ?_))); (case side2 => exact HC2.out); rintro e w6 ⟨v235, rfl, ho0, hb⟩; have n0_ := Aside0.mk (Kd.R_lower ho0 (below_size (by repeat (first | (with_reducible first | exact HB.out | apply below_alloc | apply pw_below_drewN | apply below_drew1) | exact HB.out)))); have n1_ := Aside0.mk (below_step (by repeat (first | (with_reducible first | exact HB.out | apply below_alloc | apply pw_below_drewN | apply below_drew1) | exact HB.out)) hb); clear HB; have HO236 := n0_; have HB := n1_; clear n0_ n1_; (try clear hb); (try clear hb2); (try clear hk); (try clear hi); (try clear ho0)))
  repeat (go_quiet (first | (go_at_call 27; (with_reducible refine (mend_all.calls k a0 a1 _ _ l2 t233 t234 _ ?side1 ?side2 A4.out).mono ?_); (case side1 => repeat (first | exact HR2.out | (with_reducible refine Kd.C_alloc ?_ _) | (with_reducible refine Kd.C_drewN ?_ _) | (with_reducible refine Kd.C_drew ?_))); (case side2 => exact HC2.out); rintro e w6 ⟨v235, rfl, ho0, hb⟩; have n0_ := Aside0.mk (Kd.R_lower ho0 (below_size (by repeat (first | (with_reducible first | exact HB.out | apply below_alloc | apply pw_below_drewN | apply below_drew1) | exact HB.out)))); have n1_ := Aside0.mk (below_step (by repeat (first | (with_reducible first | exact HB.out | apply below_alloc | apply pw_below_drewN | apply below_drew1) | exact HB.out)) hb); clear HB; have HO236 := n0_; have HB := n1_; clear n0_ n1_; (try clear hb); (try clear hb2); (try clear hk); (try clear hi); (try clear ho0))); try go_wp2_with (first | (go_at_call 27; (with_reducible refine (mend_all.calls k a0 a1 _ _ l2 t233 t234 _ ?side1 ?side2 A4.out).mono ?_); (case side1 => repeat (first | exact HR2.out | (with_reducible refine Kd.C_alloc ?_ _) | (with_reducible refine Kd.C_drewN ?_ _) | (with_reducible refine Kd.C_drew ?_))); (case side2 => exact HC2.out); rintro e w6 ⟨v235, rfl, ho0, hb⟩; have n0_ := Aside0.mk (Kd.R_lower ho0 (below_size (by repeat (first | (with_reducible first | exact HB.out | apply below_alloc | apply pw_below_drewN | apply below_drew1) | exact HB.out)))); have n1_ := Aside0.mk (below_step (by repeat (first | (with_reducible first | exact HB.out | apply below_alloc | apply pw_below_drewN | apply below_drew1) | exact HB.out)) hb); clear HB; have HO236 := n0_; have HB := n1_; clear n0_ n1_; (try clear hb); (try clear hb2); (try clear hk); (try clear hi); (try clear ho0))))
  go_loopg [24] k (fun kq v24 w' => ∃ (x24_1 : Int), v24 = .int .i64 x24_1 ∧ Aside0 (mend_Agree.l0 kq t233 l2 (l2.length : Int) x24_1 = some (r1, r2)) ∧ Aside0 (kq ≤ k) ∧ Aside0 (Kd.R Kd.string 9 w' w.heap.size (fun _ => True) v235 t233) ∧ Aside0 (Below w.heap.size w w'))
  case atStart => exact ⟨(0), (by first | rfl | (simp; done) | (simp [*]; done)), H', ⟨Nat.le_refl _⟩, ⟨by (with_reducible repeat (first | apply Kd.R_alloc | apply Kd.R_drewN | apply Kd.R_drew)); exact HO236.out⟩, ⟨by repeat (first | (with_reducible first | exact HB.out | apply below_alloc | apply pw_below_drewN | apply below_drew1) | exact HB.out)⟩⟩
  case round =>
   clear H'
   try clear c1
   try clear c2
   try clear p2
   try clear c5
   try clear c5b0
   try clear c5b1
   obtain ⟨x24_1, rfl, HA, HK1, HO_8, HB⟩ := hrel
   cases gk with
   | zero => exact absurd HA.out (by simp [mend_Agree.l0])
   | succ k1 =>
    have H := HA.out
    clear HA
    simp only [mend_Agree.l0] at H
    by_cases c7 : x24_1 < (l2.length : Int)
    ·rw [if_pos c7] at H
     have c7b0 : decide (x24_1 < (l2.length : Int)) = true := decide_eq_true c7
     clear c7
     by_cases c8 : 0 ≤ x24_1
     ·rw [if_pos c8] at H
      have c8b0 : decide (0 ≤ x24_1) = true := decide_eq_true c8
      clear c8
      by_cases c9 : x24_1 < (l2.length : Int)
      ·rw [if_pos c9] at H
       have c9b0 : decide (x24_1 < (l2.length : Int)) = true := decide_eq_true c9
       clear c9
       by_cases c10 : 0 ≤ ((rd_T37 l2 x24_1).f0)
       ·rw [if_pos c10] at H
        have c10b0 : decide (0 ≤ ((rd_T37 l2 x24_1).f0)) = true := decide_eq_true c10
        clear c10
        by_cases c11 : ((rd_T37 l2 x24_1).f0) < (t233.length : Int)
        ·rw [if_pos c11] at H
         have c11b0 : decide (((rd_T37 l2 x24_1).f0) < (t233.length : Int)) = true := decide_eq_true c11
         clear c11
         by_cases c12 : (rdOf ByteArray.empty t233 ((rd_T37 l2 x24_1).f0)).toList = ((rd_T37 l2 x24_1).f1).toList
         ·rw [if_pos c12] at H
          have c12b0 : ((rdOf ByteArray.empty t233 ((rd_T37 l2 x24_1).f0)).toList == ((rd_T37 l2 x24_1).f1).toList) = true := beq_iff_eq.mpr c12
          have c12b1 : ((rdOf ByteArray.empty t233 ((rd_T37 l2 x24_1).f0)).toList != ((rd_T37 l2 x24_1).f1).toList) = false := bne_eq_false_iff_eq.mpr c12
          clear c12
          have H' := Aside0.mk H
          clear H
          have p237 : 0 ≤ (x24_1 : Int) := of_decide_eq_true (by first | (with_reducible assumption) | assumption)
          have q237 : x24_1 < (l2.length : Int) := of_decide_eq_true (by first | (with_reducible assumption) | assumption)
          obtain ⟨ad237, e237, hx237_0, hx237_1⟩ := at_T37 HR2.out x24_1 p237 q237
          cases e237
          replace hx237_0 := (HB.out.cell (World.block_lt_of_cell? w _ hx237_0)).trans hx237_0
          replace hx237_1 := (HB.out.cell (World.block_lt_of_cell? w _ hx237_1)).trans hx237_1
          replace p237 := eq_true p237
          replace q237 := eq_true q237
          go_wp2_with (first | ((with_reducible refine gate_dst (N := 11) rfl ?_); refine box_event ?hg (N := 11) ?hd (cs := #[.int .i64 0, .string (⟨#[]⟩ : ByteArray)]) (t := 37) ?hr ?_; (case hd => rfl); (case hg => rfl); (case hr => first | (go_simp; done) | (go_simp; rfl)); intro gb238 hg w13 hbox hb; have n0_ := Aside0.mk (Kd.R_below (by (with_reducible repeat (first | apply Kd.R_alloc | apply Kd.R_drewN | apply Kd.R_drew)); exact HO_8.out) hb); have n1_ := Aside0.mk (below_step (by repeat (first | (with_reducible first | exact HB.out | apply below_alloc | apply pw_below_drewN | apply below_drew1) | exact HB.out)) hb); have n2_ := Aside0.mk (hbox); have n3_ := Aside0.mk ((by rw [hg]; exact (below_size (by repeat (first | (with_reducible first | exact HB.out | apply below_alloc | apply pw_below_drewN | apply below_drew1) | exact HB.out))) : w.heap.size ≤ gb238)); have n4_ := Aside0.mk ((by rw [hg]; exact (below_size (by repeat (first | (with_reducible first | exact HB.out | apply below_alloc | apply pw_below_drewN | apply below_drew1) | exact HB.out))) : w.heap.size ≤ gb238)); clear HO_8; clear HB; have HO_8 := n0_; have HB := n1_; have BK238 := n2_; have GW238 := n3_; have GE238 := n4_; clear n0_ n1_ n2_ n3_ n4_; clear hb hbox hg; have hcz14_0 : w13.cell? ⟨gb238, 0, none⟩ = some (.int .i64 0) := (blk_cell BK238.out 0).trans rfl; have hcz14_1 : w13.cell? ⟨gb238, 1, none⟩ = some (.string (⟨#[]⟩ : ByteArray)) := (blk_cell BK238.out 1).trans rfl; have hfz14_0 := blk_frozen BK238.out 0; have hfz14_1 := blk_frozen BK238.out 1; obtain ⟨Ao15, co15, eo15⟩ := Kd.R_slice HO_8.out; subst eo15; have p239 : 0 ≤ (((rd_T37 l2 x24_1).f0) : Int) := of_decide_eq_true (by first | (with_reducible assumption) | assumption); have q239 : ((rd_T37 l2 x24_1).f0) < (t233.length : Int) := of_decide_eq_true (by first | (with_reducible assumption) | assumption); obtain ⟨ad239, e239, hx239_0⟩ := Kd.at_string (Kd.R_reads' HO_8.out).2.2 ((rd_T37 l2 x24_1).f0) p239 q239; cases e239; have hn239_0 : ad239.block ≠ gb238 := Kd.own_blk (Kd.R_ne HO_8.out BK238.out (by decide)); have hn239_1 : ad239.block ≠ gb238 := Kd.own_blk (Kd.R_ne HO_8.out BK238.out (by decide)); replace hx239_0 := (cell_far (p := ⟨gb238, 0, none⟩) (by first | (rw [add_block]; exact hn239_0) | (show (Addr.add _ _).block ≠ _; rw [add_block]; exact hn239_0) | exact hn239_0) (.int .i64 ((rd_T37 l2 x24_1).f0))).trans hx239_0; replace hx239_0 := (cell_far (p := ⟨gb238, 1, none⟩) (by first | (rw [add_block]; exact hn239_1) | (show (Addr.add _ _).block ≠ _; rw [add_block]; exact hn239_1) | exact hn239_1) (.string ((rd_T37 l2 x24_1).f1))).trans hx239_0; (try have hy239_0 := fun (n_ : Nat) => (show ((((w13.drewN n_).setCell ⟨gb238, 0, none⟩ (.int .i64 ((rd_T37 l2 x24_1).f0))).setCell ⟨gb238, 1, none⟩ (.string ((rd_T37 l2 x24_1).f1)))).cell? _ = some _ from hx239_0)); clear hn239_0; clear hn239_1; replace p239 := eq_true p239; replace q239 := eq_true q239))
          repeat (go_quiet (first | ((with_reducible refine gate_dst (N := 11) rfl ?_); refine box_event ?hg (N := 11) ?hd (cs := #[.int .i64 0, .string (⟨#[]⟩ : ByteArray)]) (t := 37) ?hr ?_; (case hd => rfl); (case hg => rfl); (case hr => first | (go_simp; done) | (go_simp; rfl)); intro gb238 hg w13 hbox hb; have n0_ := Aside0.mk (Kd.R_below (by (with_reducible repeat (first | apply Kd.R_alloc | apply Kd.R_drewN | apply Kd.R_drew)); exact HO_8.out) hb); have n1_ := Aside0.mk (below_step (by repeat (first | (with_reducible first | exact HB.out | apply below_alloc | apply pw_below_drewN | apply below_drew1) | exact HB.out)) hb); have n2_ := Aside0.mk (hbox); have n3_ := Aside0.mk ((by rw [hg]; exact (below_size (by repeat (first | (with_reducible first | exact HB.out | apply below_alloc | apply pw_below_drewN | apply below_drew1) | exact HB.out))) : w.heap.size ≤ gb238)); have n4_ := Aside0.mk ((by rw [hg]; exact (below_size (by repeat (first | (with_reducible first | exact HB.out | apply below_alloc | apply pw_below_drewN | apply below_drew1) | exact HB.out))) : w.heap.size ≤ gb238)); clear HO_8; clear HB; have HO_8 := n0_; have HB := n1_; have BK238 := n2_; have GW238 := n3_; have GE238 := n4_; clear n0_ n1_ n2_ n3_ n4_; clear hb hbox hg; have hcz14_0 : w13.cell? ⟨gb238, 0, none⟩ = some (.int .i64 0) := (blk_cell BK238.out 0).trans rfl; have hcz14_1 : w13.cell? ⟨gb238, 1, none⟩ = some (.string (⟨#[]⟩ : ByteArray)) := (blk_cell BK238.out 1).trans rfl; have hfz14_0 := blk_frozen BK238.out 0; have hfz14_1 := blk_frozen BK238.out 1; obtain ⟨Ao15, co15, eo15⟩ := Kd.R_slice HO_8.out; subst eo15; have p239 : 0 ≤ (((rd_T37 l2 x24_1).f0) : Int) := of_decide_eq_true (by first | (with_reducible assumption) | assumption); have q239 : ((rd_T37 l2 x24_1).f0) < (t233.length : Int) := of_decide_eq_true (by first | (with_reducible assumption) | assumption); obtain ⟨ad239, e239, hx239_0⟩ := Kd.at_string (Kd.R_reads' HO_8.out).2.2 ((rd_T37 l2 x24_1).f0) p239 q239; cases e239; have hn239_0 : ad239.block ≠ gb238 := Kd.own_blk (Kd.R_ne HO_8.out BK238.out (by decide)); have hn239_1 : ad239.block ≠ gb238 := Kd.own_blk (Kd.R_ne HO_8.out BK238.out (by decide)); replace hx239_0 := (cell_far (p := ⟨gb238, 0, none⟩) (by first | (rw [add_block]; exact hn239_0) | (show (Addr.add _ _).block ≠ _; rw [add_block]; exact hn239_0) | exact hn239_0) (.int .i64 ((rd_T37 l2 x24_1).f0))).trans hx239_0; replace hx239_0 := (cell_far (p := ⟨gb238, 1, none⟩) (by first | (rw [add_block]; exact hn239_1) | (show (Addr.add _ _).block ≠ _; rw [add_block]; exact hn239_1) | exact hn239_1) (.string ((rd_T37 l2 x24_1).f1))).trans hx239_0; (try have hy239_0 := fun (n_ : Nat) => (show ((((w13.drewN n_).setCell ⟨gb238, 0, none⟩ (.int .i64 ((rd_T37 l2 x24_1).f0))).setCell ⟨gb238, 1, none⟩ (.string ((rd_T37 l2 x24_1).f1)))).cell? _ = some _ from hx239_0)); clear hn239_0; clear hn239_1; replace p239 := eq_true p239; replace q239 := eq_true q239)); try go_wp2_with (first | ((with_reducible refine gate_dst (N := 11) rfl ?_); refine box_event ?hg (N := 11) ?hd (cs := #[.int .i64 0, .string (⟨#[]⟩ : ByteArray)]) (t := 37) ?hr ?_; (case hd => rfl); (case hg => rfl); (case hr => first | (go_simp; done) | (go_simp; rfl)); intro gb238 hg w13 hbox hb; have n0_ := Aside0.mk (Kd.R_below (by (with_reducible repeat (first | apply Kd.R_alloc | apply Kd.R_drewN | apply Kd.R_drew)); exact HO_8.out) hb); have n1_ := Aside0.mk (below_step (by repeat (first | (with_reducible first | exact HB.out | apply below_alloc | apply pw_below_drewN | apply below_drew1) | exact HB.out)) hb); have n2_ := Aside0.mk (hbox); have n3_ := Aside0.mk ((by rw [hg]; exact (below_size (by repeat (first | (with_reducible first | exact HB.out | apply below_alloc | apply pw_below_drewN | apply below_drew1) | exact HB.out))) : w.heap.size ≤ gb238)); have n4_ := Aside0.mk ((by rw [hg]; exact (below_size (by repeat (first | (with_reducible first | exact HB.out | apply below_alloc | apply pw_below_drewN | apply below_drew1) | exact HB.out))) : w.heap.size ≤ gb238)); clear HO_8; clear HB; have HO_8 := n0_; have HB := n1_; have BK238 := n2_; have GW238 := n3_; have GE238 := n4_; clear n0_ n1_ n2_ n3_ n4_; clear hb hbox hg; have hcz14_0 : w13.cell? ⟨gb238, 0, none⟩ = some (.int .i64 0) := (blk_cell BK238.out 0).trans rfl; have hcz14_1 : w13.cell? ⟨gb238, 1, none⟩ = some (.string (⟨#[]⟩ : ByteArray)) := (blk_cell BK238.out 1).trans rfl; have hfz14_0 := blk_frozen BK238.out 0; have hfz14_1 := blk_frozen BK238.out 1; obtain ⟨Ao15, co15, eo15⟩ := Kd.R_slice HO_8.out; subst eo15; have p239 : 0 ≤ (((rd_T37 l2 x24_1).f0) : Int) := of_decide_eq_true (by first | (with_reducible assumption) | assumption); have q239 : ((rd_T37 l2 x24_1).f0) < (t233.length : Int) := of_decide_eq_true (by first | (with_reducible assumption) | assumption); obtain ⟨ad239, e239, hx239_0⟩ := Kd.at_string (Kd.R_reads' HO_8.out).2.2 ((rd_T37 l2 x24_1).f0) p239 q239; cases e239; have hn239_0 : ad239.block ≠ gb238 := Kd.own_blk (Kd.R_ne HO_8.out BK238.out (by decide)); have hn239_1 : ad239.block ≠ gb238 := Kd.own_blk (Kd.R_ne HO_8.out BK238.out (by decide)); replace hx239_0 := (cell_far (p := ⟨gb238, 0, none⟩) (by first | (rw [add_block]; exact hn239_0) | (show (Addr.add _ _).block ≠ _; rw [add_block]; exact hn239_0) | exact hn239_0) (.int .i64 ((rd_T37 l2 x24_1).f0))).trans hx239_0; replace hx239_0 := (cell_far (p := ⟨gb238, 1, none⟩) (by first | (rw [add_block]; exact hn239_1) | (show (Addr.add _ _).block ≠ _; rw [add_block]; exact hn239_1) | exact hn239_1) (.string ((rd_T37 l2 x24_1).f1))).trans hx239_0; (try have hy239_0 := fun (n_ : Nat) => (show ((((w13.drewN n_).setCell ⟨gb238, 0, none⟩ (.int .i64 ((rd_T37 l2 x24_1).f0))).setCell ⟨gb238, 1, none⟩ (.string ((rd_T37 l2 x24_1).f1)))).cell? _ = some _ from hx239_0)); clear hn239_0; clear hn239_1; replace p239 := eq_true p239; replace q239 := eq_true q239)))
          go_roundg k1
          case measure => have := HK1.out; omega
          case rel => exact ⟨(wrap64 (x24_1 + 1)), (by first | rfl | (simp; done) | (simp [*]; done)), H', ⟨by have := HK1.out; omega⟩, ⟨by (with_reducible repeat (first | apply Kd.R_alloc | apply Kd.R_drewN | apply Kd.R_drew)); exact Kd.R_mono (Kd.R_far (p := ⟨gb238, 1, none⟩) (Kd.R_far (p := ⟨gb238, 0, none⟩) (Kd.R_types HO_8.out BK238.out (by decide)) (fun _ hk => hk.2) (.int .i64 ((rd_T37 l2 x24_1).f0))) (fun _ hk => hk.2) (.string ((rd_T37 l2 x24_1).f1))) (fun _ hk => trivial)⟩, ⟨by repeat (first | (with_reducible first | exact HB.out | apply below_alloc | apply pw_below_drewN | apply below_drew1 | refine below_set ?_ GE238.out) | exact HB.out)⟩⟩
         ·rw [if_neg c12] at H
          have c12b0 : ((rdOf ByteArray.empty t233 ((rd_T37 l2 x24_1).f0)).toList == ((rd_T37 l2 x24_1).f1).toList) = false := beq_eq_false_iff_ne.mpr c12
          have c12b1 : ((rdOf ByteArray.empty t233 ((rd_T37 l2 x24_1).f0)).toList != ((rd_T37 l2 x24_1).f1).toList) = true := bne_iff_ne.mpr c12
          simp only [Option.some.injEq, Prod.mk.injEq] at H
          obtain ⟨rfl, rfl⟩ := H
          have p237 : 0 ≤ (x24_1 : Int) := of_decide_eq_true (by first | (with_reducible assumption) | assumption)
          have q237 : x24_1 < (l2.length : Int) := of_decide_eq_true (by first | (with_reducible assumption) | assumption)
          obtain ⟨ad237, e237, hx237_0, hx237_1⟩ := at_T37 HR2.out x24_1 p237 q237
          cases e237
          replace hx237_0 := (HB.out.cell (World.block_lt_of_cell? w _ hx237_0)).trans hx237_0
          replace hx237_1 := (HB.out.cell (World.block_lt_of_cell? w _ hx237_1)).trans hx237_1
          replace p237 := eq_true p237
          replace q237 := eq_true q237
          go_wp2_with (first | ((with_reducible refine gate_dst (N := 11) rfl ?_); refine box_event ?hg (N := 11) ?hd (cs := #[.int .i64 0, .string (⟨#[]⟩ : ByteArray)]) (t := 37) ?hr ?_; (case hd => rfl); (case hg => rfl); (case hr => first | (go_simp; done) | (go_simp; rfl)); intro gb238 hg w16 hbox hb; have n0_ := Aside0.mk (Kd.R_below (by (with_reducible repeat (first | apply Kd.R_alloc | apply Kd.R_drewN | apply Kd.R_drew)); exact HO_8.out) hb); have n1_ := Aside0.mk (below_step (by repeat (first | (with_reducible first | exact HB.out | apply below_alloc | apply pw_below_drewN | apply below_drew1) | exact HB.out)) hb); have n2_ := Aside0.mk (hbox); have n3_ := Aside0.mk ((by rw [hg]; exact (below_size (by repeat (first | (with_reducible first | exact HB.out | apply below_alloc | apply pw_below_drewN | apply below_drew1) | exact HB.out))) : w.heap.size ≤ gb238)); have n4_ := Aside0.mk ((by rw [hg]; exact (below_size (by repeat (first | (with_reducible first | exact HB.out | apply below_alloc | apply pw_below_drewN | apply below_drew1) | exact HB.out))) : w.heap.size ≤ gb238)); clear HO_8; clear HB; have HO_8 := n0_; have HB := n1_; have BK238 := n2_; have GW238 := n3_; have GE238 := n4_; clear n0_ n1_ n2_ n3_ n4_; clear hb hbox hg; have hcz17_0 : w16.cell? ⟨gb238, 0, none⟩ = some (.int .i64 0) := (blk_cell BK238.out 0).trans rfl; have hcz17_1 : w16.cell? ⟨gb238, 1, none⟩ = some (.string (⟨#[]⟩ : ByteArray)) := (blk_cell BK238.out 1).trans rfl; have hfz17_0 := blk_frozen BK238.out 0; have hfz17_1 := blk_frozen BK238.out 1; obtain ⟨Ao18, co18, eo18⟩ := Kd.R_slice HO_8.out; subst eo18; have p239 : 0 ≤ (((rd_T37 l2 x24_1).f0) : Int) := of_decide_eq_true (by first | (with_reducible assumption) | assumption); have q239 : ((rd_T37 l2 x24_1).f0) < (t233.length : Int) := of_decide_eq_true (by first | (with_reducible assumption) | assumption); obtain ⟨ad239, e239, hx239_0⟩ := Kd.at_string (Kd.R_reads' HO_8.out).2.2 ((rd_T37 l2 x24_1).f0) p239 q239; cases e239; have hn239_0 : ad239.block ≠ gb238 := Kd.own_blk (Kd.R_ne HO_8.out BK238.out (by decide)); have hn239_1 : ad239.block ≠ gb238 := Kd.own_blk (Kd.R_ne HO_8.out BK238.out (by decide)); replace hx239_0 := (cell_far (p := ⟨gb238, 0, none⟩) (by first | (rw [add_block]; exact hn239_0) | (show (Addr.add _ _).block ≠ _; rw [add_block]; exact hn239_0) | exact hn239_0) (.int .i64 ((rd_T37 l2 x24_1).f0))).trans hx239_0; replace hx239_0 := (cell_far (p := ⟨gb238, 1, none⟩) (by first | (rw [add_block]; exact hn239_1) | (show (Addr.add _ _).block ≠ _; rw [add_block]; exact hn239_1) | exact hn239_1) (.string ((rd_T37 l2 x24_1).f1))).trans hx239_0; (try have hy239_0 := fun (n_ : Nat) => (show ((((w16.drewN n_).setCell ⟨gb238, 0, none⟩ (.int .i64 ((rd_T37 l2 x24_1).f0))).setCell ⟨gb238, 1, none⟩ (.string ((rd_T37 l2 x24_1).f1)))).cell? _ = some _ from hx239_0)); clear hn239_0; clear hn239_1; replace p239 := eq_true p239; replace q239 := eq_true q239))
          repeat (go_quiet (first | ((with_reducible refine gate_dst (N := 11) rfl ?_); refine box_event ?hg (N := 11) ?hd (cs := #[.int .i64 0, .string (⟨#[]⟩ : ByteArray)]) (t := 37) ?hr ?_; (case hd => rfl); (case hg => rfl); (case hr => first | (go_simp; done) | (go_simp; rfl)); intro gb238 hg w16 hbox hb; have n0_ := Aside0.mk (Kd.R_below (by (with_reducible repeat (first | apply Kd.R_alloc | apply Kd.R_drewN | apply Kd.R_drew)); exact HO_8.out) hb); have n1_ := Aside0.mk (below_step (by repeat (first | (with_reducible first | exact HB.out | apply below_alloc | apply pw_below_drewN | apply below_drew1) | exact HB.out)) hb); have n2_ := Aside0.mk (hbox); have n3_ := Aside0.mk ((by rw [hg]; exact (below_size (by repeat (first | (with_reducible first | exact HB.out | apply below_alloc | apply pw_below_drewN | apply below_drew1) | exact HB.out))) : w.heap.size ≤ gb238)); have n4_ := Aside0.mk ((by rw [hg]; exact (below_size (by repeat (first | (with_reducible first | exact HB.out | apply below_alloc | apply pw_below_drewN | apply below_drew1) | exact HB.out))) : w.heap.size ≤ gb238)); clear HO_8; clear HB; have HO_8 := n0_; have HB := n1_; have BK238 := n2_; have GW238 := n3_; have GE238 := n4_; clear n0_ n1_ n2_ n3_ n4_; clear hb hbox hg; have hcz17_0 : w16.cell? ⟨gb238, 0, none⟩ = some (.int .i64 0) := (blk_cell BK238.out 0).trans rfl; have hcz17_1 : w16.cell? ⟨gb238, 1, none⟩ = some (.string (⟨#[]⟩ : ByteArray)) := (blk_cell BK238.out 1).trans rfl; have hfz17_0 := blk_frozen BK238.out 0; have hfz17_1 := blk_frozen BK238.out 1; obtain ⟨Ao18, co18, eo18⟩ := Kd.R_slice HO_8.out; subst eo18; have p239 : 0 ≤ (((rd_T37 l2 x24_1).f0) : Int) := of_decide_eq_true (by first | (with_reducible assumption) | assumption); have q239 : ((rd_T37 l2 x24_1).f0) < (t233.length : Int) := of_decide_eq_true (by first | (with_reducible assumption) | assumption); obtain ⟨ad239, e239, hx239_0⟩ := Kd.at_string (Kd.R_reads' HO_8.out).2.2 ((rd_T37 l2 x24_1).f0) p239 q239; cases e239; have hn239_0 : ad239.block ≠ gb238 := Kd.own_blk (Kd.R_ne HO_8.out BK238.out (by decide)); have hn239_1 : ad239.block ≠ gb238 := Kd.own_blk (Kd.R_ne HO_8.out BK238.out (by decide)); replace hx239_0 := (cell_far (p := ⟨gb238, 0, none⟩) (by first | (rw [add_block]; exact hn239_0) | (show (Addr.add _ _).block ≠ _; rw [add_block]; exact hn239_0) | exact hn239_0) (.int .i64 ((rd_T37 l2 x24_1).f0))).trans hx239_0; replace hx239_0 := (cell_far (p := ⟨gb238, 1, none⟩) (by first | (rw [add_block]; exact hn239_1) | (show (Addr.add _ _).block ≠ _; rw [add_block]; exact hn239_1) | exact hn239_1) (.string ((rd_T37 l2 x24_1).f1))).trans hx239_0; (try have hy239_0 := fun (n_ : Nat) => (show ((((w16.drewN n_).setCell ⟨gb238, 0, none⟩ (.int .i64 ((rd_T37 l2 x24_1).f0))).setCell ⟨gb238, 1, none⟩ (.string ((rd_T37 l2 x24_1).f1)))).cell? _ = some _ from hx239_0)); clear hn239_0; clear hn239_1; replace p239 := eq_true p239; replace q239 := eq_true q239)); try go_wp2_with (first | ((with_reducible refine gate_dst (N := 11) rfl ?_); refine box_event ?hg (N := 11) ?hd (cs := #[.int .i64 0, .string (⟨#[]⟩ : ByteArray)]) (t := 37) ?hr ?_; (case hd => rfl); (case hg => rfl); (case hr => first | (go_simp; done) | (go_simp; rfl)); intro gb238 hg w16 hbox hb; have n0_ := Aside0.mk (Kd.R_below (by (with_reducible repeat (first | apply Kd.R_alloc | apply Kd.R_drewN | apply Kd.R_drew)); exact HO_8.out) hb); have n1_ := Aside0.mk (below_step (by repeat (first | (with_reducible first | exact HB.out | apply below_alloc | apply pw_below_drewN | apply below_drew1) | exact HB.out)) hb); have n2_ := Aside0.mk (hbox); have n3_ := Aside0.mk ((by rw [hg]; exact (below_size (by repeat (first | (with_reducible first | exact HB.out | apply below_alloc | apply pw_below_drewN | apply below_drew1) | exact HB.out))) : w.heap.size ≤ gb238)); have n4_ := Aside0.mk ((by rw [hg]; exact (below_size (by repeat (first | (with_reducible first | exact HB.out | apply below_alloc | apply pw_below_drewN | apply below_drew1) | exact HB.out))) : w.heap.size ≤ gb238)); clear HO_8; clear HB; have HO_8 := n0_; have HB := n1_; have BK238 := n2_; have GW238 := n3_; have GE238 := n4_; clear n0_ n1_ n2_ n3_ n4_; clear hb hbox hg; have hcz17_0 : w16.cell? ⟨gb238, 0, none⟩ = some (.int .i64 0) := (blk_cell BK238.out 0).trans rfl; have hcz17_1 : w16.cell? ⟨gb238, 1, none⟩ = some (.string (⟨#[]⟩ : ByteArray)) := (blk_cell BK238.out 1).trans rfl; have hfz17_0 := blk_frozen BK238.out 0; have hfz17_1 := blk_frozen BK238.out 1; obtain ⟨Ao18, co18, eo18⟩ := Kd.R_slice HO_8.out; subst eo18; have p239 : 0 ≤ (((rd_T37 l2 x24_1).f0) : Int) := of_decide_eq_true (by first | (with_reducible assumption) | assumption); have q239 : ((rd_T37 l2 x24_1).f0) < (t233.length : Int) := of_decide_eq_true (by first | (with_reducible assumption) | assumption); obtain ⟨ad239, e239, hx239_0⟩ := Kd.at_string (Kd.R_reads' HO_8.out).2.2 ((rd_T37 l2 x24_1).f0) p239 q239; cases e239; have hn239_0 : ad239.block ≠ gb238 := Kd.own_blk (Kd.R_ne HO_8.out BK238.out (by decide)); have hn239_1 : ad239.block ≠ gb238 := Kd.own_blk (Kd.R_ne HO_8.out BK238.out (by decide)); replace hx239_0 := (cell_far (p := ⟨gb238, 0, none⟩) (by first | (rw [add_block]; exact hn239_0) | (show (Addr.add _ _).block ≠ _; rw [add_block]; exact hn239_0) | exact hn239_0) (.int .i64 ((rd_T37 l2 x24_1).f0))).trans hx239_0; replace hx239_0 := (cell_far (p := ⟨gb238, 1, none⟩) (by first | (rw [add_block]; exact hn239_1) | (show (Addr.add _ _).block ≠ _; rw [add_block]; exact hn239_1) | exact hn239_1) (.string ((rd_T37 l2 x24_1).f1))).trans hx239_0; (try have hy239_0 := fun (n_ : Nat) => (show ((((w16.drewN n_).setCell ⟨gb238, 0, none⟩ (.int .i64 ((rd_T37 l2 x24_1).f0))).setCell ⟨gb238, 1, none⟩ (.string ((rd_T37 l2 x24_1).f1)))).cell? _ = some _ from hx239_0)); clear hn239_0; clear hn239_1; replace p239 := eq_true p239; replace q239 := eq_true q239)))
          go_ret2
          exact ⟨by first | rfl | (simp [errW_none, errW_some] <;> rfl) | (simp [*, errW_none, errW_some] <;> rfl), by repeat (first | (with_reducible first | exact HB.out | apply below_alloc | apply pw_below_drewN | apply below_drew1 | refine below_set ?_ GE238.out) | exact HB.out)⟩
        ·rw [if_neg c11] at H
         exact absurd H (by simp)
       ·rw [if_neg c10] at H
        exact absurd H (by simp)
      ·rw [if_neg c9] at H
       exact absurd H (by simp)
     ·rw [if_neg c8] at H
      exact absurd H (by simp)
    ·rw [if_neg c7] at H
     have c7b0 : decide (x24_1 < (l2.length : Int)) = false := decide_eq_false c7
     clear c7
     simp only [Option.some.injEq, Prod.mk.injEq] at H
     obtain ⟨rfl, rfl⟩ := H
     go_wp2
     repeat (go_quiet (fail); try go_wp2)
     go_ret2
     exact ⟨by first | rfl | (simp [errW_none, errW_some] <;> rfl) | (simp [*, errW_none, errW_some] <;> rfl), by repeat (first | (with_reducible first | exact HB.out | apply below_alloc | apply pw_below_drewN | apply below_drew1) | exact HB.out)⟩
 ·rw [if_neg c5] at H
  have c5b0 : (t234 == 0) = false := beq_eq_false_iff_ne.mpr c5
  have c5b1 : (t234 != 0) = true := bne_iff_ne.mpr c5
  simp only [Option.some.injEq, Prod.mk.injEq] at H
  obtain ⟨rfl, rfl⟩ := H
  go_enter Tryd.func13, Tryd.ntmps13
  go_wp2_with (first | (go_at_call 27; (with_reducible refine (mend_all.calls k a0 a1 _ _ l2 t233 t234 _ ?side1 ?side2 A4.out).mono ?_); (case side1 => repeat (first | exact HR2.out | (with_reducible refine Kd.C_alloc ?_ _) | (with_reducible refine Kd.C_drewN ?_ _) | (with_reducible refine Kd.C_drew ?_))); (case side2 => exact HC2.out); rintro e w19 ⟨v235, rfl, ho0, hb⟩; have n0_ := Aside0.mk (Kd.R_lower ho0 (below_size (by repeat (first | (with_reducible first | exact HB.out | apply below_alloc | apply pw_below_drewN | apply below_drew1) | exact HB.out)))); have n1_ := Aside0.mk (below_step (by repeat (first | (with_reducible first | exact HB.out | apply below_alloc | apply pw_below_drewN | apply below_drew1) | exact HB.out)) hb); clear HB; have HO236 := n0_; have HB := n1_; clear n0_ n1_; (try clear hb); (try clear hb2); (try clear hk); (try clear hi); (try clear ho0)))
  repeat (go_quiet (first | (go_at_call 27; (with_reducible refine (mend_all.calls k a0 a1 _ _ l2 t233 t234 _ ?side1 ?side2 A4.out).mono ?_); (case side1 => repeat (first | exact HR2.out | (with_reducible refine Kd.C_alloc ?_ _) | (with_reducible refine Kd.C_drewN ?_ _) | (with_reducible refine Kd.C_drew ?_))); (case side2 => exact HC2.out); rintro e w19 ⟨v235, rfl, ho0, hb⟩; have n0_ := Aside0.mk (Kd.R_lower ho0 (below_size (by repeat (first | (with_reducible first | exact HB.out | apply below_alloc | apply pw_below_drewN | apply below_drew1) | exact HB.out)))); have n1_ := Aside0.mk (below_step (by repeat (first | (with_reducible first | exact HB.out | apply below_alloc | apply pw_below_drewN | apply below_drew1) | exact HB.out)) hb); clear HB; have HO236 := n0_; have HB := n1_; clear n0_ n1_; (try clear hb); (try clear hb2); (try clear hk); (try clear hi); (try clear ho0))); try go_wp2_with (first | (go_at_call 27; (with_reducible refine (mend_all.calls k a0 a1 _ _ l2 t233 t234 _ ?side1 ?side2 A4.out).mono ?_); (case side1 => repeat (first | exact HR2.out | (with_reducible refine Kd.C_alloc ?_ _) | (with_reducible refine Kd.C_drewN ?_ _) | (with_reducible refine Kd.C_drew ?_))); (case side2 => exact HC2.out); rintro e w19 ⟨v235, rfl, ho0, hb⟩; have n0_ := Aside0.mk (Kd.R_lower ho0 (below_size (by repeat (first | (with_reducible first | exact HB.out | apply below_alloc | apply pw_below_drewN | apply below_drew1) | exact HB.out)))); have n1_ := Aside0.mk (below_step (by repeat (first | (with_reducible first | exact HB.out | apply below_alloc | apply pw_below_drewN | apply below_drew1) | exact HB.out)) hb); clear HB; have HO236 := n0_; have HB := n1_; clear n0_ n1_; (try clear hb); (try clear hb2); (try clear hk); (try clear hi); (try clear ho0))))
  go_ret2
  exact ⟨by first | rfl | (simp [errW_none, errW_some] <;> rfl) | (simp [*, errW_none, errW_some] <;> rfl), by repeat (first | (with_reducible first | exact HB.out | apply below_alloc | apply pw_below_drewN | apply below_drew1) | exact HB.out)⟩

end Go.Proofs.YtpmnhlbkgeiomaaDoor.PS
namespace Go.Proofs.YtpmnhlbkgeiomaaDoor.PS
open Go.RowKit Go.Proofs.YtpmnhlbkgeiomaaDoorW.PrintWords Go.Proofs.YtpmnhlbkgeiomaaDoorW.PrintLast Go.Proofs.YtpmnhlbkgeiomaaDoorW.PrintMore Go.Proofs.YtpmnhlbkgeiomaaDoor.Gf Go.Proofs.YtpmnhlbkgeiomaaDoor.Fld Go.Proofs.YtpmnhlbkgeiomaaDoor.Grd Go.Proofs.YtpmnhlbkgeiomaaDoor.Rowb
set_option linter.unusedVariables false
set_option linter.unusedSimpArgs false
def agGo (L : List ByteArray) (l : List S37) : Nat → Nat → Bool
  | 0, _ => true
  | d + 1, i => if (rdOf ByteArray.empty L (rd_T37 l (i : Int)).f0).toList = (rd_T37 l (i : Int)).f1.toList then agGo L l d (i + 1) else false
def agreeB (L : List ByteArray) (l : List S37) : Bool := agGo L l l.length 0
section
variable {K M : Nat} {l : List S37} (g : Good K M l)
include g
theorem Good.agree_from (hl : l.length < 9223372036854775807) (d : Nat) : ∀ i, i + d = l.length → ∀ k, d + 1 ≤ k → mend_Agree.l0 k (allL K M (shardN l) (dataL K M l)) l (l.length : Int) (i : Int) = some (agGo (allL K M (shardN l) (dataL K M l)) l d i, 0) := by
  have hal : (allL K M (shardN l) (dataL K M l)).length = K + M := allL_len g.dataLen
  induction d with
  | zero =>
    intro i hi k hk
    obtain ⟨m, rfl, _⟩ := pred_of (K := 0) hk
    simp only [mend_Agree.l0]
    rw [if_neg (by omega)]
    rfl
  | succ d ih =>
    intro i hi k hk
    obtain ⟨m, rfl, hm⟩ := pred_of hk
    have hil : i < l.length := by omega
    have hr := g.rng i hil
    simp only [mend_Agree.l0]
    unfold agGo
    rw [rdT_nat l i hil, if_pos (by omega), if_pos (by omega), if_pos (by omega), if_pos hr.1, if_pos (by rw [hal]; push_cast; exact hr.2)]
    by_cases e : (rdOf ByteArray.empty (allL K M (shardN l) (dataL K M l)) l[i].f0).toList = l[i].f1.toList
    · rw [if_pos e, if_pos e, w64_in ((i : Int) + 1) (by omega) (by omega)]
      exact ih (i + 1) (by omega) m hm
    · rw [if_neg e, if_neg e]
theorem Good.agree_f (n : Nat) (hn : l.length + 256 ≤ n) (hl : l.length < 9223372036854775807) : mend_Agree.f n (K : Int) (M : Int) l = some (agreeB (allL K M (shardN l) (dataL K M l)) l, 0) := by
  unfold mend_Agree.f
  rw [g.all_f n (by omega), Option.bind_some, if_pos rfl]
  exact g.agree_from hl l.length 0 (by omega) n (by omega)
end
end Go.Proofs.YtpmnhlbkgeiomaaDoor.PS
