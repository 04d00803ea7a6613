/- Rows of bytes one behind the other: a grid in memory; one, and the matrix of a grid. -/
import Derived.Test.YtegmmefijihdeaaDoorHRowb
import Derived.Test.YtegmmefijihdeaaDoorHField
import Derived.Test.YtegmmefijihdeaaDoorHShelf
import Derived.Deep.RegionLaw
namespace Go.Proofs.YtegmmefijihdeaaDoor.Grd
open Go.RowKit Go.Proofs.YtegmmefijihdeaaDoorW.PrintWords Go.Proofs.YtegmmefijihdeaaDoorW.PrintLast Go.Proofs.YtegmmefijihdeaaDoorW.PrintMore Go.Proofs.YtegmmefijihdeaaDoor.Gf Go.Proofs.YtegmmefijihdeaaDoor.Rowb Go.Proofs.YtegmmefijihdeaaDoor.Fld
open Go.Lib (byteCells byteCells_length)
set_option linter.unusedVariables false
set_option linter.unusedSimpArgs false
def rowV (p : Nat × Nat) (l : List UInt8) : Value := .slice (some ⟨p.1, 0, none⟩) l.length p.2
/-- A grid: the rows' blocks (and room) ps, its rows L. -/
structure GridAt (w : World) (base : Nat) (v : Value) (ps : List (Nat × Nat)) (L : Grid) : Prop where
  outer : w.ownsRow base 60 1 v L.length (List.zipWith rowV ps L)
  len : ps.length = L.length
  row : ∀ (i : Nat) (p : Nat × Nat) (l : List UInt8), ps[i]? = some p → L[i]? = some l → base ≤ p.1 ∧ l.length ≤ p.2 ∧ RowS w p.1 l
  nodup : (ps.map (·.1)).Nodup
theorem own_block_type {w : World} {base : Nat} {e t : TypeId} {size n g : Nat} {v : Value} {xs : List Value} (h : w.ownsRow base e size v n xs) {cs : Array Value} (hg : w.heap[g]? = some (.cells cs t (0, 0))) (hne : e ≠ t) : some g ≠ v.ownBlock := own_ne h hg hne
theorem row_ne_own {w : World} {base n g : Nat} {l : List UInt8} {v : Value} {xs : List Value} (h : RowS w g l) (ho : w.ownsRow base 60 1 v n xs) : some g ≠ v.ownBlock := by
  obtain ⟨sp, fr, h, _⟩ := h
  rcases ho.2 with ⟨rfl, _⟩ | ⟨g', cap, cur, rfl, _, hh, _⟩
  · simp [Value.ownBlock]
  · intro e
    have e' : g = g' := by injection e
    subst e'
    rw [h] at hh
    injection hh with hh
    injection hh with _ hh _
    exact absurd hh (by decide)
theorem GridAt.below {w w' : World} {base : Nat} {v : Value} {ps : List (Nat × Nat)} {L : Grid} (h : GridAt w base v ps L) (hb : Below w.heap.size w w') : GridAt w' base v ps L :=
  ⟨pw_own_below h.outer hb, h.len, fun i p l h1 h2 => ⟨(h.row i p l h1 h2).1, (h.row i p l h1 h2).2.1, (h.row i p l h1 h2).2.2.below hb⟩, h.nodup⟩
theorem GridAt.lower {w : World} {base base' : Nat} {v : Value} {ps : List (Nat × Nat)} {L : Grid} (h : GridAt w base v ps L) (hb : base' ≤ base) : GridAt w base' v ps L :=
  ⟨⟨h.outer.1, h.outer.2.imp_right (fun ⟨g, cap, cur, h1, h2, h3⟩ => ⟨g, cap, cur, h1, Nat.le_trans hb h2, h3⟩)⟩, h.len, fun i p l h1 h2 => ⟨Nat.le_trans hb (h.row i p l h1 h2).1, (h.row i p l h1 h2).2⟩, h.nodup⟩
theorem zip_row {ps : List (Nat × Nat)} {L : Grid} (hl : ps.length = L.length) (i : Nat) (hi : i < L.length) : (List.zipWith rowV ps L)[i]? = some (rowV (ps[i]'(by omega)) L[i]) := by
  rw [List.getElem?_zipWith, List.getElem?_eq_getElem (by omega), List.getElem?_eq_getElem hi]
/-! one -/
def unitRow (n i : Nat) : List UInt8 := (List.range n).map fun j => if i = j then 1 else 0
theorem unit_set (n i : Nat) (hi : i < n) : (zeros n).set i 1 = unitRow n i := by
  apply List.ext_getElem
  · simp [zeros, unitRow]
  · intro j h1 h2
    rw [List.getElem_set]
    simp [zeros, unitRow]
theorem one_eq (n : Nat) : oneG n = (List.range n).map (unitRow n) := rfl
def nilV : Value := .slice none 0 0
/-- The outer row behind i rounds. -/
def oneOuter (b n i : Nat) : Array Value := ((List.range n).map fun j => if j < i then .slice (some ⟨b + 1 + j, 0, none⟩) n n else nilV).toArray
theorem oneOuter_at (b n i j : Nat) (hj : j < n) : (oneOuter b n i)[j]? = some (if j < i then .slice (some ⟨b + 1 + j, 0, none⟩) n n else nilV) := by
  unfold oneOuter
  rw [List.getElem?_toArray]
  simp [hj]
theorem oneOuter_step (b n i : Nat) (hi : i < n) : (oneOuter b n i).setIfInBounds i (.slice (some ⟨b + 1 + i, 0, none⟩) n n) = oneOuter b n (i + 1) := by
  apply Array.ext_getElem?
  intro j
  by_cases hj : j < n
  · rw [Array.getElem?_setIfInBounds, oneOuter_at b n i j hj, oneOuter_at b n (i + 1) j hj]
    by_cases e : i = j
    · subst e
      rw [if_pos rfl, if_pos (by unfold oneOuter; simpa using hi), if_pos (by omega)]
    · rw [if_neg e]
      by_cases h : j < i
      · rw [if_pos h, if_pos (by omega)]
      · rw [if_neg h, if_neg (by omega)]
  · rw [Array.getElem?_eq_none (by simp [oneOuter]; omega), Array.getElem?_eq_none (by simp [oneOuter]; omega)]
theorem info_row : (Tryd.prog.info? 60).map (fun i => (i.zero, i.size, i.bytes)) = some (some (.slice none 0 0), 1, 24) := by kernel_rfl
theorem run_make_rows (n : Nat) (hn : n ≤ 255) (b : Nat) (w : World) : (Instr.makeSlice 108 (.int .i64 (n : Int)) (.int .i64 (n : Int))).run Tryd.prog w = .ok (.slice (some ⟨w.heap.size, 0, none⟩) n n) (w.alloc (.cells (oneOuter b n 0) 60)) := by
  have := run_make_row' (P := Tryd.prog) 108 60 (.slice none 0 0) 24 Tryd.underlying108 info_row rfl .i64 .i64 n (by omega) (by omega) w
  have e : madeCells #[(Value.slice none 0 0)] n = oneOuter b n 0 := by
    apply Array.ext_getElem?
    intro j
    by_cases hj : j < n
    · rw [oneOuter_at b n 0 j hj, if_neg (by omega)]
      simp [madeCells, hj, Nat.mod_one, nilV]
    · rw [Array.getElem?_eq_none (by simp [madeCells]; omega), Array.getElem?_eq_none (by simp [oneOuter]; omega)]
  rw [e] at this
  exact this
theorem one_grid {W : World} {b n : Nat} (hn : n ≤ 255) (hb : W.heap[b]? = some (.cells (oneOuter b n n) 60 (0, 0))) (hr : ∀ j, j < n → RowB W (b + 1 + j) (unitRow n j)) :
    GridAt W b (.slice (some ⟨b, 0, none⟩) n n) ((List.range n).map fun j => (b + 1 + j, n)) (oneG n) := by
  have hlen : (oneG n).length = n := by simp [oneG]
  refine ⟨⟨by simp [hlen], .inr ⟨b, n, _, by rw [hlen], Nat.le_refl _, hb, by omega, by unfold maxLen; omega, by simp [oneOuter], ?_⟩⟩, by simp [oneG], fun i p l h1 h2 => ?_, ?_⟩
  · apply List.ext_getElem?
    intro j
    unfold oneOuter oneG
    rw [List.getElem?_zipWith]
    by_cases hj : j < n
    · simp [hj, rowV]
    · simp [hj]
  · have hi : i < n := by
      have := (List.getElem?_eq_some_iff.1 h2).1
      omega
    simp [hi] at h1
    simp [oneG, hi] at h2
    subst h1 h2
    exact ⟨by simp; omega, by simp, RowS.of (hr i hi)⟩
  · rw [List.map_map]
    refine nodup_map_of (fun a _ c _ e => ?_) (nodup_range n)
    simp at e
    exact e
def IsOne (n : Nat) (w : World) (e : Ending) (w' : World) : Prop := ∃ v ps, e = .returned v ∧ GridAt w' w.heap.size v ps (oneG n) ∧ (∀ p : Nat × Nat, p ∈ ps → p.2 = n) ∧ Below w.heap.size w w'
set_option maxRecDepth 100000 in
set_option maxHeartbeats 1000000 in
theorem one_walk (w : World) (n : Nat) (hn : n ≤ 255) : Calls Tryd.prog 80 #[.int .i64 (n : Int)] w (IsOne n w) := by
  have hmk := run_make_rows n hn w.heap.size
  have hmb := run_make_bytes n (by omega)
  go_enter Tryd.func80, Tryd.ntmps80
  go_wp2
  go_loopw [4, 9] (fun x i W => ∃ k : Nat, k ≤ n ∧ i = .int .i64 (k : Int) ∧ W.heap.size = w.heap.size + 1 + k ∧ W.heap[w.heap.size]? = some (.cells (oneOuter w.heap.size n k) 60 (0, 0)) ∧ (∀ j, j < k → RowB W (w.heap.size + 1 + j) (unitRow n j)) ∧ Below w.heap.size w W) (fun _ i _ => n - (intOf i).toNat)
  case atStart => exact ⟨0, by omega, rfl, by simp, blk_new _ _, fun j hj => by omega, (Below.refl _ _).alloc (Nat.le_refl _) _⟩
  case round =>
    obtain ⟨k, hk, rfl, hs, hb, hr, hB⟩ := hrel
    by_cases hlt : k < n
    · obtain ⟨W1, hW1⟩ : ∃ W1, W1 = wr.alloc (.cells (byteCells (zeros n)).toArray 5) := ⟨_, rfl⟩
      have hz : W1.heap.size = w.heap.size + 1 + (k + 1) := by rw [hW1]; simp; omega
      have hb1 : W1.heap[w.heap.size]? = some (.cells (oneOuter w.heap.size n k) 60 (0, 0)) := by rw [hW1]; exact blk_alloc hb _
      have hn1 : RowB W1 (w.heap.size + 1 + k) (zeros n) := by rw [hW1, ← hs]; exact blk_new _ _
      have hr1 : ∀ j, j < k → RowB W1 (w.heap.size + 1 + j) (unitRow n j) := fun j hj => by rw [hW1]; exact blk_alloc (hr j hj) _
      have hB1 : Below w.heap.size w W1 := by rw [hW1]; exact hB.alloc (by omega) _
      have hmk1 : (Instr.makeSlice 60 (.int .i64 (n : Int)) (.int .i64 (n : Int))).run Tryd.prog wr = .ok (.slice (some ⟨w.heap.size + 1 + k, 0, none⟩) n n) W1 := by rw [hmb, hW1, hs]
      have c0 : W1.cell? ⟨w.heap.size, k, none⟩ = some nilV := (blk_cell hb1 k).trans (by rw [oneOuter_at _ _ _ _ hlt, if_neg (by omega)])
      have f0 := blk_frozen hb1 k
      have c1 := hn1.cell k (by rw [zeros_len]; exact hlt)
      have f1 := hn1.frozen k
      have HN := Aside0.mk (And.intro hn1 (And.intro hr1 (And.intro hb1 (And.intro hB1 hz))))
      clear hW1 hmk hmb hb hr hB hn1 hr1 hb1 hB1 hs hz
      go_wp2
      obtain ⟨hn1, hr1, hb1, hB1, hz⟩ := HN.out
      have hb2 : ((W1.setCell ⟨w.heap.size, k, none⟩ (.slice (some ⟨w.heap.size + 1 + k, 0, none⟩) n n)).setCell ⟨w.heap.size + 1 + k, k, none⟩ (.int .u8 1)).heap[w.heap.size]? = some (.cells (oneOuter w.heap.size n (k + 1)) 60 (0, 0)) :=
        blk_far (blk_put hb1 k _ (oneOuter_step _ _ _ hlt)) (by show w.heap.size ≠ w.heap.size + 1 + k; omega) _
      have hrow : ∀ j, j < k + 1 → RowB ((W1.setCell ⟨w.heap.size, k, none⟩ (.slice (some ⟨w.heap.size + 1 + k, 0, none⟩) n n)).setCell ⟨w.heap.size + 1 + k, k, none⟩ (.int .u8 1)) (w.heap.size + 1 + j) (unitRow n j) := by
        intro j hj
        by_cases e : j = k
        · subst e
          rw [← unit_set n j hlt]
          exact (hn1.far (p := ⟨w.heap.size, j, none⟩) (by show w.heap.size + 1 + j ≠ w.heap.size; omega) _).put j 1
        · exact ((hr1 j (by omega)).far (p := ⟨w.heap.size, k, none⟩) (by show w.heap.size + 1 + j ≠ w.heap.size; omega) _).far (by show w.heap.size + 1 + j ≠ w.heap.size + 1 + k; omega) _
      have hB2 : Below w.heap.size w ((W1.setCell ⟨w.heap.size, k, none⟩ (.slice (some ⟨w.heap.size + 1 + k, 0, none⟩) n n)).setCell ⟨w.heap.size + 1 + k, k, none⟩ (.int .u8 1)) :=
        (hB1.setCell (Nat.le_refl _) _).setCell (by show w.heap.size ≤ w.heap.size + 1 + k; omega) _
      go_roundw
      case rel => exact ⟨k + 1, by omega, by go_num, by simp; omega, hb2, hrow, hB2⟩
      case measure => simp [intOf]; omega
    · obtain rfl : k = n := by omega
      have HG := Aside0.mk (one_grid hn hb hr)
      have HB := Aside0.mk hB
      clear hb hr hB hmk hmb
      go_wp2
      go_ret
      exact ⟨_, _, rfl, HG.out, fun p hp => by obtain ⟨j, _, rfl⟩ := List.mem_map.1 hp; rfl, HB.out⟩
/-! The matrix of a grid. -/
theorem GridAt.form {w : World} {base : Nat} {v : Value} {ps : List (Nat × Nat)} {L : Grid} (h : GridAt w base v ps L) (hp : 0 < L.length) :
    ∃ g cap cur, v = .slice (some ⟨g, 0, none⟩) L.length cap ∧ base ≤ g ∧ w.heap[g]? = some (.cells cur 60 (0, 0)) ∧ L.length ≤ cap ∧ ∀ i (hi : i < L.length), w.cell? ⟨g, i, none⟩ = some (rowV (ps[i]'(by have := h.len; omega)) L[i]) := by
  rcases h.outer.2 with ⟨_, h0⟩ | ⟨g, cap, cur, hv, hb, hh, hn, hc, hs, ht⟩
  · omega
  · refine ⟨g, cap, cur, hv, hb, hh, hn, fun i hi => ?_⟩
    have h1 := zip_row h.len i hi
    rw [← ht, List.getElem?_take] at h1
    rw [if_pos (by omega)] at h1
    rw [blk_cell hh i, ← Array.getElem?_toList]
    exact h1
theorem lens_same {c : Nat} : ∀ L : Grid, (∀ r, r ∈ L → r.length = c) → Lib.lens L = L.length * c
  | [], _ => by simp [Lib.lens]
  | r :: L, h => by
    have ih := lens_same L (fun x hx => h x (List.mem_cons_of_mem _ hx))
    have h1 := h r List.mem_cons_self
    unfold Lib.lens at ih ⊢
    rw [List.map_cons, List.sum_cons, ih, h1, List.length_cons, Nat.succ_mul, Nat.add_comm]
theorem join_flat (L : Grid) : Lib.join L [] = L.flatten := by
  cases L with
  | nil => rfl
  | cons x r =>
    rw [Lib.join_cons]
    unfold Lib.joinTail
    simp
theorem add_off (b i : Nat) : (⟨b, 0, none⟩ : Addr).add i = ⟨b, i, none⟩ := by unfold Addr.add; split <;> simp_all
def Joined (W : World) (L : Grid) (e : Ending) (w' : World) : Prop := ∃ v', e = .returned v' ∧ (convert 60 9 v').run Tryd.prog w' = .ok (.string ⟨L.flatten.toArray⟩) w' ∧ Below W.heap.size W w'
theorem fresh_text {B : Nat} {w' : World} {v' : Value} {l : List UInt8} (h : Lib.FreshBytes B w' v' l) : (convert 60 9 v').run Tryd.prog w' = .ok (.string ⟨l.toArray⟩) w' := by
  obtain ⟨g, cap, zs, rfl, _, hc, _, hz, hb, hl, hcell, _⟩ := h
  refine run_convert_bytes_back (P := Tryd.prog) w' 60 9 5 ⟨g, 0, none⟩ cap l Tryd.underlying60 Tryd.underlying5 Tryd.underlying9 (fun j hj => ?_)
  rw [add_off, hcell j (by omega)]
  have hj' : j < zs.length := by omega
  have : l[j] = UInt8.ofNat (zs[j]).toNat := by
    have e : l[j]? = some (UInt8.ofNat (zs[j]).toNat) := by
      rw [← hl]
      unfold Lib.bytesOf
      rw [List.getElem?_map, List.getElem?_take, if_pos hj, List.getElem?_eq_getElem hj']
      rfl
    rw [List.getElem?_eq_getElem hj] at e
    injection e
  have hr := hb zs[j] (List.getElem_mem hj')
  rw [this, UInt8.toNat_ofNat', Nat.mod_eq_of_lt (by omega)]
  rw [List.getD_eq_getElem?_getD, List.getElem?_eq_getElem hj']
  simp only [Option.getD_some]
  congr 2
  omega
theorem join_grid {W : World} {base g cap c : Nat} {ps : List (Nat × Nat)} {L : Grid} (h : GridAt W base (.slice (some ⟨g, 0, none⟩) L.length cap) ps L) (hr : ∀ r, r ∈ L → r.length = c) (hc0 : 0 < c) (hc : c ≤ 255) (h1 : 1 ≤ L.length) (h2 : L.length ≤ 255) :
    Calls Tryd.prog 104 #[.slice (some ⟨g, 0, none⟩) L.length cap, .slice none 0 0] W (Joined W L) := by
  obtain ⟨g', cap', cur, hv, _, _, hle, hcell⟩ := h.form h1
  injection hv with hv1 _ hv2
  injection hv1 with hv1
  injection hv1 with hv1
  subst hv1 hv2
  have hrow := fun i (hi : i < L.length) => h.row i _ _ (List.getElem?_eq_getElem (by have := h.len; omega)) (List.getElem?_eq_getElem hi)
  by_cases e : L.length = 1
  · obtain ⟨l, rfl⟩ := List.length_eq_one_iff.1 e
    have hl := hr l List.mem_cons_self
    have hb := hrow 0 (by simp)
    have := Tryd.bytes_Join_one g 0 cap ⟨(ps[0]'(by have := h.len; simp at this; omega)).1, 0, none⟩ (ps[0]'(by have := h.len; simp at this; omega)).2 l (.slice none 0 0) W (hcell 0 (by simp)) (fun i x hx => by
      obtain ⟨hi, rfl⟩ := List.getElem?_eq_some_iff.1 hx
      rw [add_off]
      exact hb.2.2.cell i hi) (by omega) (by omega)
    exact this.mono fun e w' ⟨v', he, hf, hB⟩ => ⟨v', he, by simpa using fresh_text hf, hB⟩
  · have := Tryd.bytes_Join_many g 0 L.length cap (List.zipWith rowV ps L) L (.slice none 0 0) [] W rfl (by omega) ⟨by rw [List.length_zipWith, h.len, Nat.min_self], fun i v hi => by
        have hlt : i < L.length := by
          have := (List.getElem?_eq_some_iff.1 hi).1
          rw [List.length_zipWith, h.len, Nat.min_self] at this
          exact this
        rw [zip_row h.len i hlt] at hi
        injection hi with hi
        subst hi
        rw [add_off]
        exact hcell i hlt, fun i v l hi hl => by
        have hlt := (List.getElem?_eq_some_iff.1 hl).1
        rw [zip_row h.len i hlt] at hi
        injection hi with hi
        subst hi
        obtain ⟨_, rfl⟩ := List.getElem?_eq_some_iff.1 hl
        exact ⟨_, _, rfl, (fun h => by cases h), fun a ha j x hx => by
          injection ha with ha
          subst ha
          obtain ⟨hj, rfl⟩ := List.getElem?_eq_some_iff.1 hx
          rw [add_off]
          exact (hrow i hlt).2.2.cell j hj⟩⟩ hle ⟨none, 0, rfl, fun _ => rfl, fun a ha => by cases ha⟩ (by omega) (by
        rw [lens_same L hr]
        have := Nat.mul_le_mul h2 hc
        simp
        omega)
    rw [join_flat] at this
    exact this.mono fun e w' ⟨v', he, hf, hB⟩ => ⟨v', he, fresh_text hf, hB⟩
def matV (r c : Nat) (s : List UInt8) : Value := .agg #[.int .i64 (r : Int), .int .i64 (c : Int), .string ⟨s.toArray⟩]
set_option maxRecDepth 100000 in
set_option maxHeartbeats 1000000 in
theorem matrix_walk {w : World} {base c : Nat} {v : Value} {ps : List (Nat × Nat)} {L : Grid} (h : GridAt w base v ps L) (hr : ∀ r, r ∈ L → r.length = c) (hc0 : 0 < c) (hc : c ≤ 255) (h1 : 1 ≤ L.length) (h2 : L.length ≤ 255) :
    Calls Tryd.prog 82 #[v] w fun e w' => e = .returned (matV L.length c L.flatten) ∧ Below w.heap.size w w' := by
  obtain ⟨g, cap, cur, rfl, hbg, hh, hle, hcell⟩ := h.form h1
  have c0 := hcell 0 h1
  have hl0 : L[0].length = c := hr _ (List.getElem_mem h1)
  unfold rowV at c0
  rw [hl0] at c0
  have HJ : Aside0 (∀ W, Below w.heap.size w W → Calls Tryd.prog 104 #[.slice (some ⟨g, 0, none⟩) L.length cap, .slice none 0 0] W (Joined W L)) := ⟨fun W hB => join_grid (h.below hB) hr hc0 hc h1 h2⟩
  have hlt : g < w.heap.size := blk_lt hh
  generalize (ps[0]'(by have := h.len; omega)) = p0 at *
  clear hcell hr hh hbg h hl0
  generalize L.length = n at *
  obtain ⟨b1, b2⟩ := p0
  go_enter Tryd.func82, Tryd.ntmps82
  go_wp2
  have hb0 : (w.alloc (.cells #[.int .i64 0, .int .i64 0, .string ⟨#[]⟩] 74)).drew.heap[w.heap.size]? = some (.cells #[.int .i64 0, .int .i64 0, .string ⟨#[]⟩] 74 (0, 0)) := blk_new _ _
  have s0 : (w.alloc (.cells #[.int .i64 0, .int .i64 0, .string ⟨#[]⟩] 74)).drew.cell? ⟨g, 0, none⟩ = some (.slice (some ⟨b1, 0, none⟩) c b2) := ((below_drew1 ((Below.refl _ _).alloc (Nat.le_refl _) _) : Below w.heap.size w _).cell (p := ⟨g, 0, none⟩) hlt).trans c0
  have HB0 : Aside0 (Below w.heap.size w (w.alloc (.cells #[.int .i64 0, .int .i64 0, .string ⟨#[]⟩] 74)).drew) := ⟨below_drew1 ((Below.refl _ _).alloc (Nat.le_refl _) _)⟩
  have HC0 := Aside0.mk hb0
  clear hb0
  have i1 : (0 : Int) < (n : Int) := by omega
  have i2 : 0 < n := h1
  have hne := World.new_ne w ⟨g, 0, none⟩ c0
  go_region_law (first
    | (go_simp; go_at_call 104; refine (HJ.out _ HB0.out).mono ?_; rintro e w1 ⟨v', rfl, hconv, hb1⟩; have HB1 : Aside0 (Below w.heap.size w w1) := ⟨HB0.out.trans (hb1.mono HB0.out.size)⟩; have HC1 := Aside0.mk (blk_below HC0.out hb1); have s1 := (hb1.cell (p := ⟨g, 0, none⟩) (World.block_lt_of_cell? _ _ s0)).trans s0; have d0 := blk_cell HC1.out 0; have d1 := blk_cell HC1.out 1; have d2 := blk_cell HC1.out 2; have f0 := blk_frozen HC1.out 0; have f1 := blk_frozen HC1.out 1; have f2 := blk_frozen HC1.out 2; clear hb1))
  go_wp2
  all_goals
    refine bodyPost_ret (results_cell_row rfl _ _ w.heap.size 74 _ (0, 0) _ rfl (blk_put (blk_put (blk_put HC1.out 0 _ rfl) 1 _ rfl) 2 _ rfl) Tryd.underlying74 rfl (by kernel_rfl)) rfl ?_
    exact ⟨rfl, ((HB1.out.setCell (Nat.le_refl _) _).setCell (Nat.le_refl _) _).setCell (Nat.le_refl _) _⟩
end Go.Proofs.YtegmmefijihdeaaDoor.Grd
