/- The document's device: rows of texts; None, burns, Fuse, Read, Write, Dirty. -/
import Derived.Test.YteibcojjbcihbaaHFuses
namespace Go.Proofs.Yteibcojjbcihbaa.Sec
open Go.RowKit Go.Proofs.YteibcojjbcihbaaW.PrintWords Go.Proofs.YteibcojjbcihbaaW.PrintLast Go.Proofs.YteibcojjbcihbaaW.PrintMore Go.Maps Go.Proofs.Yteibcojjbcihbaa.Mk
open Go.Proofs.Yteibcojjbcihbaa.Txn (unguard blk_newI)
open Go.Lib (byteCells byteCells_length byteCells_append byteCells_one)
set_option linter.unusedVariables false
set_option linter.unusedSimpArgs false

def txt (s : List UInt8) : ByteArray := ⟨s.toArray⟩
/-- What the cache has of a sector: nothing is an empty text. -/
def nw (f : Cache) (i : Nat) : ByteArray := (f (i : Int)).getD ⟨#[]⟩
def nwOf (f : Cache) (n : Nat) : List ByteArray := (List.range n).map (nw f)
theorem nwOf_len (f : Cache) (n : Nat) : (nwOf f n).length = n := by unfold nwOf; rw [List.length_map, List.length_range]
theorem nwOf_get (f : Cache) (n i : Nat) (h : i < n) : (nwOf f n)[i]? = some (nw f i) := by
  unfold nwOf
  rw [List.getElem?_map, List.getElem?_range h]
  rfl
theorem nwOf_congr {f f' : Cache} {n : Nat} (h : ∀ i : Nat, i < n → f (i : Int) = f' (i : Int)) : nwOf f n = nwOf f' n := by
  unfold nwOf
  apply List.map_congr_left
  intro i hi
  unfold nw
  rw [h i (List.mem_range.1 hi)]
theorem nwOf_set {f f' : Cache} {n i : Nat} (s : ByteArray) (hs : nw f' i = s) (h : ∀ j : Nat, j < n → j ≠ i → f' (j : Int) = f (j : Int)) : (nwOf f n).set i s = nwOf f' n := by
  apply List.ext_getElem?
  intro j
  by_cases hj : j < n
  · rw [List.getElem?_set, nwOf_get f n j hj, nwOf_get f' n j hj]
    by_cases e : i = j
    · subst e
      rw [if_pos rfl, if_pos (by rw [nwOf_len]; exact hj), hs]
    · rw [if_neg e]
      unfold nw
      rw [h j hj (fun e2 => e e2.symm)]
  · rw [List.getElem?_eq_none (by rw [List.length_set, nwOf_len]; omega), List.getElem?_eq_none (by rw [nwOf_len]; omega)]
/-- A row of texts, with room behind. -/
def RowT (w : World) (g : Nat) (L : List ByteArray) (sl : List Value) : Prop := w.heap[g]? = some (.cells (L.map Value.string ++ sl).toArray 9 (0, 0))
theorem RowT.cell {w : World} {g : Nat} {L : List ByteArray} {sl : List Value} (h : RowT w g L sl) {i : Nat} {s : ByteArray} (hs : L[i]? = some s) : w.cell? ⟨g, i, none⟩ = some (.string s) := by
  obtain ⟨hi, rfl⟩ := List.getElem?_eq_some_iff.1 hs
  rw [blk_cell h i, List.getElem?_toArray, List.getElem?_append_left (by rw [List.length_map]; exact hi), List.getElem?_map, hs]
  rfl
theorem RowT.set {w : World} {g : Nat} {L : List ByteArray} {sl : List Value} (h : RowT w g L sl) {i : Nat} (hi : i < L.length) (s : ByteArray) : RowT (w.setCell ⟨g, i, none⟩ (.string s)) g (L.set i s) sl := by
  unfold RowT
  rw [blk_set h i]
  congr 2
  rw [List.setIfInBounds_toArray, List.set_append_left _ _ (by rw [List.length_map]; exact hi), List.map_set]
structure RefAt (w : World) (r g1 g2 c1 c2 : Nat) (sl1 sl2 : List Value) (S : List (List UInt8)) (f : Cache) (fuse : Int) (down : Bool) : Prop where
  box : w.heap[r]? = some (.cells #[.slice (some ⟨g1, 0, none⟩) S.length c1, .slice (some ⟨g2, 0, none⟩) S.length c2, .int .i64 fuse, .bool down] 79 (0, 0))
  on : RowT w g1 (S.map txt) sl1
  new : RowT w g2 (nwOf f S.length) sl2
  ne : g1 ≠ g2
  ok : SecOk S f
  fuse : 0 ≤ fuse ∧ fuse ≤ 1048576
section
variable {w w' : World} {r g1 g2 c1 c2 : Nat} {sl1 sl2 : List Value} {S : List (List UInt8)} {f : Cache} {fuse : Int} {down : Bool}
theorem RefAt.cells (h : RefAt w r g1 g2 c1 c2 sl1 sl2 S f fuse down) : w.cell? ⟨r, 0, none⟩ = some (.slice (some ⟨g1, 0, none⟩) S.length c1) ∧ w.cell? ⟨r, 1, none⟩ = some (.slice (some ⟨g2, 0, none⟩) S.length c2) ∧ w.cell? ⟨r, 2, none⟩ = some (.int .i64 fuse) ∧ w.cell? ⟨r, 3, none⟩ = some (.bool down) :=
  ⟨(blk_cell h.box 0).trans rfl, (blk_cell h.box 1).trans rfl, (blk_cell h.box 2).trans rfl, (blk_cell h.box 3).trans rfl⟩
theorem RefAt.kept (h : RefAt w r g1 g2 c1 c2 sl1 sl2 S f fuse down) {row : Option Nat} (hg : w.grownBy w' row) (h1 : some r ≠ row) (h2 : some g1 ≠ row) (h3 : some g2 ≠ row) : RefAt w' r g1 g2 c1 c2 sl1 sl2 S f fuse down :=
  ⟨blk_grown h.box hg h1, blk_grown h.on hg h2, blk_grown h.new hg h3, h.ne, h.ok, h.fuse⟩
theorem RefAt.below (h : RefAt w r g1 g2 c1 c2 sl1 sl2 S f fuse down) (hb : Below w.heap.size w w') : RefAt w' r g1 g2 c1 c2 sl1 sl2 S f fuse down := h.kept (grownBy_of_below hb none) (by simp) (by simp) (by simp)
theorem RefAt.lt (h : RefAt w r g1 g2 c1 c2 sl1 sl2 S f fuse down) : r < w.heap.size ∧ g1 < w.heap.size ∧ g2 < w.heap.size := ⟨blk_lt h.box, blk_lt h.on, blk_lt h.new⟩
theorem box_row {a : Nat} {cs : Array Value} {L : List ByteArray} {sl : List Value} (h1 : w.heap[r]? = some (.cells cs 79 (0, 0))) (h2 : RowT w a L sl) : r ≠ a := fun e => by
  rw [e, h2] at h1
  injection h1 with h1
  injection h1 with _ h1 _
  cases h1
theorem RefAt.apart (h : RefAt w r g1 g2 c1 c2 sl1 sl2 S f fuse down) : r ≠ g1 ∧ r ≠ g2 := ⟨box_row h.box h.on, box_row h.box h.new⟩
theorem RefAt.rebox {fuse' : Int} {down' : Bool} (h : RefAt w r g1 g2 c1 c2 sl1 sl2 S f fuse down) (hg : w.grownBy w' (some r))
    (hb : w'.heap[r]? = some (.cells #[.slice (some ⟨g1, 0, none⟩) S.length c1, .slice (some ⟨g2, 0, none⟩) S.length c2, .int .i64 fuse', .bool down'] 79 (0, 0))) (hf : 0 ≤ fuse' ∧ fuse' ≤ 1048576) : RefAt w' r g1 g2 c1 c2 sl1 sl2 S f fuse' down' :=
  ⟨hb, blk_grown h.on hg (some_ne h.apart.1.symm), blk_grown h.new hg (some_ne h.apart.2.symm), h.ne, h.ok, hf⟩
/-- What is on it, at i. -/
theorem RefAt.at1 (h : RefAt w r g1 g2 c1 c2 sl1 sl2 S f fuse down) (i : Nat) (hi : i < S.length) : w.cell? ⟨g1, i, none⟩ = some (.string (txt (S.getD i []))) := by
  refine h.on.cell ?_
  rw [List.getElem?_map, List.getElem?_eq_getElem hi, List.getD_eq_getElem?_getD, List.getElem?_eq_getElem hi]
  rfl
theorem RefAt.at2 (h : RefAt w r g1 g2 c1 c2 sl1 sl2 S f fuse down) (i : Nat) (hi : i < S.length) : w.cell? ⟨g2, i, none⟩ = some (.string (nw f i)) := h.new.cell (nwOf_get f S.length i hi)
theorem nw_none {i : Nat} (h : f (i : Int) = none) : nw f i = ⟨#[]⟩ := by unfold nw; rw [h]; rfl
theorem nw_some {i : Nat} {s : ByteArray} (h : f (i : Int) = some s) : nw f i = s := by unfold nw; rw [h]; rfl
theorem RefAt.put (h : RefAt w r g1 g2 c1 c2 sl1 sl2 S f fuse down) (i : Nat) (hi : i < S.length) (f' : Cache) (s : ByteArray) (hs : nw f' i = s) (hf : ∀ j : Nat, j < S.length → j ≠ i → f' (j : Int) = f (j : Int)) (hok : SecOk S f') : RefAt (w.setCell ⟨g2, i, none⟩ (.string s)) r g1 g2 c1 c2 sl1 sl2 S f' fuse down := by
  have hg := set_grown w g2 i (.string s)
  refine ⟨blk_grown h.box hg (some_ne h.apart.2), blk_grown h.on hg (some_ne h.ne), ?_, h.ne, hok, h.fuse⟩
  rw [← nwOf_set s hs hf]
  exact h.new.set (by rw [nwOf_len]; exact hi) s
theorem RefAt.write (h : RefAt w r g1 g2 c1 c2 sl1 sl2 S f fuse down) (i : Nat) (hi : i < S.length) (s : List UInt8) (hs : s.length = 64) : RefAt (w.setCell ⟨g1, i, none⟩ (.string (txt s))) r g1 g2 c1 c2 sl1 sl2 (S.set i s) f fuse down := by
  have hg := set_grown w g1 i (.string (txt s))
  have hl : (S.set i s).length = S.length := List.length_set
  refine ⟨by rw [hl]; exact blk_grown h.box hg (some_ne h.apart.1), ?_, by rw [hl]; exact blk_grown h.new hg (some_ne h.ne.symm), h.ne, ⟨fun q hq => ?_, by rw [hl]; exact h.ok.few, by rw [hl]; exact h.ok.some_, fun j q hj => by rw [hl]; exact h.ok.cached j q hj⟩, h.fuse⟩
  · rw [List.map_set]
    exact h.on.set (by rw [List.length_map]; exact hi) (txt s)
  · rcases List.mem_or_eq_of_mem_set hq with hq | rfl
    · exact h.ok.len q hq
    · exact hs
set_option maxRecDepth 100000 in
theorem none_walk (w : World) : Calls Try.prog 54 #[] w fun e w' => e = .returned (.string (txt (zeros 64))) ∧ Below w.heap.size w w' := by
  have hmk : ∀ w, (Instr.makeSlice 97 (.int .i64 64) (.int .i64 64)).run Try.prog w = .ok (.slice (some ⟨w.heap.size, 0, none⟩) 64 64) (w.alloc (.cells (byteCells (zeros 64)).toArray 5)) := fun w => run_make_bytes 64 (by decide) w
  have hcv : (convert 97 9 (.slice (some ⟨w.heap.size, 0, none⟩) 64 64)).run Try.prog (w.alloc (.cells (byteCells (zeros 64)).toArray 5)) = .ok (.string (txt (zeros 64))) (w.alloc (.cells (byteCells (zeros 64)).toArray 5)) := by
    have hrow : RowB (w.alloc (.cells (byteCells (zeros 64)).toArray 5)) w.heap.size (zeros 64) := blk_new _ _
    have := hrow.text 0 64 64 (by rw [zeros_len]; decide)
    rw [List.drop_zero, List.take_of_length_le (by rw [zeros_len]; decide)] at this
    exact this
  generalize (byteCells (zeros 64)).toArray = Z at *
  generalize txt (zeros 64) = z at *
  go_enter Try.func54, Try.ntmps54
  go_wp2
  go_ret
  exact ⟨rfl, below_alloc (Below.refl _ _) _⟩
set_option maxRecDepth 100000 in
theorem burns_walk (h : RefAt w r g1 g2 c1 c2 sl1 sl2 S f fuse false) : Calls Try.prog 76 #[.pointer (some ⟨r, 0, none⟩)] w fun e w' => e = .returned (.bool (burned fuse false).2) ∧ w.grownBy w' (some r) ∧ RefAt w' r g1 g2 c1 c2 sl1 sl2 S f (burned fuse false).1 (burned fuse false).2 := by
  obtain ⟨d0, d1, d2, d3⟩ := h.cells
  have fz2 := blk_frozen h.box 2
  have fz3 := blk_frozen h.box 3
  have hfu := h.fuse
  have H := Aside0.mk h
  have HO := Aside0.mk (burned_ok (down := false) hfu)
  have HB : Aside0 (burned fuse false = if 0 < fuse then (fuse - 1, fuse - 1 == 0) else (fuse, false)) := ⟨rfl⟩
  clear h
  generalize burned fuse false = q at *
  obtain ⟨r1, r2⟩ := q
  by_cases hp : 0 < fuse
  · rw [if_pos hp] at HB
    have hp0 : (fuse == 0) = false := by simp; omega
    go_enter Try.func76, Try.ntmps76
    go_wp2
    go_ret
    have e := HB.out
    injection e with e1 e2
    have hg : w.grownBy ((w.setCell ⟨r, 2, none⟩ (.int .i64 (fuse - 1))).setCell ⟨r, 3, none⟩ (.bool (fuse - 1 == 0))) (some r) := (set_grown w r 2 _).trans (set_grown _ r 3 _)
    exact ⟨by rw [e2]; rfl, hg, H.out.rebox hg (by rw [e1, e2]; exact blk_put (blk_put H.out.box 2 _ rfl) 3 _ rfl) HO.out⟩
  · obtain rfl : fuse = 0 := by omega
    rw [if_neg hp] at HB
    go_enter Try.func76, Try.ntmps76
    go_wp2
    go_ret
    have e := HB.out
    injection e with e1 e2
    exact ⟨by rw [e2]; rfl, World.grownBy.refl _ _, by rw [e1, e2]; exact H.out⟩
set_option maxRecDepth 100000 in
theorem fuseR_walk (h : RefAt w r g1 g2 c1 c2 sl1 sl2 S f fuse down) (n : Int) : Calls Try.prog 58 #[.pointer (some ⟨r, 0, none⟩), .int .i64 n] w fun e w' => e = .returned (.int .i64 (fuseV down n)) ∧ w.grownBy w' (some r) ∧ RefAt w' r g1 g2 c1 c2 sl1 sl2 S f (if fuseV down n = 0 then n else fuse) down := by
  obtain ⟨d0, d1, d2, d3⟩ := h.cells
  have fz2 := blk_frozen h.box 2
  have H := Aside0.mk h
  have HV : Aside0 (fuseV down n = if down = true then 90 else if n < 0 ∨ 1048576 < n then 1 else 0) := ⟨rfl⟩
  obtain ⟨u, hu⟩ : ∃ u, u = (if fuseV down n = 0 then n else fuse) := ⟨_, rfl⟩
  rw [← hu]
  have HU := Aside0.mk hu
  clear hu h
  generalize fuseV down n = q at *
  cases down with
  | true =>
    rw [if_pos rfl] at HV
    go_enter Try.func58, Try.ntmps58
    go_wp2
    go_ret
    exact ⟨by rw [HV.out]; rfl, World.grownBy.refl _ _, by rw [HU.out, HV.out, if_neg (by decide)]; exact H.out⟩
  | false =>
    rw [if_neg (by decide)] at HV
    by_cases h0 : n < 0
    · rw [if_pos (.inl h0)] at HV
      go_enter Try.func58, Try.ntmps58
      go_wp2
      go_ret
      exact ⟨by rw [HV.out]; rfl, World.grownBy.refl _ _, by rw [HU.out, HV.out, if_neg (by decide)]; exact H.out⟩
    · by_cases h1 : 1048576 < n
      · rw [if_pos (.inr h1)] at HV
        go_enter Try.func58, Try.ntmps58
        go_wp2
        go_ret
        exact ⟨by rw [HV.out]; rfl, World.grownBy.refl _ _, by rw [HU.out, HV.out, if_neg (by decide)]; exact H.out⟩
      · rw [if_neg (fun h => h.elim h0 h1)] at HV
        go_enter Try.func58, Try.ntmps58
        go_wp2
        go_ret
        exact ⟨by rw [HV.out]; rfl, set_grown w r 2 _, by rw [HU.out, HV.out, if_pos rfl]; exact H.out.rebox (set_grown w r 2 _) (blk_put H.out.box 2 _ rfl) (by omega)⟩
theorem empty_ne {s : ByteArray} (h : s.size = 64) : s.toList.isEmpty = false := by
  rw [ByteArray.toList_eq]
  have h2 : s.data.toList.length = 64 := h
  cases e : s.data.toList with
  | nil => rw [e] at h2; cases h2
  | cons a l => rfl
set_option maxRecDepth 100000 in
set_option maxHeartbeats 1000000 in
theorem readR_walk (h : RefAt w r g1 g2 c1 c2 sl1 sl2 S f fuse down) (i : Int) : Calls Try.prog 56 #[.pointer (some ⟨r, 0, none⟩), .int .i64 i] w fun e w' => e = .returned (.tuple #[.string (readD S f down i).1, .int .i64 (readD S f down i).2]) ∧ w' = w := by
  obtain ⟨d0, d1, d2, d3⟩ := h.cells
  have H := Aside0.mk h
  have HV : Aside0 (readD S f down i = if devWrong S.length down i = 0 then (match f i with | some s => (s, 0) | none => (⟨(S.getD i.toNat []).toArray⟩, 0)) else (⟨#[]⟩, devWrong S.length down i)) := ⟨rfl⟩
  have HD : Aside0 (devWrong S.length down i = if down = true then 90 else if i < 0 ∨ (S.length : Int) ≤ i then 1 else 0) := ⟨rfl⟩
  have hfew := h.ok.few
  clear h
  generalize readD S f down i = q at *
  generalize devWrong S.length down i = v at *
  cases down with
  | true =>
    rw [if_pos rfl] at HD
    rw [HD.out, if_neg (by decide)] at HV
    go_enter Try.func56, Try.ntmps56
    go_wp2
    go_ret2
    exact ⟨by rw [HV.out]; rfl, rfl⟩
  | false =>
    rw [if_neg (by decide)] at HD
    by_cases h0 : i < 0
    · rw [if_pos (.inl h0)] at HD
      rw [HD.out, if_neg (by decide)] at HV
      go_enter Try.func56, Try.ntmps56
      go_wp2
      go_ret2
      exact ⟨by rw [HV.out]; rfl, rfl⟩
    · obtain ⟨n, rfl⟩ : ∃ n : Nat, i = (n : Int) := ⟨i.toNat, by omega⟩
      by_cases h1 : S.length ≤ n
      · rw [if_pos (.inr (by omega))] at HD
        rw [HD.out, if_neg (by decide)] at HV
        go_enter Try.func56, Try.ntmps56
        go_wp2
        go_ret2
        exact ⟨by rw [HV.out]; rfl, rfl⟩
      · rw [if_neg (by omega)] at HD
        rw [HD.out, if_pos rfl] at HV
        have hn : n < S.length := by omega
        have q1 := H.out.at1 n hn
        have q2 := H.out.at2 n hn
        cases hf : f (n : Int) with
        | some s =>
          rw [hf] at HV
          rw [nw_some hf] at q2
          have hne := empty_ne (H.out.ok.cached _ s hf).2.2
          clear hf q1
          go_enter Try.func56, Try.ntmps56
          go_wp2
          go_ret2
          exact ⟨by rw [HV.out]; rfl, rfl⟩
        | none =>
          rw [hf] at HV
          rw [nw_none hf] at q2
          clear hf
          rw [Int.toNat_natCast] at HV
          generalize S.getD n [] = z at *
          go_enter Try.func56, Try.ntmps56
          go_wp2
          go_ret2
          exact ⟨by rw [HV.out]; rfl, rfl⟩
theorem readD_snd (S : List (List UInt8)) (f : Cache) (down : Bool) (i : Int) : (readD S f down i).2 = devWrong S.length down i := by
  unfold readD
  by_cases h : devWrong S.length down i = 0
  · rw [if_pos h, h]
    cases f i <;> rfl
  · rw [if_neg h]
set_option maxRecDepth 100000 in
set_option maxHeartbeats 1000000 in
theorem writeR_walk (h : RefAt w r g1 g2 c1 c2 sl1 sl2 S f fuse down) (i : Int) (t : ByteArray) : Calls Try.prog 55 #[.pointer (some ⟨r, 0, none⟩), .int .i64 i, .string t] w fun e w' => e = .returned (.int .i64 (writeD S.length fuse down i t)) ∧ Chg w w' r g1 g2 ∧
      RefAt w' r g1 g2 c1 c2 sl1 sl2 S (if writeD S.length fuse down i t = 0 then cput f i t else f) (if writeB S.length down i t = true then (burned fuse down).1 else fuse) (if writeB S.length down i t = true then (burned fuse down).2 else down) := by
  have H := Aside0.mk h
  have hrw := readR_walk h i
  rw [readD_snd] at hrw
  have HW := Aside0.mk hrw
  clear hrw
  have HV : Aside0 (writeD S.length fuse down i t = if devWrong S.length down i = 0 then (if t.size = 64 then (if (burned fuse down).2 = true then 90 else 0) else 3) else devWrong S.length down i) := ⟨rfl⟩
  have HB : Aside0 (writeB S.length down i t = (devWrong S.length down i == 0 && t.size == 64)) := ⟨rfl⟩
  obtain ⟨f1, hf1⟩ : ∃ u, u = (if writeD S.length fuse down i t = 0 then cput f i t else f) := ⟨_, rfl⟩
  obtain ⟨u1, hu1⟩ : ∃ u, u = (if writeB S.length down i t = true then (burned fuse down).1 else fuse) := ⟨_, rfl⟩
  obtain ⟨e1, he1⟩ : ∃ u, u = (if writeB S.length down i t = true then (burned fuse down).2 else down) := ⟨_, rfl⟩
  rw [← hf1, ← hu1, ← he1]
  have HE : Aside0 (f1 = (if writeD S.length fuse down i t = 0 then cput f i t else f) ∧ u1 = (if writeB S.length down i t = true then (burned fuse down).1 else fuse) ∧ e1 = (if writeB S.length down i t = true then (burned fuse down).2 else down)) := ⟨hf1, hu1, he1⟩
  have HR := Aside0.mk (@wrong_range S.length down i)
  clear hf1 hu1 he1 h
  generalize writeD S.length fuse down i t = q0 at *
  generalize writeB S.length down i t = q at *
  generalize devWrong S.length down i = v at *
  generalize (readD S f down i).1 = rd1 at *
  go_enter Try.func55, Try.ntmps55
  go_wp2_with fail
  refine HW.out.mono ?_
  rintro e w1 ⟨rfl, rfl⟩
  clear HW
  by_cases hv : v = 0
  · rw [if_pos hv] at HV
    have hr := HR.out hv
    subst hv
    by_cases ht : t.size = 64
    · rw [if_pos ht] at HV
      have HQ : Aside0 (q = true) := ⟨by rw [HB.out, ht]; rfl⟩
      have HT := Aside0.mk ht
      have htb : ((t.size : Int) != 64) = false := by rw [ht]; rfl
      obtain ⟨hdn, hr0, hr1⟩ := hr
      subst hdn
      obtain ⟨n, rfl⟩ : ∃ n : Nat, i = (n : Int) := ⟨i.toNat, by omega⟩
      have HN : Aside0 (n < S.length) := ⟨by omega⟩
      clear ht hr0 hr1
      go_wp2_with fail
      refine (burns_walk H.out).mono ?_
      rintro e w2 ⟨rfl, hg, h2⟩
      have H2 := Aside0.mk h2
      have HC2 := Aside0.mk (Chg.of (b := r) (g := g1) (m := g2) hg (fun k e => .inl (by injection e with e; exact e.symm)))
      obtain ⟨c0, c1, c2, c3⟩ := H2.out.cells
      clear hg h2
      cases hbd : (burned fuse false).2 with
      | true =>
        rw [hbd, if_pos rfl] at HV
        have HBD := Aside0.mk hbd
        clear hbd
        go_wp2
        go_ret
        refine ⟨by rw [HV.out]; rfl, HC2.out, ?_⟩
        rw [HE.out.1, HE.out.2.1, HE.out.2.2, HV.out, HQ.out, if_neg (by decide), if_pos rfl, if_pos rfl]
        exact H2.out
      | false =>
        rw [hbd, if_neg (by decide)] at HV
        have HBD := Aside0.mk hbd
        clear hbd
        have hfew := H2.out.ok.few
        have hn := HN.out
        have p1 := H2.out.at2 n hn
        have fz := blk_frozen H2.out.new n
        go_wp2
        go_ret
        refine ⟨by rw [HV.out]; rfl, HC2.out.trans (Chg.of (set_grown _ g2 n _) (fun k e => .inr (.inr (by injection e with e; exact e.symm)))), ?_⟩
        rw [HE.out.1, HE.out.2.1, HE.out.2.2, HV.out, HQ.out, if_pos rfl, if_pos rfl, if_pos rfl]
        refine H2.out.put n hn _ t (nw_some (if_pos rfl)) (fun j hj hne => if_neg (by omega)) ⟨H2.out.ok.len, H2.out.ok.few, H2.out.ok.some_, fun j s hj => ?_⟩
        unfold cput at hj
        split at hj
        · rename_i e
          cases hj
          rw [e]
          exact ⟨by omega, by omega, HT.out⟩
        · exact H2.out.ok.cached j s hj
    · rw [if_neg ht] at HV
      have HQ : Aside0 (q = false) := ⟨by rw [HB.out]; simp [ht]⟩
      have htb : ((t.size : Int) != 64) = true := by simp; omega
      go_wp2
      go_ret
      refine ⟨by rw [HV.out]; rfl, Chg.of_below (Below.refl _ _), ?_⟩
      rw [HE.out.1, HE.out.2.1, HE.out.2.2, HV.out, HQ.out, if_neg (by decide), if_neg (by decide), if_neg (by decide)]
      exact H.out
  · rw [if_neg hv] at HV
    have hvb : (v != 0) = true := by simpa using hv
    have HQ : Aside0 (q = false) := ⟨by rw [HB.out]; simp [hv]⟩
    have HVN := Aside0.mk hv
    clear hv
    go_wp2
    go_ret
    refine ⟨by rw [HV.out]; rfl, Chg.of_below (Below.refl _ _), ?_⟩
    rw [HE.out.1, HE.out.2.1, HE.out.2.2, HV.out, HQ.out, if_neg HVN.out, if_neg (by decide), if_neg (by decide)]
    exact H.out
/-- The sectors that the cache has, of the first i. -/
def hasL (f : Cache) (i : Nat) : List Nat := (List.range i).filter (fun j => (f (j : Int)).isSome)
theorem hasL_succ (f : Cache) (i : Nat) : hasL f (i + 1) = if (f (i : Int)).isSome then hasL f i ++ [i] else hasL f i := by
  unfold hasL
  rw [List.range_succ, List.filter_append]
  cases h : (f (i : Int)).isSome <;> simp [h]
theorem hasL_le (f : Cache) (i : Nat) : (hasL f i).length ≤ i := by
  have := List.length_filter_le (fun j : Nat => (f (j : Int)).isSome) (List.range i)
  rwa [List.length_range] at this
set_option maxRecDepth 100000 in
set_option maxHeartbeats 1000000 in
theorem dirtyR_walk (h : RefAt w r g1 g2 c1 c2 sl1 sl2 S f fuse down) : Calls Try.prog 35 #[.pointer (some ⟨r, 0, none⟩)] w fun e w' => e = .returned (.int .i64 ((hasL f S.length).length : Int)) ∧ w' = w := by
  obtain ⟨d0, d1, d2, d3⟩ := h.cells
  have H := Aside0.mk h
  have hfew := h.ok.few
  clear h
  go_enter Try.func35, Try.ntmps35
  go_wp2
  go_loopg [3, 4] (S.length + 1) (fun kq v3 v4 wr => ∃ k : Nat, v3 = .int .i64 ((hasL f k).length : Int) ∧ v4 = .int .i64 k ∧ k ≤ S.length ∧ k + kq = S.length + 1 ∧ wr = w)
  case atStart => exact ⟨0, rfl, rfl, by omega, by omega, rfl⟩
  case round =>
    obtain ⟨k, rfl, rfl, hk, hkq, rfl⟩ := hrel
    have hle := hasL_le f k
    have HS := Aside0.mk (hasL_succ f k)
    by_cases hlt : k < S.length
    · have q2 := H.out.at2 k hlt
      cases hf : f (k : Int) with
      | some s =>
        rw [nw_some hf] at q2
        have hne := empty_ne (H.out.ok.cached _ s hf).2.2
        rw [hf] at HS
        have HS2 : Aside0 (((hasL f k).length : Int) + 1 = ((hasL f (k + 1)).length : Int)) := ⟨by rw [HS.out, if_pos (show (some s).isSome = true from rfl), List.length_append]; simp⟩
        clear HS hf
        generalize (hasL f k).length = a at *
        go_wp2
        go_roundg (gk - 1)
        case measure => omega
        case rel => exact ⟨k + 1, by rw [← HS2.out], by go_num, by omega, by omega, rfl⟩
      | none =>
        rw [nw_none hf] at q2
        rw [hf] at HS
        have HS2 : Aside0 ((hasL f k).length = (hasL f (k + 1)).length) := ⟨by rw [HS.out]; simp⟩
        clear HS hf
        generalize (hasL f k).length = a at *
        go_wp2
        go_roundg (gk - 1)
        case measure => omega
        case rel => exact ⟨k + 1, by rw [HS2.out], by go_num, by omega, by omega, rfl⟩
    · obtain rfl : k = S.length := by omega
      go_wp2
      go_ret
      exact ⟨rfl, rfl⟩
end
end Go.Proofs.Yteibcojjbcihbaa.Sec
