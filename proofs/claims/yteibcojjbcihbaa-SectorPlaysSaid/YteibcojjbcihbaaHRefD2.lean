/- The document's device: Flush, Wipe; the book's SameInts. -/
import Derived.Test.YteibcojjbcihbaaHRefD
namespace Go.Proofs.Yteibcojjbcihbaa.Sec
open Go.RowKit Go.Proofs.YteibcojjbcihbaaW.PrintWords Go.Proofs.YteibcojjbcihbaaW.PrintLast Go.Proofs.YteibcojjbcihbaaW.PrintMore Go.Maps Go.Proofs.Yteibcojjbcihbaa.Mk
open Go.Proofs.Yteibcojjbcihbaa.Txn (unguard blk_newI)
open Go.Lib (byteCells byteCells_length byteCells_append byteCells_one)
set_option linter.unusedVariables false
set_option linter.unusedSimpArgs false

/-- The sectors, of which the first i are flushed. -/
def flN (S : List (List UInt8)) (f : Cache) (i : Nat) : List (List UInt8) := S.mapIdx (fun j s => if j < i then (match f (j : Int) with | some t => t.data.toList | none => s) else s)
def clN (f : Cache) (i : Nat) : Cache := fun q => if q < (i : Int) then none else f q
def zeN (S : List (List UInt8)) (i : Nat) : List (List UInt8) := S.mapIdx (fun j s => if j < i then zeros 64 else s)
theorem flN_len (S : List (List UInt8)) (f : Cache) (i : Nat) : (flN S f i).length = S.length := by unfold flN; exact List.length_mapIdx
theorem zeN_len (S : List (List UInt8)) (i : Nat) : (zeN S i).length = S.length := by unfold zeN; exact List.length_mapIdx
theorem flN_zero (S : List (List UInt8)) (f : Cache) : flN S f 0 = S := by
  unfold flN
  apply List.ext_getElem?
  intro j
  rw [List.getElem?_mapIdx]
  cases S[j]? <;> simp
theorem zeN_zero (S : List (List UInt8)) : zeN S 0 = S := by
  unfold zeN
  apply List.ext_getElem?
  intro j
  rw [List.getElem?_mapIdx]
  cases S[j]? <;> simp
theorem flN_all (S : List (List UInt8)) (f : Cache) : flN S f S.length = flushed S f := by
  unfold flN flushed
  apply List.ext_getElem?
  intro j
  rw [List.getElem?_mapIdx, List.getElem?_mapIdx]
  by_cases hj : j < S.length
  · rw [List.getElem?_eq_getElem hj, Option.map_some, Option.map_some, if_pos hj]
    cases f (j : Int) <;> rfl
  · rw [List.getElem?_eq_none (by omega), Option.map_none, Option.map_none]
theorem zeN_all (S : List (List UInt8)) : zeN S S.length = List.replicate S.length (zeros 64) := by
  unfold zeN
  apply List.ext_getElem?
  intro j
  rw [List.getElem?_mapIdx, List.getElem?_replicate]
  by_cases hj : j < S.length
  · rw [List.getElem?_eq_getElem hj, Option.map_some, if_pos hj, if_pos hj]
  · rw [List.getElem?_eq_none (by omega), Option.map_none, if_neg hj]
theorem flN_some {S : List (List UInt8)} {f : Cache} {i : Nat} {s : ByteArray} (hf : f (i : Int) = some s) : (flN S f i).set i s.data.toList = flN S f (i + 1) := by
  apply List.ext_getElem?
  intro j
  rw [List.getElem?_set, flN_len]
  unfold flN
  rw [List.getElem?_mapIdx, List.getElem?_mapIdx]
  by_cases hj : j < S.length
  · rw [List.getElem?_eq_getElem hj, Option.map_some, Option.map_some]
    by_cases e : i = j
    · subst e
      rw [if_pos rfl, if_pos hj, if_pos (by omega), hf]
    · rw [if_neg e]
      by_cases h1 : j < i
      · rw [if_pos h1, if_pos (by omega)]
      · rw [if_neg h1, if_neg (by omega)]
  · rw [List.getElem?_eq_none (by omega), Option.map_none, Option.map_none]
    by_cases e : i = j
    · rw [if_pos e, if_neg (by omega)]
    · rw [if_neg e]
theorem zeN_set {S : List (List UInt8)} {i : Nat} : (zeN S i).set i (zeros 64) = zeN S (i + 1) := by
  apply List.ext_getElem?
  intro j
  rw [List.getElem?_set, zeN_len]
  unfold zeN
  rw [List.getElem?_mapIdx, List.getElem?_mapIdx]
  by_cases hj : j < S.length
  · rw [List.getElem?_eq_getElem hj, Option.map_some, Option.map_some]
    by_cases e : i = j
    · subst e
      rw [if_pos rfl, if_pos hj, if_pos (by omega)]
    · rw [if_neg e]
      by_cases h1 : j < i
      · rw [if_pos h1, if_pos (by omega)]
      · rw [if_neg h1, if_neg (by omega)]
  · rw [List.getElem?_eq_none (by omega), Option.map_none, Option.map_none]
    by_cases e : i = j
    · rw [if_pos e, if_neg (by omega)]
    · rw [if_neg e]
theorem flN_none {S : List (List UInt8)} {f : Cache} {i : Nat} (hf : f (i : Int) = none) : flN S f i = flN S f (i + 1) := by
  unfold flN
  apply List.ext_getElem?
  intro j
  rw [List.getElem?_mapIdx, List.getElem?_mapIdx]
  by_cases hj : j < S.length
  · rw [List.getElem?_eq_getElem hj, Option.map_some, Option.map_some]
    by_cases e : i = j
    · subst e
      rw [if_neg (by omega), if_pos (by omega), hf]
    · by_cases h1 : j < i
      · rw [if_pos h1, if_pos (by omega)]
      · rw [if_neg h1, if_neg (by omega)]
  · rw [List.getElem?_eq_none (by omega), Option.map_none, Option.map_none]
theorem clN_none {f : Cache} {i : Nat} (hf : f (i : Int) = none) : clN f i = clN f (i + 1) := by
  funext q
  unfold clN
  by_cases h1 : q < (i : Int)
  · rw [if_pos h1, if_pos (by omega)]
  · by_cases e : q = (i : Int)
    · subst e
      rw [if_neg h1, if_pos (by omega), hf]
    · rw [if_neg h1, if_neg (by omega)]
theorem clN_zero {S : List (List UInt8)} {f : Cache} (h : SecOk S f) : clN f 0 = f := by
  funext q
  unfold clN
  by_cases h1 : q < ((0 : Nat) : Int)
  · rw [if_pos h1]
    cases e : f q with
    | none => rfl
    | some s => have := h.cached q s e; omega
  · rw [if_neg h1]
theorem clN_all {S : List (List UInt8)} {f : Cache} (h : SecOk S f) : clN f S.length = fun _ => none := by
  funext q
  unfold clN
  by_cases h1 : q < (S.length : Int)
  · rw [if_pos h1]
  · rw [if_neg h1]
    cases e : f q with
    | none => rfl
    | some s => have := h.cached q s e; omega
theorem clN_at (f : Cache) (i : Nat) : clN f i (i : Int) = f (i : Int) := if_neg (by omega)
theorem clN_next (f : Cache) (i : Nat) : nw (clN f (i + 1)) i = ⟨#[]⟩ := by unfold nw clN; rw [if_pos (by omega)]; rfl
theorem clN_else {f : Cache} {i j : Nat} (h : j ≠ i) : clN f (i + 1) (j : Int) = clN f i (j : Int) := by
  unfold clN
  by_cases h1 : (j : Int) < (i : Int)
  · rw [if_pos h1, if_pos (by omega)]
  · rw [if_neg h1, if_neg (by omega)]
theorem clN_ok {S S' : List (List UInt8)} {f f' : Cache} {i : Nat} (h : SecOk S' f') (hS : S'.length = S.length) (h2 : SecOk S f) : SecOk S' (clN f i) :=
  ⟨h.len, h.few, h.some_, fun j s hj => by
    unfold clN at hj
    by_cases h1 : j < (i : Int)
    · rw [if_pos h1] at hj
      cases hj
    · rw [if_neg h1] at hj
      rw [hS]
      exact h2.cached j s hj⟩
section
variable {w w' : World} {r g1 g2 c1 c2 : Nat} {sl1 sl2 : List Value} {S : List (List UInt8)} {f : Cache} {fuse : Int} {down : Bool}
theorem txt_data (s : ByteArray) : txt s.data.toList = s := by cases s; simp [txt]
/-- One sector's cache is emptied. -/
theorem RefAt.clear {i : Nat} {S' : List (List UInt8)} (h : RefAt w r g1 g2 c1 c2 sl1 sl2 S' (clN f i) fuse down) (hS : S'.length = S.length) (h2 : SecOk S f) (hi : i < S.length) : RefAt (w.setCell ⟨g2, i, none⟩ (.string ⟨#[]⟩)) r g1 g2 c1 c2 sl1 sl2 S' (clN f (i + 1)) fuse down :=
  h.put i (by omega) _ _ (clN_next f i) (fun j hj hne => clN_else hne) (clN_ok h.ok hS h2)
set_option maxRecDepth 100000 in
theorem flushR_down (h : RefAt w r g1 g2 c1 c2 sl1 sl2 S f fuse true) : Calls Try.prog 57 #[.pointer (some ⟨r, 0, none⟩)] w fun e w' => e = .returned (.int .i64 90) ∧ w' = w := by
  obtain ⟨d0, d1, d2, d3⟩ := h.cells
  clear h
  go_enter Try.func57, Try.ntmps57
  go_wp2
  go_ret
  exact ⟨rfl, rfl⟩
set_option maxRecDepth 100000 in
theorem flushR_burnt (h : RefAt w r g1 g2 c1 c2 sl1 sl2 S f fuse false) (hb : (burned fuse false).2 = true) : Calls Try.prog 57 #[.pointer (some ⟨r, 0, none⟩)] w fun e w' => e = .returned (.int .i64 90) ∧ Chg w w' r g1 g2 ∧ RefAt w' r g1 g2 c1 c2 sl1 sl2 S f (burned fuse false).1 true := by
  obtain ⟨d0, d1, d2, d3⟩ := h.cells
  have H := Aside0.mk (burns_walk h)
  rw [hb] at H
  clear h
  generalize (burned fuse false).1 = fu at *
  go_enter Try.func57, Try.ntmps57
  go_wp2_with fail
  refine H.out.mono ?_
  rintro e w1 ⟨rfl, hg1, h1⟩
  have H1 := Aside0.mk (And.intro hg1 h1)
  clear hg1 h1 d0 d1 d2 d3
  go_wp2
  go_ret
  exact ⟨rfl, Chg.of H1.out.1 (fun k e => .inl (by injection e with e; exact e.symm)), H1.out.2⟩
set_option maxRecDepth 100000 in
set_option maxHeartbeats 2000000 in
theorem flushR_good (h : RefAt w r g1 g2 c1 c2 sl1 sl2 S f fuse false) (hb : (burned fuse false).2 = false) : Calls Try.prog 57 #[.pointer (some ⟨r, 0, none⟩)] w fun e w' => e = .returned (.int .i64 0) ∧ Chg w w' r g1 g2 ∧ RefAt w' r g1 g2 c1 c2 sl1 sl2 (flushed S f) (fun _ => none) (burned fuse false).1 false := by
  obtain ⟨d0, d1, d2, d3⟩ := h.cells
  have HOK := Aside0.mk h.ok
  have hfew := h.ok.few
  have H := Aside0.mk (burns_walk h)
  rw [hb] at H
  clear h
  generalize (burned fuse false).1 = fu at *
  go_enter Try.func57, Try.ntmps57
  go_wp2_with fail
  refine H.out.mono ?_
  rintro e w1 ⟨rfl, hg1, h1⟩
  have HC1 : Aside0 (Chg w w1 r g1 g2) := ⟨Chg.of hg1 (fun k e => .inl (by injection e with e; exact e.symm))⟩
  have H1 : Aside0 (RefAt w1 r g1 g2 c1 c2 sl1 sl2 (flN S f 0) (clN f 0) fu false) := ⟨by rw [flN_zero, clN_zero HOK.out]; exact h1⟩
  clear hg1 h1 d0 d1 d2 d3 H
  go_wp2
  go_loopg [3] (S.length + 1) (fun kq v3 wr => ∃ k : Nat, v3 = .int .i64 k ∧ k ≤ S.length ∧ k + kq = S.length + 1 ∧ Aside0 (Chg w wr r g1 g2) ∧ Aside0 (RefAt wr r g1 g2 c1 c2 sl1 sl2 (flN S f k) (clN f k) fu false))
  case atStart => exact ⟨0, rfl, by omega, by omega, HC1, H1⟩
  case round =>
    clear HC1 H1
    obtain ⟨k, rfl, hk, hkq, HC, H⟩ := hrel
    obtain ⟨d0, d1, d2, d3⟩ := H.out.cells
    rw [flN_len] at d0 d1
    by_cases hlt : k < S.length
    · have q2 := H.out.at2 k (by rw [flN_len]; exact hlt)
      have hnk : nw (clN f k) k = nw f k := by unfold nw; rw [clN_at]
      rw [hnk] at q2
      clear hnk
      cases hf : f (k : Int) with
      | some s =>
        rw [nw_some hf] at q2
        have hs64 := (HOK.out.cached _ s hf).2.2
        have hne := empty_ne hs64
        have HFL := Aside0.mk (flN_some (S := S) hf)
        have HS64 := Aside0.mk hs64
        clear hf hs64
        have q1 := H.out.at1 k (by rw [flN_len]; exact hlt)
        have fz1 := blk_frozen H.out.on k
        generalize txt ((flN S f k).getD k []) = old at *
        have HDR : Aside0 (RefAt wr.drew r g1 g2 c1 c2 sl1 sl2 (flN S f k) (clN f k) fu false) := ⟨H.out.below (below_drew1 (Below.refl _ _))⟩
        have hx := HDR.out.write k (by rw [flN_len]; exact hlt) s.data.toList (by rw [Array.length_toList]; exact HS64.out)
        rw [txt_data, HFL.out] at hx
        have HX := Aside0.mk hx
        have HY := Aside0.mk (hx.clear (flN_len S f (k + 1)) HOK.out hlt)
        have HCX : Aside0 (Chg w ((wr.drew.setCell ⟨g1, k, none⟩ (.string s)).setCell ⟨g2, k, none⟩ (.string ⟨#[]⟩)) r g1 g2) := ⟨((HC.out.trans (Chg.of_below (below_drew1 (Below.refl _ _)))).trans (Chg.of (set_grown _ g1 k _) (fun k e => .inr (.inl (by injection e with e; exact e.symm))))).trans (Chg.of (set_grown _ g2 k _) (fun k e => .inr (.inr (by injection e with e; exact e.symm))))⟩
        clear hx
        have y0 : ({ wr with drawn := wr.drawn + 1 } : World).cell? ⟨r, 0, none⟩ = some (.slice (some ⟨g1, 0, none⟩) S.length c1) := d0
        have y1 : ({ wr with drawn := wr.drawn + 1 } : World).cell? ⟨r, 1, none⟩ = some (.slice (some ⟨g2, 0, none⟩) S.length c2) := d1
        have y2 : ({ wr with drawn := wr.drawn + 1 } : World).cell? ⟨g2, k, none⟩ = some (.string s) := q2
        go_wp2_with fail
        go_still_tail 13, (by kernel_rfl)
        change wpList _ _ _ _ _ wr.drew
        have z1 : wr.drew.cell? ⟨g1, k, none⟩ = some (.string old) := q1
        have z2 : wr.drew.frozen? ⟨g1, k, none⟩ = false := fz1
        obtain ⟨x0, x1, x2, x3⟩ := HX.out.cells
        rw [flN_len] at x0 x1
        have x5 := HX.out.at2 k (by rw [flN_len]; exact hlt)
        have x6 := blk_frozen HX.out.new k
        generalize nw (clN f k) k = ol2 at *
        clear q1 fz1 y0 y1 y2 d0 d1 d2 d3 q2
        generalize wr.drew = w2 at *
        go_wp2
        go_roundg (gk - 1)
        case measure => omega
        case rel => exact ⟨k + 1, by go_num, by omega, by omega, HCX, HY⟩
      | none =>
        rw [nw_none hf] at q2
        have HFL := Aside0.mk (And.intro (flN_none (S := S) hf) (clN_none hf))
        clear hf
        go_wp2
        go_roundg (gk - 1)
        case measure => omega
        case rel => exact ⟨k + 1, by go_num, by omega, by omega, HC, ⟨by rw [← HFL.out.1, ← HFL.out.2]; exact H.out⟩⟩
    · obtain rfl : k = S.length := by omega
      rw [flN_all, clN_all HOK.out] at H
      go_wp2
      go_ret
      exact ⟨rfl, HC.out, H.out⟩
set_option maxRecDepth 100000 in
set_option maxHeartbeats 2000000 in
theorem wipeR_walk (h : RefAt w r g1 g2 c1 c2 sl1 sl2 S f fuse down) : Calls Try.prog 61 #[.pointer (some ⟨r, 0, none⟩)] w fun e w' => e = .returned (.tuple #[]) ∧ Chg w w' r g1 g2 ∧ RefAt w' r g1 g2 c1 c2 sl1 sl2 (List.replicate S.length (zeros 64)) (fun _ => none) 0 false := by
  have HOK := Aside0.mk h.ok
  have hfew := h.ok.few
  have H1 : Aside0 (RefAt w r g1 g2 c1 c2 sl1 sl2 (zeN S 0) (clN f 0) fuse down) := ⟨by rw [zeN_zero, clN_zero HOK.out]; exact h⟩
  have HC1 : Aside0 (Chg w w r g1 g2) := ⟨Chg.of_below (Below.refl _ _)⟩
  clear h
  go_enter Try.func61, Try.ntmps61
  go_wp2
  go_loopg [2] (S.length + 1) (fun kq v2 wr => ∃ k : Nat, v2 = .int .i64 k ∧ k ≤ S.length ∧ k + kq = S.length + 1 ∧ Aside0 (Chg w wr r g1 g2) ∧ Aside0 (RefAt wr r g1 g2 c1 c2 sl1 sl2 (zeN S k) (clN f k) fuse down))
  case atStart => exact ⟨0, rfl, by omega, by omega, HC1, H1⟩
  case round =>
    clear HC1 H1
    obtain ⟨k, rfl, hk, hkq, HC, H⟩ := hrel
    obtain ⟨d0, d1, d2, d3⟩ := H.out.cells
    rw [zeN_len] at d0 d1
    by_cases hlt : k < S.length
    · have HD : Aside0 (RefAt wr.drew r g1 g2 c1 c2 sl1 sl2 (zeN S k) (clN f k) fuse down) := ⟨H.out.below (below_drew1 (Below.refl _ _))⟩
      have HS0 : Aside0 (wr.drew.cell? ⟨r, 0, none⟩ = some (.slice (some ⟨g1, 0, none⟩) S.length c1)) := ⟨d0⟩
      have hz : (zeros 64).length = 64 := zeros_len 64
      have HZ := Aside0.mk hz
      have HZ2 := Aside0.mk (zeN_set (S := S) (i := k))
      have HN := Aside0.mk none_walk
      clear hz
      have HLT : Aside0 (k < (zeN S k).length) := ⟨by rw [zeN_len]; exact hlt⟩
      generalize zeros 64 = z at *
      go_wp2_with fail
      go_region_held3 (fun w' => w'.cell? ⟨r, 0, none⟩ = some (.slice (some ⟨g1, 0, none⟩) S.length c1)) (assumption)
        (first
          | (go_at_call 54; refine (HN.out _).mono ?_; rintro e w5 ⟨rfl, hb5⟩; have H5 := Aside0.mk (HD.out.below hb5); have k0 := H5.out.cells.1; rw [zeN_len] at k0; have k1 := H5.out.at1 k HLT.out; have k2 := blk_frozen H5.out.on k; have k3 : (w5.setCell ⟨g1, k, none⟩ (.string (txt z))).cell? ⟨r, 0, none⟩ = some (.slice (some ⟨g1, 0, none⟩) S.length c1) := Mk.cell_but (set_grown _ _ _ _) H5.out.apart.1 k0))
      have hx := H5.out.write k (by rw [zeN_len]; exact hlt) z HZ.out
      rw [HZ2.out] at hx
      have HX := Aside0.mk hx
      have HY := Aside0.mk (hx.clear (zeN_len S (k + 1)) HOK.out hlt)
      have HCX : Aside0 (Chg w ((w5.setCell ⟨g1, k, none⟩ (.string (txt z))).setCell ⟨g2, k, none⟩ (.string ⟨#[]⟩)) r g1 g2) := ⟨(((HC.out.trans (Chg.of_below (below_drew1 (Below.refl _ _)))).trans (Chg.of_below hb5)).trans (Chg.of (set_grown _ g1 k _) (fun k e => .inr (.inl (by injection e with e; exact e.symm))))).trans (Chg.of (set_grown _ g2 k _) (fun k e => .inr (.inr (by injection e with e; exact e.symm))))⟩
      clear hx hb5 k0 k1 k2 k3
      obtain ⟨x0, x1, x2, x3⟩ := HX.out.cells
      rw [zeN_len] at x0 x1
      have x5 := HX.out.at2 k (by rw [zeN_len]; exact hlt)
      have x6 := blk_frozen HX.out.new k
      generalize nw (clN f k) k = ol2 at *
      clear d0 d1 d2 d3
      go_wp2
      go_roundg (gk - 1)
      case measure => omega
      case rel => exact ⟨k + 1, by go_num, by omega, by omega, HCX, HY⟩
    · obtain rfl : k = S.length := by omega
      rw [zeN_all, clN_all HOK.out] at H
      have fz2 := blk_frozen H.out.box 2
      have fz3 := blk_frozen H.out.box 3
      go_wp2
      go_end0
      have hg : wr.grownBy ((wr.setCell ⟨r, 2, none⟩ (.int .i64 0)).setCell ⟨r, 3, none⟩ (.bool false)) (some r) := (set_grown wr r 2 _).trans (set_grown _ r 3 _)
      exact ⟨rfl, HC.out.trans (Chg.of hg (fun k e => .inl (by injection e with e; exact e.symm))), H.out.rebox hg (blk_put (blk_put H.out.box 2 _ rfl) 3 _ rfl) (by decide)⟩
end
end Go.Proofs.Yteibcojjbcihbaa.Sec
