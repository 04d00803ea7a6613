/- The document's transaction in memory; Get, Note, Write, New. -/
import Derived.Test.YteibcojjbcihbaaHRefP
namespace Go.Proofs.Yteibcojjbcihbaa.PT
open Go.RowKit Go.Proofs.YteibcojjbcihbaaW.PrintWords Go.Proofs.YteibcojjbcihbaaW.PrintLast Go.Proofs.YteibcojjbcihbaaW.PrintMore Go.Maps
open Mk (Up)
open Go.Proofs.Yteibcojjbcihbaa.Txn (Tab tput it0 keyB wrongV noteV writeV getV unguard)
attribute [local go_sem] Mk.str_leq Mk.str_gtr Mk.str_geq
set_option linter.unusedVariables false
set_option linter.unusedSimpArgs false
structure RefT (w : World) (b : Nat) (num ts : Int) (vR vW : Value) (R W : List S96) : Prop where
  box : w.heap[b]? = some (.cells #[.int .i64 num, .int .i64 ts, vR, vW] 53 (0, 0))
  rr : Kd.R k96 96 w 0 (fun _ => True) vR R
  ww : Kd.R k96 96 w 0 (fun _ => True) vW W
theorem rowK {w w' : World} {row : Option Nat} {v : Value} {l : List S96} (h : Kd.R k96 96 w 0 (fun _ => True) v l) (hg : w.grownBy w' row) (hr : ∀ k cells, row = some k → w.heap[k]? ≠ some (.cells cells 96 (0, 0))) : Kd.R k96 96 w' 0 (fun _ => True) v l := by
  refine Kd.R_mono (Kd.R_step (Kd.R_bound h) (fun k hk hlt => hg.block k hlt (fun e => ?_))) (fun _ _ => trivial)
  obtain ⟨_, _, _, q, hq, cells, hc⟩ := hk
  have : q = 96 := by
    have hE : k96.E = [] := rfl
    rw [hE] at hq
    simpa using hq
  rw [this] at hc
  exact hr k cells e.symm hc
theorem RefT.lt {w : World} {b : Nat} {num ts : Int} {vR vW : Value} {R W : List S96} (h : RefT w b num ts vR vW R W) : b < w.heap.size := (List.getElem?_eq_some_iff.1 (by simpa using h.box)).1
theorem RefT.grown {w w' : World} {b : Nat} {num ts : Int} {vR vW : Value} {R W : List S96} (h : RefT w b num ts vR vW R W) {row : Option Nat} (hg : w.grownBy w' row) (hb : some b ≠ row) (hr : ∀ k cells, row = some k → w.heap[k]? ≠ some (.cells cells 96 (0, 0))) : RefT w' b num ts vR vW R W :=
  ⟨blk_grown h.box hg hb, rowK h.rr hg hr, rowK h.ww hg hr⟩
theorem RefT.below {w w' : World} {b : Nat} {num ts : Int} {vR vW : Value} {R W : List S96} (h : RefT w b num ts vR vW R W) (hb : Below w.heap.size w w') : RefT w' b num ts vR vW R W :=
  h.grown (Mk.grownBy_of_below hb none) (by simp) (by simp)
theorem RefT.cells {w : World} {b : Nat} {num ts : Int} {vR vW : Value} {R W : List S96} (h : RefT w b num ts vR vW R W) : w.cell? ⟨b, 1, none⟩ = some (.int .i64 ts) ∧ w.cell? ⟨b, 2, none⟩ = some vR ∧ w.cell? ⟨b, 3, none⟩ = some vW ∧ w.cell? ⟨b, 0, none⟩ = some (.int .i64 num) :=
  ⟨(blk_cell h.box 1).trans rfl, (blk_cell h.box 2).trans rfl, (blk_cell h.box 3).trans rfl, (blk_cell h.box 0).trans rfl⟩
/-- A store into a field of the box. -/
theorem RefT.setR {w w' : World} {b : Nat} {num ts : Int} {vR vW v : Value} {R W R' : List S96} (h : RefT w b num ts vR vW R W) (hb : Below w.heap.size w w') (hR : Kd.R k96 96 w' 0 (fun _ => True) v R') : RefT (w'.setCell ⟨b, 2, none⟩ v) b num ts v vW R' W ∧ w.grownBy (w'.setCell ⟨b, 2, none⟩ v) (some b) := by
  have h' := h.below hb
  have hg : w'.grownBy (w'.setCell ⟨b, 2, none⟩ v) (some b) := ⟨rfl, rfl, rfl, by simp, fun i hi hne => Below.heap_setCell _ _ _ _ (fun e => hne (by rw [e]))⟩
  have hr : ∀ k cells, some b = some k → w'.heap[k]? ≠ some (.cells cells 96 (0, 0)) := fun k cells e => by
    injection e with e
    subst e
    rw [h'.box]
    intro hc
    injection hc with hc
    injection hc with _ hc _
    cases hc
  exact ⟨⟨blk_put h'.box 2 v rfl, rowK hR hg hr, rowK h'.ww hg hr⟩, (Mk.grownBy_of_below hb (some b)).trans hg⟩
theorem RefT.setW {w w' : World} {b : Nat} {num ts : Int} {vR vW v : Value} {R W R' : List S96} (h : RefT w b num ts vR vW R W) (hb : Below w.heap.size w w') (hR : Kd.R k96 96 w' 0 (fun _ => True) v R') : RefT (w'.setCell ⟨b, 3, none⟩ v) b num ts vR v R R' ∧ w.grownBy (w'.setCell ⟨b, 3, none⟩ v) (some b) := by
  have h' := h.below hb
  have hg : w'.grownBy (w'.setCell ⟨b, 3, none⟩ v) (some b) := ⟨rfl, rfl, rfl, by simp, fun i hi hne => Below.heap_setCell _ _ _ _ (fun e => hne (by rw [e]))⟩
  have hr : ∀ k cells, some b = some k → w'.heap[k]? ≠ some (.cells cells 96 (0, 0)) := fun k cells e => by
    injection e with e
    subst e
    rw [h'.box]
    intro hc
    injection hc with hc
    injection hc with _ hc _
    cases hc
  exact ⟨⟨blk_put h'.box 3 v rfl, rowK h'.rr hg hr, rowK hR hg hr⟩, (Mk.grownBy_of_below hb (some b)).trans hg⟩

set_option maxRecDepth 100000 in
set_option maxHeartbeats 2000000 in
/-- Note. -/
theorem refNote_walk (w : World) (b : Nat) (num ts : Int) (vR vW : Value) (R W : List S96) (h : RefT w b num ts vR vW R W) (hup : Up (keysR R)) (hl : R.length ≤ 16) (k v : ByteArray) (fd : Bool) :
    Calls Try.prog 45 #[.pointer (some ⟨b, 0, none⟩), .string k, .string v, .bool fd] w fun e w' => ∃ vR', e = .returned (.int .i64 (noteV (lookR R) R.length k v fd)) ∧ w.grownBy w' (some b) ∧ RefT w' b num ts vR' vW (if noteV (lookR R) R.length k v fd = 0 then putR R ⟨k, v, fd⟩ else R) W := by
  have H := Aside0.mk h
  obtain ⟨A, c, rfl, hlc, hC⟩ := Kd.R_reads h.rr
  have HA := Aside0.mk (at_f R k (by omega))
  have HP := Aside0.mk (put_f R ⟨k, v, fd⟩ (by omega))
  have hat := at_look R k.data.toList hup
  have HKB := Aside0.mk (key_f k)
  have HC := Aside0.mk hC
  have HLC := Aside0.mk hlc
  have HN : Aside0 (noteV (lookR R) R.length k v fd = if keyB k = false then 3 else if 2048 < v.size then 2 else if (!fd && !v.toList.isEmpty) = true then 3 else if (lookR R k.data.toList).isSome = true then 6 else if R.length = 16 then 2 else 0) := ⟨by
    unfold noteV wrongV
    cases hk : keyB k with
    | false => rfl
    | true =>
      by_cases h : 2048 < v.size
      · simp [h]
      · simp [h]⟩
  rw [← hat] at HN
  obtain ⟨R1, hR1⟩ : ∃ x, x = (if noteV (lookR R) R.length k v fd = 0 then putR R ⟨k, v, fd⟩ else R) := ⟨_, rfl⟩
  rw [← hR1]
  have HE : Aside0 (R1 = (if noteV (lookR R) R.length k v fd = 0 then putR R ⟨k, v, fd⟩ else R)) := ⟨hR1⟩
  generalize noteV (lookR R) R.length k v fd = r at *
  clear hR1 hC hlc h hup hat
  obtain ⟨K1, hK1⟩ := HA.out
  have HA1 : Aside0 (corncribref23_at.f K1 R k = some (((atR R k.data.toList).1 : Int), (atR R k.data.toList).2)) := ⟨hK1 K1 (Nat.le_refl _)⟩
  clear hK1 HA
  generalize (atR R k.data.toList).1 = n at *
  generalize (atR R k.data.toList).2 = fnd at *
  go_enter Try.func45, Try.ntmps45
  go_wp2_with fail
  refine (corncribref07_Key.calls k _ _ HKB.out).mono ?_
  rintro e w1 ⟨rfl, n1, rfl⟩
  have HT := Aside0.mk (H.out.below (pw_below_drewN (Below.refl _ _) n1))
  have HG := Aside0.mk (pw_below_drewN (Below.refl w.heap.size w) n1)
  have HC1 := Aside0.mk (Kd.C_drewN HC.out n1)
  generalize w.drewN n1 = w1 at *
  generalize keyB k = kb at *
  cases kb with
  | false =>
    rw [if_pos rfl] at HN
    go_wp2
    go_ret
    exact ⟨_, by rw [HN.out]; rfl, Mk.grownBy_of_below HG.out _, by rw [HE.out, HN.out, if_neg (by decide)]; exact HT.out⟩
  | true =>
    rw [if_neg (by simp)] at HN
    obtain ⟨c1, c2, c3, c0⟩ := HT.out.cells
    by_cases hv : 2048 < v.size
    · rw [if_pos hv] at HN
      go_wp2
      go_ret
      exact ⟨_, by rw [HN.out]; rfl, Mk.grownBy_of_below HG.out _, by rw [HE.out, HN.out, if_neg (by decide)]; exact HT.out⟩
    · rw [if_neg hv] at HN
      cases fd with
      | true =>
        rw [Bool.not_true, Bool.false_and, if_neg (by decide)] at HN
        go_wp2_with fail
        refine (corncribref23_at.calls K1 A c R k (n : Int) fnd w1 HC1.out HLC.out HA1.out).mono ?_
        rintro e w2 ⟨rfl, n2, rfl⟩
        have HT2 := Aside0.mk (HT.out.below (pw_below_drewN (Below.refl _ _) n2))
        have HG2 := Aside0.mk (HG.out.trans ((pw_below_drewN (Below.refl w1.heap.size w1) n2).mono HG.out.size))
        have HC2 := Aside0.mk (Kd.C_drewN HC1.out n2)
        clear c0 c1 c2 c3 HT HG HC1
        generalize w1.drewN n2 = w2 at *
        obtain ⟨c1, c2, c3, c0⟩ := HT2.out.cells
        cases fnd with
        | true =>
          rw [if_pos rfl] at HN
          go_wp2
          go_ret
          exact ⟨_, by rw [HN.out]; rfl, Mk.grownBy_of_below HG2.out _, by rw [HE.out, HN.out, if_neg (by decide)]; exact HT2.out⟩
        | false =>
          rw [if_neg (by decide)] at HN
          by_cases hl16 : R.length = 16
          · rw [if_pos hl16] at HN
            go_wp2
            go_ret
            exact ⟨_, by rw [HN.out]; rfl, Mk.grownBy_of_below HG2.out _, by rw [HE.out, HN.out, if_neg (by decide)]; exact HT2.out⟩
          · rw [if_neg hl16] at HN
            obtain ⟨K2, hK2⟩ := HP.out
            have HP2 : Aside0 (corncribref23_put.f K2 R k v true = some (putR R ⟨k, v, true⟩)) := ⟨hK2 K2 (Nat.le_refl _)⟩
            clear hK2 HP
            go_wp2_with fail
            refine (corncribref23_put.calls K2 A c R k v true _ w2 HC2.out HLC.out HP2.out).mono ?_
            rintro e w3 ⟨vn, rfl, hR, hb⟩
            have HR3 := Aside0.mk (Kd.R_lower hR (Nat.zero_le _))
            have HB3 := Aside0.mk hb
            have hva : ∃ A3 c3, vn = Value.slice A3 (putR R ⟨k, v, true⟩).length c3 := by obtain ⟨A3, c3, e3, _⟩ := Kd.R_reads hR; exact ⟨A3, c3, e3⟩
            obtain ⟨A3, c4, rfl⟩ := hva
            have HT3 := Aside0.mk (HT2.out.below hb)
            clear hR hb c0 c1 c2 c3
            obtain ⟨c1, c2, c3, c0⟩ := HT3.out.cells
            have fz2 := blk_frozen HT3.out.box 2
            go_wp2
            go_ret
            obtain ⟨h1, h2⟩ := HT2.out.setR HB3.out HR3.out
            exact ⟨_, by rw [HN.out]; rfl, (Mk.grownBy_of_below HG2.out (some b)).trans h2, by rw [HE.out, HN.out, if_pos rfl]; exact h1⟩
      | false =>
        cases hq : v.toList.isEmpty with
        | true =>
          have he : v.toList = [] := by simpa using hq
          rw [hq, Bool.not_false, Bool.not_true, Bool.and_false, if_neg (by decide)] at HN
          clear hq
          go_wp2_with fail
          refine (corncribref23_at.calls K1 A c R k (n : Int) fnd w1 HC1.out HLC.out HA1.out).mono ?_
          rintro e w2 ⟨rfl, n2, rfl⟩
          have HT2 := Aside0.mk (HT.out.below (pw_below_drewN (Below.refl _ _) n2))
          have HG2 := Aside0.mk (HG.out.trans ((pw_below_drewN (Below.refl w1.heap.size w1) n2).mono HG.out.size))
          have HC2 := Aside0.mk (Kd.C_drewN HC1.out n2)
          clear c0 c1 c2 c3 HT HG HC1
          generalize w1.drewN n2 = w2 at *
          obtain ⟨c1, c2, c3, c0⟩ := HT2.out.cells
          cases fnd with
          | true =>
            rw [if_pos rfl] at HN
            go_wp2
            go_ret
            exact ⟨_, by rw [HN.out]; rfl, Mk.grownBy_of_below HG2.out _, by rw [HE.out, HN.out, if_neg (by decide)]; exact HT2.out⟩
          | false =>
            rw [if_neg (by decide)] at HN
            by_cases hl16 : R.length = 16
            · rw [if_pos hl16] at HN
              go_wp2
              go_ret
              exact ⟨_, by rw [HN.out]; rfl, Mk.grownBy_of_below HG2.out _, by rw [HE.out, HN.out, if_neg (by decide)]; exact HT2.out⟩
            · rw [if_neg hl16] at HN
              obtain ⟨K2, hK2⟩ := HP.out
              have HP2 : Aside0 (corncribref23_put.f K2 R k v false = some (putR R ⟨k, v, false⟩)) := ⟨hK2 K2 (Nat.le_refl _)⟩
              clear hK2 HP
              go_wp2_with fail
              refine (corncribref23_put.calls K2 A c R k v false _ w2 HC2.out HLC.out HP2.out).mono ?_
              rintro e w3 ⟨vn, rfl, hR, hb⟩
              have HR3 := Aside0.mk (Kd.R_lower hR (Nat.zero_le _))
              have HB3 := Aside0.mk hb
              have hva : ∃ A3 c3, vn = Value.slice A3 (putR R ⟨k, v, false⟩).length c3 := by obtain ⟨A3, c3, e3, _⟩ := Kd.R_reads hR; exact ⟨A3, c3, e3⟩
              obtain ⟨A3, c4, rfl⟩ := hva
              have HT3 := Aside0.mk (HT2.out.below hb)
              clear hR hb c0 c1 c2 c3
              obtain ⟨c1, c2, c3, c0⟩ := HT3.out.cells
              have fz2 := blk_frozen HT3.out.box 2
              go_wp2
              go_ret
              obtain ⟨h1, h2⟩ := HT2.out.setR HB3.out HR3.out
              exact ⟨_, by rw [HN.out]; rfl, (Mk.grownBy_of_below HG2.out (some b)).trans h2, by rw [HE.out, HN.out, if_pos rfl]; exact h1⟩
        | false =>
          have he : (!v.toList.isEmpty) = true := by rw [hq]; rfl
          rw [hq, Bool.not_false, Bool.and_true, if_pos rfl] at HN
          clear hq
          go_wp2
          go_ret
          exact ⟨_, by rw [HN.out]; rfl, Mk.grownBy_of_below HG.out _, by rw [HE.out, HN.out, if_neg (by decide)]; exact HT.out⟩

set_option maxRecDepth 100000 in
set_option maxHeartbeats 2000000 in
/-- Write. -/
theorem refWrite_walk (w : World) (b : Nat) (num ts : Int) (vR vW : Value) (R W : List S96) (h : RefT w b num ts vR vW R W) (hup : Up (keysR W)) (hl : W.length ≤ 16) (k v : ByteArray) (fd : Bool) :
    Calls Try.prog 46 #[.pointer (some ⟨b, 0, none⟩), .string k, .string v, .bool fd] w fun e w' => ∃ vW', e = .returned (.int .i64 (writeV (lookR W) W.length k v)) ∧ w.grownBy w' (some b) ∧ RefT w' b num ts vR vW' R (if writeV (lookR W) W.length k v = 0 then putR W ⟨k, v, fd⟩ else W) := by
  have H := Aside0.mk h
  obtain ⟨A, c, rfl, hlc, hC⟩ := Kd.R_reads h.ww
  have HA := Aside0.mk (at_f W k (by omega))
  have HP := Aside0.mk (put_f W ⟨k, v, fd⟩ (by omega))
  have hat := at_look W k.data.toList hup
  have HKB := Aside0.mk (key_f k)
  have HC := Aside0.mk hC
  have HLC := Aside0.mk hlc
  have HN : Aside0 (writeV (lookR W) W.length k v = if keyB k = false then 3 else if 2048 < v.size then 2 else if (lookR W k.data.toList).isSome = false ∧ W.length = 16 then 2 else 0) := ⟨by
    unfold writeV wrongV
    cases hk : keyB k with
    | false => rfl
    | true =>
      by_cases h : 2048 < v.size
      · simp [h]
      · simp [h]⟩
  rw [← hat] at HN
  obtain ⟨R1, hR1⟩ : ∃ x, x = (if writeV (lookR W) W.length k v = 0 then putR W ⟨k, v, fd⟩ else W) := ⟨_, rfl⟩
  rw [← hR1]
  have HE : Aside0 (R1 = (if writeV (lookR W) W.length k v = 0 then putR W ⟨k, v, fd⟩ else W)) := ⟨hR1⟩
  generalize writeV (lookR W) W.length k v = r at *
  clear hR1 hC hlc h hup hat
  obtain ⟨K1, hK1⟩ := HA.out
  have HA1 : Aside0 (corncribref23_at.f K1 W k = some (((atR W k.data.toList).1 : Int), (atR W k.data.toList).2)) := ⟨hK1 K1 (Nat.le_refl _)⟩
  clear hK1 HA
  generalize (atR W k.data.toList).1 = n at *
  generalize (atR W k.data.toList).2 = fnd at *
  go_enter Try.func46, Try.ntmps46
  go_wp2_with fail
  refine (corncribref07_Key.calls k _ _ HKB.out).mono ?_
  rintro e w1 ⟨rfl, n1, rfl⟩
  have HT := Aside0.mk (H.out.below (pw_below_drewN (Below.refl _ _) n1))
  have HG := Aside0.mk (pw_below_drewN (Below.refl w.heap.size w) n1)
  have HC1 := Aside0.mk (Kd.C_drewN HC.out n1)
  generalize w.drewN n1 = w1 at *
  generalize keyB k = kb at *
  cases kb with
  | false =>
    rw [if_pos rfl] at HN
    go_wp2
    go_ret
    exact ⟨_, by rw [HN.out]; rfl, Mk.grownBy_of_below HG.out _, by rw [HE.out, HN.out, if_neg (by decide)]; exact HT.out⟩
  | true =>
    rw [if_neg (by simp)] at HN
    obtain ⟨c1, c2, c3, c0⟩ := HT.out.cells
    by_cases hv : 2048 < v.size
    · rw [if_pos hv] at HN
      go_wp2
      go_ret
      exact ⟨_, by rw [HN.out]; rfl, Mk.grownBy_of_below HG.out _, by rw [HE.out, HN.out, if_neg (by decide)]; exact HT.out⟩
    · rw [if_neg hv] at HN
      go_wp2_with fail
      refine (corncribref23_at.calls K1 A c W k (n : Int) fnd w1 HC1.out HLC.out HA1.out).mono ?_
      rintro e w2 ⟨rfl, n2, rfl⟩
      have HT2 := Aside0.mk (HT.out.below (pw_below_drewN (Below.refl _ _) n2))
      have HG2 := Aside0.mk (HG.out.trans ((pw_below_drewN (Below.refl w1.heap.size w1) n2).mono HG.out.size))
      have HC2 := Aside0.mk (Kd.C_drewN HC1.out n2)
      clear c0 c1 c2 c3 HT HG HC1
      generalize w1.drewN n2 = w2 at *
      obtain ⟨c1, c2, c3, c0⟩ := HT2.out.cells
      cases fnd with
      | true =>
        rw [if_neg (by simp)] at HN
        obtain ⟨K2, hK2⟩ := HP.out
        have HP2 : Aside0 (corncribref23_put.f K2 W k v fd = some (putR W ⟨k, v, fd⟩)) := ⟨hK2 K2 (Nat.le_refl _)⟩
        clear hK2 HP
        go_wp2_with fail
        refine (corncribref23_put.calls K2 A c W k v fd _ w2 HC2.out HLC.out HP2.out).mono ?_
        rintro e w3 ⟨vn, rfl, hR, hb⟩
        have HR3 := Aside0.mk (Kd.R_lower hR (Nat.zero_le _))
        have HB3 := Aside0.mk hb
        have hva : ∃ A3 c3, vn = Value.slice A3 (putR W ⟨k, v, fd⟩).length c3 := by obtain ⟨A3, c3, e3, _⟩ := Kd.R_reads hR; exact ⟨A3, c3, e3⟩
        obtain ⟨A3, c4, rfl⟩ := hva
        have HT3 := Aside0.mk (HT2.out.below hb)
        clear hR hb c0 c1 c2 c3
        obtain ⟨c1, c2, c3, c0⟩ := HT3.out.cells
        have fz2 := blk_frozen HT3.out.box 3
        go_wp2
        go_ret
        obtain ⟨h1, h2⟩ := HT2.out.setW HB3.out HR3.out
        exact ⟨_, by rw [HN.out]; rfl, (Mk.grownBy_of_below HG2.out (some b)).trans h2, by rw [HE.out, HN.out, if_pos rfl]; exact h1⟩
      | false =>
        by_cases hl16 : W.length = 16
        · rw [if_pos ⟨rfl, hl16⟩] at HN
          go_wp2
          go_ret
          exact ⟨_, by rw [HN.out]; rfl, Mk.grownBy_of_below HG2.out _, by rw [HE.out, HN.out, if_neg (by decide)]; exact HT2.out⟩
        · rw [if_neg (fun h => hl16 h.2)] at HN
          obtain ⟨K2, hK2⟩ := HP.out
          have HP2 : Aside0 (corncribref23_put.f K2 W k v fd = some (putR W ⟨k, v, fd⟩)) := ⟨hK2 K2 (Nat.le_refl _)⟩
          clear hK2 HP
          go_wp2_with fail
          refine (corncribref23_put.calls K2 A c W k v fd _ w2 HC2.out HLC.out HP2.out).mono ?_
          rintro e w3 ⟨vn, rfl, hR, hb⟩
          have HR3 := Aside0.mk (Kd.R_lower hR (Nat.zero_le _))
          have HB3 := Aside0.mk hb
          have hva : ∃ A3 c3, vn = Value.slice A3 (putR W ⟨k, v, fd⟩).length c3 := by obtain ⟨A3, c3, e3, _⟩ := Kd.R_reads hR; exact ⟨A3, c3, e3⟩
          obtain ⟨A3, c4, rfl⟩ := hva
          have HT3 := Aside0.mk (HT2.out.below hb)
          clear hR hb c0 c1 c2 c3
          obtain ⟨c1, c2, c3, c0⟩ := HT3.out.cells
          have fz2 := blk_frozen HT3.out.box 3
          go_wp2
          go_ret
          obtain ⟨h1, h2⟩ := HT2.out.setW HB3.out HR3.out
          exact ⟨_, by rw [HN.out]; rfl, (Mk.grownBy_of_below HG2.out (some b)).trans h2, by rw [HE.out, HN.out, if_pos rfl]; exact h1⟩
end Go.Proofs.Yteibcojjbcihbaa.PT
