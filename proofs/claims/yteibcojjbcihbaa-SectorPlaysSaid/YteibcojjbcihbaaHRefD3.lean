/- The document's device: Crash; the book's SameInts. -/
import Derived.Test.YteibcojjbcihbaaHRefD2
import Derived.Test.YteibcojjbcihbaaHTears
namespace Go.Proofs.Yteibcojjbcihbaa.Sec
open Go.RowKit Go.Proofs.YteibcojjbcihbaaW.PrintWords Go.Proofs.YteibcojjbcihbaaW.PrintLast Go.Proofs.YteibcojjbcihbaaW.PrintMore Go.Maps Go.Proofs.Yteibcojjbcihbaa.Mk
open Go.Proofs.Yteibcojjbcihbaa.Txn (unguard blk_newI)
open Go.Lib (byteCells byteCells_length byteCells_append byteCells_one)
set_option linter.unusedVariables false
set_option linter.unusedSimpArgs false

/-- How many keys are less than i. -/
def cntB (ks : List Int) (i : Nat) : Nat := ks.countP (fun x => decide (x < (i : Int)))
theorem cntB_at {ks : List Int} (h : ks.Pairwise (fun a b => a < b)) {i : Nat} (hi : (i : Int) ∈ ks) : ks.getD (cntB ks i) 0 = (i : Int) ∧ cntB ks (i + 1) = cntB ks i + 1 ∧ cntB ks i < ks.length := by
  obtain ⟨A, B, rfl⟩ := List.append_of_mem hi
  rw [List.pairwise_append] at h
  obtain ⟨_, h2, h3⟩ := h
  rw [List.pairwise_cons] at h2
  have hA : ∀ x, x ∈ A → x < (i : Int) := fun x hx => h3 x hx i (List.mem_cons_self)
  have hB : ∀ x, x ∈ B → (i : Int) < x := fun x hx => h2.1 x hx
  have cA : ∀ j : Nat, i ≤ j → A.countP (fun x => decide (x < (j : Int))) = A.length := fun j hj => List.countP_eq_length.2 (fun x hx => by have := hA x hx; simp; omega)
  have cB : ∀ j : Nat, j ≤ i + 1 → B.countP (fun x => decide (x < (j : Int))) = 0 := fun j hj => List.countP_eq_zero.2 (fun x hx => by have := hB x hx; simp; omega)
  unfold cntB
  rw [List.countP_append, List.countP_append, List.countP_cons, List.countP_cons, cA i (Nat.le_refl _), cA (i + 1) (Nat.le_succ _), cB i (Nat.le_succ _), cB (i + 1) (Nat.le_refl _)]
  rw [if_neg (by simp), if_pos (by simp; omega), Nat.zero_add, Nat.add_zero]
  refine ⟨?_, by omega, by simp⟩
  rw [List.getD_eq_getElem?_getD, List.getElem?_append_right (Nat.le_refl _), Nat.sub_self]
  rfl
theorem cntB_not {ks : List Int} {i : Nat} (hi : (i : Int) ∉ ks) : cntB ks i = cntB ks (i + 1) := by
  unfold cntB
  apply List.countP_congr
  intro x hx
  have hne : x ≠ (i : Int) := fun e => hi (by rw [← e]; exact hx)
  simp
  omega
theorem cntB_zero {ks : List Int} (h : ∀ x, x ∈ ks → 0 ≤ x) : cntB ks 0 = 0 := List.countP_eq_zero.2 (fun x hx => by have := h x hx; simp; omega)
theorem cntB_all {ks : List Int} {n : Nat} (h : ∀ x, x ∈ ks → x < (n : Int)) : cntB ks n = ks.length := List.countP_eq_length.2 (fun x hx => by have := h x hx; simp; omega)
theorem cntB_le (ks : List Int) (i : Nat) : cntB ks i ≤ ks.length := List.countP_le_length
theorem pick_zero : (Int.tmod (Int.tmod 0 64 + 64) 64) = 0 := by decide
section
variable {w w' : World} {r g1 g2 c1 c2 : Nat} {sl1 sl2 : List Value} {S : List (List UInt8)} {f : Cache} {fuse : Int} {down : Bool}
set_option maxRecDepth 100000 in
set_option maxHeartbeats 4000000 in
theorem crashR_walk (h : RefAt w r g1 g2 c1 c2 sl1 sl2 S f fuse down) (ks : List Int) (hk : KeysOf ks f) (A : Option Addr) (c : Nat) (picks : List Int) (hp : ∀ w', Chg w w' r g1 g2 → Kd.C (Kd.int .i64) w' A picks.length picks) :
    Calls Try.prog 59 #[.pointer (some ⟨r, 0, none⟩), .slice A picks.length c] w fun e w' => e = .returned (.tuple #[]) ∧ Chg w w' r g1 g2 ∧ RefAt w' r g1 g2 c1 c2 sl1 sl2 (torn S f ks picks ks.length) (fun _ => none) 0 false := by
  have HOK := Aside0.mk h.ok
  have hfew := h.ok.few
  have hkm : ∀ x, x ∈ ks → 0 ≤ x ∧ x < (S.length : Int) := fun x hx => by
    obtain ⟨s, hs⟩ := Option.isSome_iff_exists.1 ((hk.mem x).1 hx)
    have := h.ok.cached x s hs
    exact ⟨this.1, this.2.1⟩
  have hz := cntB_zero (fun x hx => (hkm x hx).1)
  have hall := cntB_all (fun x hx => (hkm x hx).2)
  have hkl : ks.length ≤ 2048 := by
    have h1 := cntB_le ks S.length
    have : ks.length ≤ S.length := by
      have hnd : (hasL f S.length).length ≤ S.length := hasL_le f S.length
      have hk2 : ∀ i, cntB ks i ≤ i := fun i => by
        induction i with
        | zero => rw [hz]; omega
        | succ i ih =>
          by_cases hm : (i : Int) ∈ ks
          · rw [(cntB_at hk.up hm).2.1]; omega
          · rw [← cntB_not hm]; omega
      rw [← hall]; exact hk2 _
    omega
  have HPK := Aside0.mk hp
  have hpm := Kd.C_max (hp w (Chg.of_below (Below.refl _ _)))
  have HK := Aside0.mk hk
  have HALL := Aside0.mk hall
  have H1 : Aside0 (RefAt w r g1 g2 c1 c2 sl1 sl2 (torn S f ks picks (cntB ks 0)) (clN f 0) fuse down) := ⟨by rw [hz, clN_zero HOK.out]; exact h⟩
  have HC1 : Aside0 (Chg w w r g1 g2) := ⟨Chg.of_below (Below.refl _ _)⟩
  clear h hp hk hkm hall
  go_enter Try.func59, Try.ntmps59
  go_wp2
  go_loopg [4, 5] (S.length + 1) (fun kq v4 v5 wr => ∃ k : Nat, v4 = .int .i64 (cntB ks k : Nat) ∧ v5 = .int .i64 k ∧ k ≤ S.length ∧ k + kq = S.length + 1 ∧ Aside0 (Chg w wr r g1 g2) ∧ Aside0 (RefAt wr r g1 g2 c1 c2 sl1 sl2 (torn S f ks picks (cntB ks k)) (clN f k) fuse down))
  case atStart => exact ⟨0, by rw [hz]; rfl, rfl, by omega, by omega, HC1, H1⟩
  case round =>
    clear HC1 H1 hz
    obtain ⟨k, rfl, rfl, hk, hkq, HC, H⟩ := hrel
    have hcle := cntB_le ks k
    obtain ⟨d0, d1, d2, d3⟩ := H.out.cells
    have htl := torn_len S f ks picks (cntB ks k)
    have HTL := Aside0.mk htl
    rw [htl] at d0 d1
    clear htl
    by_cases hlt : k < S.length
    · have HLT : Aside0 (k < (torn S f ks picks (cntB ks k)).length) := ⟨by rw [HTL.out]; exact hlt⟩
      have q2 := H.out.at2 k HLT.out
      have hnk : nw (clN f k) k = nw f k := by unfold nw; rw [clN_at]
      rw [hnk] at q2
      clear hnk
      cases hf : f (k : Int) with
      | some s =>
        rw [nw_some hf] at q2
        have hs64 := (HOK.out.cached _ s hf).2.2
        have hne := empty_ne hs64
        have hmem : (k : Int) ∈ ks := (HK.out.mem _).2 (by rw [hf]; rfl)
        obtain ⟨e1, e2, e3⟩ := cntB_at HK.out.up hmem
        have htn : torn S f ks picks (cntB ks (k + 1)) = (torn S f ks picks (cntB ks k)).set k (s.data.toList.take (pickN (picks.getD (cntB ks k) 0)) ++ ((torn S f ks picks (cntB ks k)).getD k []).drop (pickN (picks.getD (cntB ks k) 0))) := by
          rw [e2]
          show (torn S f ks picks (cntB ks k)).set (ks.getD (cntB ks k) 0).toNat ((textAt f (ks.getD (cntB ks k) 0)).take (pickN (picks.getD (cntB ks k) 0)) ++ ((torn S f ks picks (cntB ks k)).getD (ks.getD (cntB ks k) 0).toNat []).drop (pickN (picks.getD (cntB ks k) 0))) = _
          rw [e1, Int.toNat_natCast]
          unfold textAt
          rw [hf]
        have HTN := Aside0.mk htn
        have HE2 : Aside0 (((cntB ks k : Nat) : Int) + 1 = ((cntB ks (k + 1) : Nat) : Int)) := ⟨by rw [e2]; rfl⟩
        have HNL : Aside0 ((torn S f ks picks (cntB ks (k + 1))).length = S.length) := ⟨torn_len _ _ _ _ _⟩
        have q1 := H.out.at1 k HLT.out
        have hgl : ((torn S f ks picks (cntB ks k)).getD k []).length = 64 := by
          rw [List.getD_eq_getElem?_getD, List.getElem?_eq_getElem HLT.out, Option.getD_some]
          exact H.out.ok.len _ (List.getElem_mem HLT.out)
        clear htn e1 e2 hf hmem
        obtain ⟨pv, hpv⟩ : ∃ pv, pv = picks.getD (cntB ks k) 0 := ⟨_, rfl⟩
        rw [← hpv] at HTN
        generalize hcc : cntB ks k = cc at *
        have hPC := HPK.out wr HC.out
        generalize torn S f ks picks cc = S' at *
        generalize S'.getD k [] = old at *
        have HPV := Aside0.mk hpv
        clear hpv
        go_upto_if 28 with (fail)
        go_cut [6] (fun v6 wc => v6 = .int .i64 pv ∧ wc = wr)
        case first =>
          by_cases hjp : cc < picks.length
          · obtain ⟨ap, rfl, qp⟩ := Kd.at_int hPC (cc : Int) (by omega) (by omega)
            rw [Int.toNat_natCast] at qp
            have hpi : Go.Proofs.YteibcojjbcihbaaW.PrintWords.rd picks (cc : Int) = pv := by rw [HPV.out]; unfold Go.Proofs.YteibcojjbcihbaaW.PrintWords.rd; rw [Int.toNat_natCast]
            rw [hpi] at qp
            clear hpi
            go_wp2
            go_meet
            case rel => exact ⟨rfl, rfl⟩
          · have h0 : pv = 0 := by rw [HPV.out, List.getD_eq_getElem?_getD, List.getElem?_eq_none (by omega)]; rfl
            have H0 := Aside0.mk h0
            clear h0
            go_wp2
            go_meet
            case rel => exact ⟨by rw [H0.out], rfl⟩
        case rest =>
          obtain ⟨rfl, rfl⟩ := hcut
          have hwr : wrap64 (pv.tmod 64 + 64) = pv.tmod 64 + 64 := by
            have h1 := Int.tmod_lt_of_pos pv (show (0:Int) < 64 by omega)
            have h2 := Int.lt_tmod_of_pos pv (show (0:Int) < 64 by omega)
            unfold wrap64
            omega
          have HWR := Aside0.mk hwr
          clear hwr
          go_upto_if 40 with (fail)
          go_cut [7] (fun v7 wc' => v7 = .int .i64 ((pv.tmod 64 + 64).tmod 64) ∧ wc' = wc)
          case first =>
            by_cases hp0 : pv = 0
            · have hp0b : (pv == 0) = true := by simpa using hp0
              have HP0 := Aside0.mk hp0
              clear hp0
              go_wp2
              go_meet
              case rel => exact ⟨by rw [HP0.out, pick_zero], rfl⟩
            · have hp0b : (pv == 0) = false := by simpa using hp0
              clear hp0
              go_wp2
              go_meet
              case rel => exact ⟨by rw [HWR.out], rfl⟩
          case rest =>
            obtain ⟨rfl, rfl⟩ := hcut
            go_upto_if 42 with (fail)
            go_cut [7] (fun v7 wc' => v7 = .int .i64 ((pickN pv : Nat) : Int) ∧ wc' = wc)
            case first =>
              by_cases hp1 : pv = 1
              · have hp1b : (pv == 1) = true := by simpa using hp1
                have HP1 : Aside0 (pickN pv = 64) := ⟨by unfold pickN; rw [if_pos hp1]⟩
                clear hp1
                go_wp2
                go_meet
                case rel => exact ⟨by rw [HP1.out]; rfl, rfl⟩
              · have hp1b : (pv == 1) = false := by simpa using hp1
                have HP1 : Aside0 (((pickN pv : Nat) : Int) = (pv.tmod 64 + 64).tmod 64) := ⟨by unfold pickN; rw [if_neg hp1]; have := pick_mod pv; omega⟩
                clear hp1
                go_wp2
                go_meet
                case rel => exact ⟨by rw [HP1.out], rfl⟩
            case rest =>
              obtain ⟨rfl, rfl⟩ := hcut
              have hnp := pick_le pv
              generalize pickN pv = np at *
              have hol : (txt old).size = 64 := by show old.toArray.size = 64; rw [List.size_toArray]; exact hgl
              have hnl : (s.data.toList.take np ++ old.drop np).length = 64 := by rw [List.length_append, List.length_take, List.length_drop, Array.length_toList, hgl, show s.data.size = 64 from hs64]; omega
              have HTE : Aside0 (txt (s.data.toList.take np ++ old.drop np) = s.extract 0 np ++ (txt old).extract np 64) := ⟨tear_eq hol hs64 (by simp [txt])⟩
              have HDR : Aside0 (RefAt wc.drew r g1 g2 c1 c2 sl1 sl2 S' (clN f k) fuse down) := ⟨H.out.below (below_drew1 (Below.refl _ _))⟩
              have hx := HDR.out.write k HLT.out _ hnl
              rw [← HTN.out, HTE.out] at hx
              have HX := Aside0.mk hx
              have HY := Aside0.mk (hx.clear HNL.out HOK.out hlt)
              have HCX : Aside0 (Chg w ((wc.drew.setCell ⟨g1, k, none⟩ (.string (s.extract 0 np ++ (txt old).extract np 64))).setCell ⟨g2, k, none⟩ (.string ⟨#[]⟩)) r g1 g2) := ⟨((HC.out.trans (Chg.of_below (below_drew1 (Below.refl _ _)))).trans (Chg.of (set_grown _ g1 k _) (fun k e => .inr (.inl (by injection e with e; exact e.symm))))).trans (Chg.of (set_grown _ g2 k _) (fun k e => .inr (.inr (by injection e with e; exact e.symm))))⟩
              clear hx hnl
              have y0 : ({ wc with drawn := wc.drawn + 1 } : World).cell? ⟨r, 0, none⟩ = some (.slice (some ⟨g1, 0, none⟩) S.length c1) := d0
              have y1 : ({ wc with drawn := wc.drawn + 1 } : World).cell? ⟨r, 1, none⟩ = some (.slice (some ⟨g2, 0, none⟩) S.length c2) := d1
              have y2 : ({ wc with drawn := wc.drawn + 1 } : World).cell? ⟨g2, k, none⟩ = some (.string s) := q2
              have y3 : ({ wc with drawn := wc.drawn + 1 } : World).cell? ⟨g1, k, none⟩ = some (.string (txt old)) := q1
              have hb1 : (0 : Int) ≤ (np : Int) := by omega
              have hb2 : (np : Int) ≤ (64 : Int) := by omega
              go_wp2_with fail
              go_still_tail 25, (by kernel_rfl)
              change wpList _ _ _ _ _ wc.drew
              have fz1 := blk_frozen HDR.out.on k
              have z1 : wc.drew.cell? ⟨g1, k, none⟩ = some (.string (txt old)) := q1
              obtain ⟨x0, x1, x2, x3⟩ := HX.out.cells
              rw [HNL.out] at x0 x1
              have x5 := HX.out.at2 k (by rw [HNL.out]; exact hlt)
              have x6 := blk_frozen HX.out.new k
              generalize nw (clN f k) k = ol2 at *
              clear q1 y0 y1 y2 y3 d0 d1 d2 d3 q2 HDR HTE hol
              generalize s.extract 0 np ++ (txt old).extract np 64 = nt at *
              generalize wc.drew = w2 at *
              go_wp2
              go_roundg (gk - 1)
              case measure => omega
              case rel => exact ⟨k + 1, by rw [← HE2.out], by go_num, by omega, by omega, HCX, HY⟩
      | none =>
        rw [nw_none hf] at q2
        have hmem : (k : Int) ∉ ks := fun hm => by have := (HK.out.mem _).1 hm; rw [hf] at this; cases this
        have HFL := Aside0.mk (And.intro (cntB_not hmem) (clN_none hf))
        clear hf hmem
        generalize hcc : cntB ks k = cc at *
        go_wp2
        go_roundg (gk - 1)
        case measure => omega
        case rel => exact ⟨k + 1, by rw [HFL.out.1], by go_num, by omega, by omega, HC, ⟨by rw [← HFL.out.1, ← HFL.out.2]; exact H.out⟩⟩
    · obtain rfl : k = S.length := by omega
      rw [HALL.out, clN_all HOK.out] at H
      have fz2 := blk_frozen H.out.box 2
      have fz3 := blk_frozen H.out.box 3
      clear hcle
      generalize cntB ks S.length = cc at *
      go_wp2
      go_end0
      have hg : wr.grownBy ((wr.setCell ⟨r, 2, none⟩ (.int .i64 0)).setCell ⟨r, 3, none⟩ (.bool false)) (some r) := (set_grown wr r 2 _).trans (set_grown _ r 3 _)
      exact ⟨rfl, HC.out.trans (Chg.of hg (fun k e => .inl (by injection e with e; exact e.symm))), H.out.rebox hg (blk_put (blk_put H.out.box 2 _ rfl) 3 _ rfl) (by decide)⟩
end
set_option maxRecDepth 100000 in
theorem sameInts_walk (w : World) (A : Option Addr) (c : Nat) (A2 : Option Addr) (c2 : Nat) (l : List Int) (hr : Kd.C (Kd.int .i64) w A l.length l) (hr2 : Kd.C (Kd.int .i64) w A2 l.length l) :
    Calls Try.prog 60 #[.slice A l.length c, .slice A2 l.length c2] w fun e w' => e = .returned (.bool true) ∧ Below w.heap.size w w' := by
  have hm := Kd.C_max hr
  have HR := Aside0.mk hr
  have HR2 := Aside0.mk hr2
  clear hr hr2
  go_enter Try.func60, Try.ntmps60
  go_wp2
  go_loopg [5] (l.length + 1) (fun kq v5 wr => ∃ k : Nat, v5 = .int .i64 k ∧ k ≤ l.length ∧ k + kq = l.length + 1 ∧ Aside0 (Below w.heap.size w wr))
  case atStart => exact ⟨0, rfl, by omega, by omega, ⟨Below.refl _ _⟩⟩
  case round =>
    obtain ⟨k, rfl, hk, hkq, HB⟩ := hrel
    by_cases hlt : k < l.length
    · obtain ⟨ad, rfl, q1⟩ := Kd.at_int (Kd.C_below HR.out HB.out) (k : Int) (by omega) (by omega)
      obtain ⟨ad2, rfl, q2⟩ := Kd.at_int (Kd.C_below HR2.out HB.out) (k : Int) (by omega) (by omega)
      rw [Int.toNat_natCast] at q1 q2
      generalize Go.Proofs.YteibcojjbcihbaaW.PrintWords.rd l (k : Int) = x at *
      go_wp2
      go_quiet (fail)
      go_wp2
      go_roundg (gk - 1)
      case measure => omega
      case rel => exact ⟨k + 1, by go_num, by omega, by omega, ⟨pw_below_drewN HB.out _⟩⟩
    · obtain rfl : k = l.length := by omega
      go_wp2
      go_ret
      exact ⟨rfl, HB.out⟩
end Go.Proofs.Yteibcojjbcihbaa.Sec
