/- Chains, walked: At, Sweep, Add of chains that may be. -/
import Derived.Test.YtaldfbmjmpkmmaaHShC
namespace Go.Proofs.Ytaldfbmjmpkmmaa.PL
open Go.RowKit Go.Proofs.YtaldfbmjmpkmmaaW.PrintWords Go.Proofs.YtaldfbmjmpkmmaaW.PrintLast Go.Proofs.YtaldfbmjmpkmmaaW.PrintMore Go.Shelf Go.Sort
set_option linter.unusedVariables false
set_option linter.unusedSimpArgs false
def verV (v : Ver) : Value := .agg #[.int .i64 v.f0, .string v.f1, .bool v.f2]
set_option maxRecDepth 100000 in
set_option maxHeartbeats 1000000 in
theorem at_walk (w : World) (A : Option Addr) (c : Nat) (l : Chain) (t : Int) (hr : Kd.C k29 w A l.length l) (hc : l.length ≤ c) (h : ChainOk l) :
    Calls Try.prog 34 #[.slice A l.length c, .int .i64 t] w fun e w' => e = .returned (.tuple #[.agg #[.int .i64 (atV l t).1.f0, .string (atV l t).1.f1, .bool (atV l t).1.f2], .bool (atV l t).2, .int .i64 0]) ∧ Below w.heap.size w w' := by
  have HR := Aside0.mk hr
  have HC := Aside0.mk hc
  have HO := Aside0.mk h
  have hl := h.len
  have hul := until_le l t
  have hu := Try.underlying29
  have HA : Aside0 (atV l t = if untilV l t = 0 then (zVer, false) else (l.getD (untilV l t - 1) zVer, true)) := ⟨rfl⟩
  have HUN : Aside0 (∀ W, Below w.heap.size w W → Calls Try.prog 72 #[.slice A l.length c, .int .i64 t] W fun e w' => e = .returned (.int .i64 ((untilV l t : Nat) : Int)) ∧ Below W.heap.size W w') := ⟨fun W hW => until_walk W A c l t (Kd.C_below hr hW) h⟩
  have HCH : Aside0 (∀ W, Below w.heap.size w W → Calls Try.prog 71 #[.slice A l.length c] W fun e w' => e = .returned (.tuple #[.int .i64 0, .int .i64 0]) ∧ Below W.heap.size W w') := ⟨fun W hW => check_walk W A c l (Kd.C_below hr hW) hc h⟩
  generalize atV l t = r at *
  generalize untilV l t = n at *
  clear hr hc h
  go_enter Try.func34, Try.ntmps34
  have hbx : (w.alloc (.cells #[.int .i64 0, .string ⟨#[]⟩, .bool false] 29)).heap[w.heap.size]? = some (.cells #[.int .i64 0, .string ⟨#[]⟩, .bool false] 29 (0, 0)) := blk_new _ _
  have hb0 := below_alloc (Below.refl _ w) (.cells #[.int .i64 0, .string ⟨#[]⟩, .bool false] 29)
  go_wp2_with fail
  refine (HCH.out _ hb0).mono ?_
  rintro e w1 ⟨rfl, hb1⟩
  have HB1 : Aside0 (Below w.heap.size w w1) := ⟨hb0.trans (hb1.mono hb0.size)⟩
  have BX1 := Aside0.mk (blk_below hbx hb1)
  clear hb1 hbx hb0
  go_wp2_with fail
  refine (HUN.out w1 HB1.out).mono ?_
  rintro e w2 ⟨rfl, hb2⟩
  have HB2 : Aside0 (Below w.heap.size w w2) := ⟨HB1.out.trans (hb2.mono HB1.out.size)⟩
  have BX2 := Aside0.mk (blk_below BX1.out hb2)
  clear hb2 BX1 HB1
  have y0 := blk_cell BX2.out 0
  have y1 := blk_cell BX2.out 1
  have y2 := blk_cell BX2.out 2
  have f0 := blk_frozen BX2.out 0
  have f1 := blk_frozen BX2.out 1
  have f2 := blk_frozen BX2.out 2
  by_cases hn : n = 0
  · subst hn
    rw [if_pos rfl] at HA
    go_wp2_with fail
    (try simp only [Exit.inBlock, Exit.then])
    refine bodyPost_ret (results_list (rs := [.cell 4 29, .tmp 5, .tmp 6]) rfl (by simp) (Vals.cell w.heap.size 29 _ (0, 0) _ rfl (blk_put (blk_put (blk_put BX2.out 0 _ rfl) 1 _ rfl) 2 _ rfl) Try.underlying29 rfl (by kernel_rfl) (Vals.tmp (Vals.tmp Vals.nil)))) rfl ?_
    exact ⟨by rw [HA.out]; rfl, ((HB2.out.setCell (Nat.le_refl _) _).setCell (Nat.le_refl _) _).setCell (Nat.le_refl _) _⟩
  · rw [if_neg hn] at HA
    obtain ⟨m, rfl⟩ : ∃ m, n = m + 1 := ⟨n - 1, by omega⟩
    obtain ⟨ad, rfl, c0, c1, c2⟩ := at_T29 (Kd.C_below HR.out HB2.out) (m : Int) (by omega) (by omega)
    rw [rdV_getD l m (by omega), Int.toNat_natCast] at c0 c1 c2
    have hm1 : ((m + 1 : Nat) : Int) - 1 = (m : Int) := by omega
    rw [Nat.add_sub_cancel] at HA
    generalize l.getD m zVer = v at *
    go_wp2_with fail
    (try simp only [Exit.inBlock, Exit.then])
    refine bodyPost_ret (results_list (rs := [.cell 4 29, .tmp 5, .tmp 6]) rfl (by simp) (Vals.cell w.heap.size 29 _ (0, 0) _ rfl (blk_put (blk_put (blk_put BX2.out 0 _ rfl) 1 _ rfl) 2 _ rfl) Try.underlying29 rfl (by kernel_rfl) (Vals.tmp (Vals.tmp Vals.nil)))) rfl ?_
    exact ⟨by rw [HA.out]; rfl, ((HB2.out.setCell (Nat.le_refl _) _).setCell (Nat.le_refl _) _).setCell (Nat.le_refl _) _⟩
set_option maxRecDepth 100000 in
set_option maxHeartbeats 1000000 in
theorem sweepC_walk (w : World) (A : Option Addr) (c : Nat) (l : Chain) (t : Int) (hr : Kd.C k29 w A l.length l) (hc : l.length ≤ c) (h : ChainOk l) :
    Calls Try.prog 80 #[.slice A l.length c, .int .i64 t] w fun e w' => ∃ v, e = .returned (.tuple #[v, .int .i64 0]) ∧ Kd.R k29 29 w' w.heap.size (fun _ => True) v (sweepC l t) ∧ Below w.heap.size w w' := by
  have HR := Aside0.mk hr
  have HC := Aside0.mk hc
  have hl := h.len
  have hul := until_le l t
  have hu := Try.underlying29
  have HUN : Aside0 (∀ W, Below w.heap.size w W → Calls Try.prog 72 #[.slice A l.length c, .int .i64 t] W fun e w' => e = .returned (.int .i64 ((untilV l t : Nat) : Int)) ∧ Below W.heap.size W w') := ⟨fun W hW => until_walk W A c l t (Kd.C_below hr hW) h⟩
  have HCH : Aside0 (∀ W, Below w.heap.size w W → Calls Try.prog 71 #[.slice A l.length c] W fun e w' => e = .returned (.tuple #[.int .i64 0, .int .i64 0]) ∧ Below W.heap.size W w') := ⟨fun W hW => check_walk W A c l (Kd.C_below hr hW) hc h⟩
  have hfr : sweepFrom l t ≤ l.length := by unfold sweepFrom; split <;> omega
  obtain ⟨i0, hi0, _, hsz, _⟩ := info_parts infoV
  have HCL : Aside0 (∀ W, Below w.heap.size w W → Calls Try.prog 114 #[.slice (if c = sweepFrom l t then A else A.map (·.add (sweepFrom l t * 3))) (l.length - sweepFrom l t) (c - sweepFrom l t)] W fun e w' => ∃ v, e = .returned v ∧ Kd.R k29 29 w' W.heap.size (fun _ => True) v (sweepC l t) ∧ Below W.heap.size W w') := ⟨fun W hW => by
    have h1 := Kd.C_drop (Kd.C_below hr hW) hfr hc
    have h2 := clone_ver W _ (c - sweepFrom l t) (l.drop (sweepFrom l t)) h1 (by rw [List.length_drop]; omega)
    rw [List.length_drop] at h2
    exact h2⟩
  have hcut := cut_from (P := Try.prog) 81 29 .i64 Try.underlying81 hi0 3 hsz A l.length c (sweepFrom l t : Int) (by omega) (by omega)
  rw [Int.toNat_natCast] at hcut
  generalize (if c = sweepFrom l t then A else A.map (·.add (sweepFrom l t * 3))) = A2 at hcut HCL
  have HS : Aside0 (sweepFrom l t = if 0 < untilV l t ∧ (l.getD (untilV l t - 1) zVer).f2 = false then untilV l t - 1 else untilV l t) := ⟨rfl⟩
  generalize sweepC l t = r at *
  generalize sweepFrom l t = m at *
  generalize untilV l t = n at *
  clear hr hc h
  go_enter Try.func80, Try.ntmps80
  go_wp2_with fail
  refine (HCH.out _ (Below.refl _ _)).mono ?_
  rintro e w1 ⟨rfl, hb1⟩
  have HB1 := Aside0.mk hb1
  clear hb1
  go_wp2_with fail
  refine (HUN.out w1 HB1.out).mono ?_
  rintro e w2 ⟨rfl, hb2⟩
  have HB2 : Aside0 (Below w.heap.size w w2) := ⟨HB1.out.trans (hb2.mono HB1.out.size)⟩
  clear hb2 HB1
  by_cases hn : n = 0
  · subst hn
    rw [if_neg (by omega)] at HS
    have hm0 : m = 0 := HS.out
    subst hm0
    clear HS
    have hcut0 : ∀ W, (Instr.slice 81 (.slice A l.length c) (some (.int .i64 0)) none none).run Try.prog W = .ok (.slice A2 (l.length - 0) (c - 0)) W := hcut
    clear hcut
    rw [Nat.sub_zero, Nat.sub_zero] at hcut0 HCL
    go_wp2_with fail
    refine (HCL.out _ HB2.out).mono ?_
    rintro e w3 ⟨vr, rfl, hvr, hb3⟩
    have HV3 := Aside0.mk (Kd.R_lower hvr HB2.out.size)
    have HB3 : Aside0 (Below w.heap.size w w3) := ⟨HB2.out.trans (hb3.mono HB2.out.size)⟩
    clear hvr hb3
    go_wp2_with fail
    go_ret2
    exact ⟨_, rfl, HV3.out, HB3.out⟩
  · obtain ⟨k, rfl⟩ : ∃ k, n = k + 1 := ⟨n - 1, by omega⟩
    rw [Nat.add_sub_cancel] at HS
    obtain ⟨ad, rfl, c0, c1, c2⟩ := at_T29 (Kd.C_below HR.out HB2.out) (k : Int) (by omega) (by omega)
    rw [rdV_getD l k (by omega), Int.toNat_natCast] at c2
    have hk1 : ((k + 1 : Nat) : Int) - 1 = (k : Int) := by omega
    clear c0 c1
    generalize l.getD k zVer = v at *
    cases hd : v.f2 with
    | true =>
      rw [hd] at c2 HS
      rw [if_neg (by simp)] at HS
      have hm : m = k + 1 := HS.out
      subst hm
      clear HS
      rw [show ((k + 1 : Nat) : Int) = (k : Int) + 1 by omega] at hcut
      go_wp2_with fail
      refine (HCL.out _ HB2.out).mono ?_
      rintro e w3 ⟨vr, rfl, hvr, hb3⟩
      have HV3 := Aside0.mk (Kd.R_lower hvr HB2.out.size)
      have HB3 : Aside0 (Below w.heap.size w w3) := ⟨HB2.out.trans (hb3.mono HB2.out.size)⟩
      clear hvr hb3
      go_wp2_with fail
      go_ret2
      exact ⟨_, rfl, HV3.out, HB3.out⟩
    | false =>
      rw [hd] at c2 HS
      rw [if_pos (by simp)] at HS
      have hm : m = k := HS.out
      subst hm
      clear HS
      go_wp2_with fail
      refine (HCL.out _ HB2.out).mono ?_
      rintro e w3 ⟨vr, rfl, hvr, hb3⟩
      have HV3 := Aside0.mk (Kd.R_lower hvr HB2.out.size)
      have HB3 : Aside0 (Below w.heap.size w w3) := ⟨HB2.out.trans (hb3.mono HB2.out.size)⟩
      clear hvr hb3
      go_wp2_with fail
      go_ret2
      exact ⟨_, rfl, HV3.out, HB3.out⟩
end Go.Proofs.Ytaldfbmjmpkmmaa.PL
