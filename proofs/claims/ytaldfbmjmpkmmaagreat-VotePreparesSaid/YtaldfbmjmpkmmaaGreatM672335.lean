/- Texts of this proof, one behind the other (merged by a program of this session). -/
import Derived.Test.YtaldfbmjmpkmmaaGreatHRfH
import Derived.Test.YtaldfbmjmpkmmaaGreatM4fbfbd
namespace Go.Proofs.YtaldfbmjmpkmmaaGreat.PL
open Go.RowKit Go.Proofs.YtaldfbmjmpkmmaaGreatW.PrintWords Go.Proofs.YtaldfbmjmpkmmaaGreatW.PrintLast Go.Proofs.YtaldfbmjmpkmmaaGreatW.PrintMore
set_option linter.unusedVariables false
set_option linter.unusedSimpArgs false
set_option linter.unusedSectionVars false
/-- The place of a number among prepared transactions. -/
def pN : List Rec → Int → Nat
 | [], _ => 0
 | p :: r, t => if p.f1 < t then pN r t + 1 else 0
theorem pN_le : ∀ (P : List Rec) (t : Int), pN P t ≤ P.length
 | [], _ => Nat.le_refl _
 | p :: r, t => by
  unfold pN
  split
  ·have := pN_le r t
   simp
   omega
  ·simp
theorem pN_step : ∀ (P : List Rec) (t : Int) (k : Nat) (h : k < P.length), k ≤ pN P t → (k + 1 ≤ pN P t ↔ P[k].f1 < t)
 | [], _, k, h, _ => by simp at h
 | p :: r, t, 0, h, _ => by
  unfold pN
  simp only [List.getElem_cons_zero]
  split
  ·rename_i hp
   exact ⟨fun _ => hp, fun _ => by omega⟩
  ·rename_i hp
   exact ⟨fun hx => by omega, fun hx => absurd hx hp⟩
 | p :: r, t, k + 1, h, hk => by
  have h2 : k < r.length := by simpa using h
  unfold pN at hk ⊢
  split at hk
  ·rename_i hp
   rw [if_pos hp]
   have := pN_step r t k h2 (by omega)
   simp only [List.getElem_cons_succ]
   rw [← this]
   omega
  ·omega
theorem pput_at (r : Rec) : ∀ P : List Rec, pput P r = P.take (pN P r.f1) ++ r :: P.drop (pN P r.f1)
 | [] => by simp [pput, pN]
 | p :: l => by
  unfold pput pN
  split
  ·rw [pput_at r l]; simp
  ·simp
set_option maxRecDepth 100000 in
set_option maxHeartbeats 16000000 in
theorem rprepare_walk {w : World} {ok : Nat → Prop} {b : Nat} {s : Sh} (h : RfAt w ok b s) (hok : ∀ g, w.heap.size ≤ g → ok g) (r : Rec) (cs : List Value) (hr : Kd.FK k26 w (fun g => ok g ∧ g ≠ b) r cs) (h0 : r.f0 = 1) (hr0 : okR r = 0) :
 Calls Tryz.prog 46 #[.pointer (some ⟨b, 0, none⟩), .agg cs.toArray] w fun e w' => e = .returned (.int .i64 (prepV s r).1) ∧ RfAt w' ok b (prepV s r).2 ∧ Chg0 (fun g => g = b) w w' := by
 have hgood : ShOk s := by obtain ⟨AK, AP, AE, cK, cP, cE, hp⟩ := h; exact hp.good
 have hbl : b < w.heap.size := by obtain ⟨AK, AP, AE, cK, cP, cE, hp⟩ := h; exact blk_lt hp.box
 have HOK : Aside0 (∀ g, w.heap.size ≤ g → ok g ∧ g ≠ b) := ⟨fun g hg => ⟨hok g hg, by omega⟩⟩
 have HPV : Aside0 (prepV s r = if 0 < (stateV s r.f1).1 then (6, s)
  else if (r.f7.any (fun k => heldV s (kb k) false) || r.f8.any (fun w => heldV s (kb w.f0) true)) = true then (180, s)
  else if 1024 ≤ s.P.length then (2, s)
  else (0, { s with P := pput s.P r })) := ⟨rfl⟩
 have hpo := prepV_ok hgood h0 hr0
 have HGS : Aside0 (prepV s r = (0, { s with P := pput s.P r }) → ShOk { s with P := pput s.P r }) := ⟨fun e => by rw [e] at hpo; exact hpo⟩
 have HST0 : Aside0 ((stateV s r.f1).1 = 0 ∨ 0 < (stateV s r.f1).1) := ⟨by
  rcases state_cases s r.f1 with ⟨_, e⟩ | ⟨_, ⟨_, e⟩ | ⟨x, _, ⟨_, e⟩ | ⟨_, e⟩⟩⟩ <;> rw [e] <;> simp⟩
 have HPP := Aside0.mk (pput_at r s.P)
 have HPS := Aside0.mk (pN_step s.P r.f1)
 have hpn := pN_le s.P r.f1
 have hP4 := hgood.few
 obtain ⟨A7, c7, A8, c8, rfl, l7, g7, l8, g8⟩ := k26_openF hr
 have HFR := Aside0.mk hr
 have HF7 := Aside0.mk g7
 have HF8 := Aside0.mk g8
 have hm7 := Kd.C_max (Kd.F_now g7)
 have hm8 := Kd.C_max (Kd.F_now g8)
 obtain ⟨wy, hwy⟩ : ∃ wy, wy = w.alloc (.cells #[.int .i64 r.f0, .int .i64 r.f1, .int .i64 r.f2, .int .i64 r.f3, .string r.f4, .string r.f5, .bool r.f6, .slice A7 r.f7.length c7, .slice A8 r.f8.length c8] 26) := ⟨_, rfl⟩
 have hby : Below w.heap.size w wy := by rw [hwy]; exact below_alloc (Below.refl _ _) _
 have hyx : wy.heap[w.heap.size]? = some (.cells #[.int .i64 r.f0, .int .i64 r.f1, .int .i64 r.f2, .int .i64 r.f3, .string r.f4, .string r.f5, .bool r.f6, .slice A7 r.f7.length c7, .slice A8 r.f8.length c8] 26 (0, 0)) := by rw [hwy]; exact blk_new _ _
 have HS := Aside0.mk h
 have HWY := Aside0.mk hwy
 have HBY := Aside0.mk hby
 have HYX := Aside0.mk hyx
 have HST := Aside0.mk (rstate_walk (h.below hby) r.f1)
 have HHE : Aside0 (∀ W, Below w.heap.size w W → ∀ key write, Calls Tryz.prog 60 #[.pointer (some ⟨b, 0, none⟩), .string key, .bool write] W fun e w' => e = .returned (.bool (heldV s (kb key) write)) ∧ Below W.heap.size W w') := ⟨fun W hW key write => rheld_walk (HS.out.below hW) key write⟩
 obtain ⟨q0, q1, q2, q3, q4, q5, q6, q7, q8⟩ := rec_cells hyx
 clear h hok hr h0 hr0 hgood hbl hpo l7 g7 l8 g8 hwy hby hyx
 generalize prepV s r = pv at *
 generalize stateV s r.f1 = sv at *
 obtain ⟨sv1, sv2⟩ := sv
 generalize pN s.P r.f1 = n at *
 go_enter Tryz.func46, Tryz.ntmps46
 go_wp2_with fail
 rw [← HWY.out]
 refine HST.out.mono ?_
 rintro e w1 ⟨rfl, hb1⟩
 have HB1 : Aside0 (Below w.heap.size w w1) := ⟨HBY.out.trans (hb1.mono HBY.out.size)⟩
 have HX1 := Aside0.mk (blk_below HYX.out hb1)
 clear q0 q1 q2 q3 q4 q5 q6 q7 q8 hb1 HST HYX HBY HWY
 obtain ⟨q0, q1, q2, q3, q4, q5, q6, q7, q8⟩ := rec_cells HX1.out
 try simp only at HST0 HPV
 rcases HST0.out with rfl | hpos
 ·rw [if_neg (by omega)] at HPV
  go_wp2_with fail
  go_loopw [7] (fun v wr => ∃ i : Nat, i ≤ r.f7.length ∧ v = .int .i64 (i : Int) ∧ Aside0 (∀ (j : Nat) (hj : j < r.f7.length), j < i → heldV s (kb r.f7[j]) false = false) ∧ Aside0 (Below w.heap.size w wr) ∧ Aside0 (wr.heap[w.heap.size]? = some (.cells #[.int .i64 r.f0, .int .i64 r.f1, .int .i64 r.f2, .int .i64 r.f3, .string r.f4, .string r.f5, .bool r.f6, .slice A7 r.f7.length c7, .slice A8 r.f8.length c8] 26 (0, 0)))) (fun i _ => r.f7.length - (intOf i).toNat)
  case atStart => exact ⟨0, Nat.zero_le _, rfl, ⟨fun j hj hk => absurd hk (by omega)⟩, HB1, HX1⟩
  case round =>
   clear q0 q1 q2 q3 q4 q5 q6 q7 q8 HB1 HX1
   obtain ⟨i, hi, rfl, HN, HB, HX⟩ := hrel
   obtain ⟨q0, q1, q2, q3, q4, q5, q6, q7, q8⟩ := rec_cells HX.out
   by_cases hlt : i < r.f7.length
   ·obtain ⟨ad, rfl, z0⟩ := strK_at (Kd.F_now (Kd.F_below HF7.out HB.out)) i hlt
    have HYES : Aside0 (heldV s (kb r.f7[i]) false = true → (r.f7.any (fun k => heldV s (kb k) false) || r.f8.any (fun w => heldV s (kb w.f0) true)) = true) := ⟨fun h => by rw [any_yes (fun k => heldV s (kb k) false) r.f7 i hlt h]; rfl⟩
    have HNX : Aside0 (heldV s (kb r.f7[i]) false = false → ∀ (j : Nat) (hj : j < r.f7.length), j < i + 1 → heldV s (kb r.f7[j]) false = false) := ⟨fun h => all_next (fun k => heldV s (kb k) false) r.f7 i hlt HN.out h⟩
    generalize r.f7[i] = x at z0 HYES HNX
    have HH := Aside0.mk (HHE.out wr HB.out x false)
    generalize heldV s (kb x) false = hx at *
    go_wp2_with fail
    refine HH.out.mono ?_
    rintro e w2 ⟨rfl, hb2⟩
    have HB2 : Aside0 (Below w.heap.size w w2) := ⟨HB.out.trans (hb2.mono HB.out.size)⟩
    have HX2 := Aside0.mk (blk_below HX.out hb2)
    clear q0 q1 q2 q3 q4 q5 q6 q7 q8 hb2 HH z0
    obtain ⟨q0, q1, q2, q3, q4, q5, q6, q7, q8⟩ := rec_cells HX2.out
    cases hx with
    | true =>
     rw [HYES.out rfl, if_pos rfl] at HPV
     obtain rfl := HPV.out
     clear HPV HYES HNX HGS
     go_wp2_with fail
     go_ret
     exact ⟨rfl, HS.out.below HB2.out, Chg0.of_below HB2.out⟩
    | false =>
     have HNN := Aside0.mk (HNX.out rfl)
     clear HYES HNX
     go_wp2_with fail
     go_roundw
     case rel => exact ⟨i + 1, by omega, by go_num, HNN, HB2, HX2⟩
     case measure => simp [intOf]; omega
   ·obtain rfl : i = r.f7.length := by omega
    have H7 : Aside0 (r.f7.any (fun k => heldV s (kb k) false) = false) := ⟨any_no (fun k => heldV s (kb k) false) r.f7 (fun j hj => HN.out j hj hj)⟩
    rw [H7.out, Bool.false_or] at HPV
    clear HN H7
    go_wp2_with fail
    go_loopw [8] (fun v wz => ∃ i : Nat, i ≤ r.f8.length ∧ v = .int .i64 (i : Int) ∧ Aside0 (∀ (j : Nat) (hj : j < r.f8.length), j < i → heldV s (kb r.f8[j].f0) true = false) ∧ Aside0 (Below w.heap.size w wz) ∧ Aside0 (wz.heap[w.heap.size]? = some (.cells #[.int .i64 r.f0, .int .i64 r.f1, .int .i64 r.f2, .int .i64 r.f3, .string r.f4, .string r.f5, .bool r.f6, .slice A7 r.f7.length c7, .slice A8 r.f8.length c8] 26 (0, 0)))) (fun i _ => r.f8.length - (intOf i).toNat)
    case atStart => exact ⟨0, Nat.zero_le _, rfl, ⟨fun j hj hk => absurd hk (by omega)⟩, HB, HX⟩
    case round =>
     clear q0 q1 q2 q3 q4 q5 q6 q7 q8 HB HX
     obtain ⟨i, hi, rfl, HN, HB, HX⟩ := hrel
     obtain ⟨q0, q1, q2, q3, q4, q5, q6, q7, q8⟩ := rec_cells HX.out
     by_cases hlt : i < r.f8.length
     ·obtain ⟨ad, rfl, z0, -, -⟩ := wrK_at (Kd.F_now (Kd.F_below HF8.out HB.out)) i hlt
      have HYES : Aside0 (heldV s (kb r.f8[i].f0) true = true → r.f8.any (fun w => heldV s (kb w.f0) true) = true) := ⟨fun h => any_yes (fun w : Wr => heldV s (kb w.f0) true) r.f8 i hlt h⟩
      have HNX : Aside0 (heldV s (kb r.f8[i].f0) true = false → ∀ (j : Nat) (hj : j < r.f8.length), j < i + 1 → heldV s (kb r.f8[j].f0) true = false) := ⟨fun h => all_next (fun w : Wr => heldV s (kb w.f0) true) r.f8 i hlt HN.out h⟩
      generalize r.f8[i].f0 = x at z0 HYES HNX
      have HH := Aside0.mk (HHE.out wr HB.out x true)
      generalize heldV s (kb x) true = hx at *
      go_wp2_with fail
      refine HH.out.mono ?_
      rintro e w2 ⟨rfl, hb2⟩
      have HB2 : Aside0 (Below w.heap.size w w2) := ⟨HB.out.trans (hb2.mono HB.out.size)⟩
      have HX2 := Aside0.mk (blk_below HX.out hb2)
      clear q0 q1 q2 q3 q4 q5 q6 q7 q8 hb2 HH z0
      obtain ⟨q0, q1, q2, q3, q4, q5, q6, q7, q8⟩ := rec_cells HX2.out
      cases hx with
      | true =>
       rw [HYES.out rfl, if_pos rfl] at HPV
       obtain rfl := HPV.out
       clear HPV HYES HNX HGS
       go_wp2_with fail
       go_ret
       exact ⟨rfl, HS.out.below HB2.out, Chg0.of_below HB2.out⟩
      | false =>
       have HNN := Aside0.mk (HNX.out rfl)
       clear HYES HNX
       go_wp2_with fail
       go_roundw
       case rel => exact ⟨i + 1, by omega, by go_num, HNN, HB2, HX2⟩
       case measure => simp [intOf]; omega
     ·obtain rfl : i = r.f8.length := by omega
      have H8 : Aside0 (r.f8.any (fun w => heldV s (kb w.f0) true) = false) := ⟨any_no (fun w : Wr => heldV s (kb w.f0) true) r.f8 (fun j hj => HN.out j hj hj)⟩
      rw [H8.out, if_neg (by decide)] at HPV
      clear HN H8 HHE
      obtain ⟨AK, AP, AE, cK, cP, cE, hp⟩ := HS.out.below HB.out
      have HP := Aside0.mk hp
      obtain ⟨-, p1, -, -⟩ := hp.cells
      have hlP := hp.lP
      clear hp
      by_cases h4 : 1024 ≤ s.P.length
      ·rw [if_pos h4] at HPV
       obtain rfl := HPV.out
       have d1 : decide ((s.P.length : Int) ≥ 1024) = true := decide_eq_true (by omega)
       have d2 : decide (1024 ≤ s.P.length) = true := decide_eq_true h4
       clear HPV HGS h4
       go_wp2_with fail
       go_ret
       exact ⟨rfl, HS.out.below HB.out, Chg0.of_below HB.out⟩
      ·rw [if_neg h4] at HPV
       have d1 : decide ((s.P.length : Int) ≥ 1024) = false := decide_eq_false (by omega)
       have d2 : decide (1024 ≤ s.P.length) = false := decide_eq_false h4
       have HGO := Aside0.mk (HGS.out HPV.out)
       obtain rfl := HPV.out
       obtain ⟨wo, hwo⟩ : ∃ wo, wo = wr := ⟨_, rfl⟩
       subst hwo
       clear HPV HGS h4
       go_wp2_with fail
       go_loopw [9] (fun v wz => ∃ i : Nat, i ≤ n ∧ v = .int .i64 (i : Int) ∧ Aside0 (Below wo.heap.size wo wz)) (fun i _ => s.P.length - (intOf i).toNat)
       case atStart => exact ⟨0, Nat.zero_le _, rfl, ⟨Below.refl _ _⟩⟩
       case round =>
        clear q0 q1 q2 q3 q4 q5 q6 q7 q8 p1
        obtain ⟨i, hi, rfl, HBO⟩ := hrel
        have HBW : Aside0 (Below w.heap.size w wr) := ⟨HB.out.trans (HBO.out.mono HB.out.size)⟩
        have HX2 := Aside0.mk (blk_below HX.out HBO.out)
        obtain ⟨q0, q1, q2, q3, q4, q5, q6, q7, q8⟩ := rec_cells HX2.out
        have HP2 := Aside0.mk (HP.out.below HBO.out)
        obtain ⟨-, p1, -, -⟩ := HP2.out.cells
        by_cases hgo : i < s.P.length ∧ i + 1 ≤ n
        ·obtain ⟨hlt, hin⟩ := hgo
         have hless := (HPS.out i hlt hi).1 hin
         obtain ⟨ad, _, _, _, _, rfl, x1, -, -, -, -, -, -⟩ := rec_at (Kd.F_now HP2.out.fP) i hlt
         have d3 : decide (s.P[i].f1 < r.f1) = true := decide_eq_true hless
         clear hless
         generalize s.P[i].f1 = u at x1 d3
         go_wp2_with fail
         go_quiet (fail)
         all_goals (try go_wp2_with fail)
         go_roundw
         case rel => exact ⟨i + 1, by omega, by go_num, ⟨by repeat (first | exact HBO.out | apply below_drew1 | apply pw_below_drewN)⟩⟩
         case measure => simp [intOf]; omega
        ·have hin : i = n := by
          rcases Nat.lt_or_ge i n with h1 | h1
          ·exact absurd ⟨by omega, by omega⟩ hgo
          ·omega
         subst hin
         have HNL : Aside0 (∀ h : i < s.P.length, ¬ s.P[i].f1 < r.f1) := ⟨fun hlt hc => by
          have := (HPS.out i hlt (Nat.le_refl _)).2 hc
          omega⟩
         clear hgo
         go_upto_region 17 with (fail)
         go_cut [74] (fun v74 wc => v74 = .bool false ∧ Aside0 (Below wr.heap.size wr wc))
         case first =>
          by_cases hlt : i < s.P.length
          ·have hless := HNL.out hlt
           obtain ⟨ad, _, _, _, _, rfl, x1, -, -, -, -, -, -⟩ := rec_at (Kd.F_now HP2.out.fP) i hlt
           have d3 : decide (s.P[i].f1 < r.f1) = false := decide_eq_false hless
           clear hless
           generalize s.P[i].f1 = u at x1 d3
           go_quiet (fail)
           all_goals (try go_wp2_with fail)
           go_meet
           case rel => exact ⟨rfl, ⟨by repeat (first | exact Below.refl _ _ | apply below_drew1 | apply pw_below_drewN)⟩⟩
          ·have d3 : decide ((i : Int) < (s.P.length : Int)) = false := decide_eq_false (by omega)
           go_quiet (fail)
           all_goals (try go_wp2_with fail)
           go_meet
           case rel => exact ⟨rfl, ⟨by repeat (first | exact Below.refl _ _ | apply below_drew1 | apply pw_below_drewN)⟩⟩
         case rest =>
          obtain ⟨rfl, HBC⟩ := hcut
          have HBX : Aside0 (Below w.heap.size w wc) := ⟨HBW.out.trans (HBC.out.mono HBW.out.size)⟩
          have HXC := Aside0.mk (blk_below HX2.out HBC.out)
          have HPC := Aside0.mk (HP2.out.below HBC.out)
          have OKC : Aside0 (∀ g, wc.heap.size ≤ g → ok g ∧ g ≠ b) := ⟨fun g hg => HOK.out g (Nat.le_trans HBX.out.size hg)⟩
          have HFC : Aside0 (Kd.FK k26 wc (fun g => (ok g ∧ g ≠ b) ∧ g < wc.heap.size) r [.int .i64 r.f0, .int .i64 r.f1, .int .i64 r.f2, .int .i64 r.f3, .string r.f4, .string r.f5, .bool r.f6, .slice A7 r.f7.length c7, .slice A8 r.f8.length c8]) := ⟨Kd.FK_bound (Kd.FK_step HFR.out (fun k _ hk => HBX.out.block k hk))⟩
          clear q0 q1 q2 q3 q4 q5 q6 q7 q8 p1
          obtain ⟨-, p1, -, -⟩ := HPC.out.cells
          obtain ⟨i0, hi0, _, hsz, _⟩ := info_parts infoRc
          have hcut1 := cut_to (P := Tryz.prog) 22 26 .i64 Tryz.underlying22 hi0 AP s.P.length cP (i : Int) (by omega) (by omega) hlP
          have hcut2 := cut_from (P := Tryz.prog) 22 26 .i64 Tryz.underlying22 hi0 9 hsz AP s.P.length cP (i : Int) (by omega) (by omega)
          rw [Int.toNat_natCast] at hcut1 hcut2
          have HLT : Aside0 ((s.P.take i).length = i) := ⟨by rw [List.length_take]; omega⟩
          have HTP : Aside0 (Kd.F k26 wc (fun g => ok g ∧ g ≠ b) AP i (s.P.take i)) := ⟨by have := F_take (m := i) HPC.out.fP (by omega); rwa [HLT.out] at this⟩
          have HDP : Aside0 (Kd.F k26 wc (fun g => ok g ∧ g ≠ b) (if cP = i then AP else AP.map (·.add (i * 9))) (s.P.length - i) (s.P.drop i)) := ⟨by have := F_drop (m := i) HPC.out.fP (by omega) hlP; rwa [show (s.P.drop i).length = s.P.length - i from List.length_drop] at this⟩
          generalize (if cP = i then AP else AP.map (·.add (i * 9))) = AD at *
          have HNUM : Aside0 (i ≤ s.P.length ∧ s.P.length ≤ 1024) := ⟨hpn, hP4⟩
          have HLT2 : Aside0 ((s.P.take i ++ [r]).length = i + 1) := ⟨by rw [List.length_append, HLT.out]; rfl⟩
          clear hi0 hsz HNL HPS HBC HBW HX2 HP2 HBO
          go_wp2_with (first
           | (at_builtin; refine Kd.N_append_rows k26 (w0 := wc) wc.heap.size rfl (.tmp 77) (.tmp 83) 22 26 (.agg #[.int .i64 0, .int .i64 0, .int .i64 0, .int .i64 0, .string ⟨#[]⟩, .string ⟨#[]⟩, .bool false, .slice none 0 0, .slice none 0 0]) 120 rfl Tryz.underlying22 infoRc rfl (by decide) (by omega) (.slice none 0 0) [] (s.P.take i) AP i cP (fun g => ok g ∧ g ≠ b) (fun g => ok g ∧ g ≠ b) rfl rfl (Kd.N_nil _ _ _ _ _) HTP.out (fun k hk => ⟨hk, by simp [Value.ownBlock]⟩) OKC.out (Below.refl _ _) (Nat.le_refl _) (by have := HNUM.out; simp; omega) ?_; intro v1 w3 hn1 hb3 hg3 _; rw [List.nil_append] at hn1; obtain ⟨A3, c3, rfl⟩ := Kd.N_slice hn1; rw [HLT.out]; rw [HLT.out] at hn1; have HN1 := Aside0.mk hn1; have HB3 := Aside0.mk hb3; clear hn1 hb3 hg3 p1; obtain ⟨q0, q1, q2, q3, q4, q5, q6, q7, q8⟩ := rec_cells (blk_below HXC.out HB3.out))
           | (at_builtin; refine Kd.N_append k26 (w0 := wc) wc.heap.size rfl (.tmp 85) (.tmp 87) 22 26 (.agg #[.int .i64 0, .int .i64 0, .int .i64 0, .int .i64 0, .string ⟨#[]⟩, .string ⟨#[]⟩, .bool false, .slice none 0 0, .slice none 0 0]) 120 rfl Tryz.underlying22 infoRc rfl (by decide) (by omega) (.slice A3 i c3) (s.P.take i) r [.int .i64 r.f0, .int .i64 r.f1, .int .i64 r.f2, .int .i64 r.f3, .string r.f4, .string r.f5, .bool r.f6, .slice A7 r.f7.length c7, .slice A8 r.f8.length c8] (fun g => ok g ∧ g ≠ b) (fun g => (ok g ∧ g ≠ b) ∧ g < wc.heap.size) rfl rfl (Kd.FK_step HFC.out (fun k _ hk => HB3.out.block k hk)) (fun k hk => ⟨hk.1, own_ne HN1.out hk.2⟩) (fun g hg => OKC.out g (Nat.le_trans HB3.out.size hg)) HN1.out HB3.out HB3.out.size (by have := HNUM.out; rw [HLT.out]; omega) ?_; intro v2 w4 hn2 hb4 hg4 _; obtain ⟨A4, c4, rfl⟩ := Kd.N_slice hn2; rw [HLT2.out]; rw [HLT2.out] at hn2; have HN2 := Aside0.mk hn2; have HB4 := Aside0.mk hb4; clear hn2 hb4 hg4 q0 q1 q2 q3 q4 q5 q6 q7 q8; obtain ⟨-, p1, -, -⟩ := (HPC.out.below HB4.out).cells)
           | (at_builtin; refine Kd.N_append_rows k26 (w0 := wc) wc.heap.size rfl (.tmp 90) (.tmp 96) 22 26 (.agg #[.int .i64 0, .int .i64 0, .int .i64 0, .int .i64 0, .string ⟨#[]⟩, .string ⟨#[]⟩, .bool false, .slice none 0 0, .slice none 0 0]) 120 rfl Tryz.underlying22 infoRc rfl (by decide) (by omega) _ (s.P.take i ++ [r]) (s.P.drop i) AD (s.P.length - i) (cP - i) (fun g => ok g ∧ g ≠ b) (fun g => (ok g ∧ g ≠ b) ∧ g < wc.heap.size) rfl rfl HN2.out (Kd.F_below (Kd.F_bound HDP.out) HB4.out) (fun k hk => ⟨hk.1, own_ne HN2.out hk.2⟩) (fun g hg => OKC.out g (Nat.le_trans HB4.out.size hg)) HB4.out HB4.out.size (by have := HNUM.out; rw [HLT2.out]; omega) ?_; intro v3 w5 hn3 hb5 hg5 _; rw [show (s.P.take i ++ [r]) ++ s.P.drop i = pput s.P r from (by rw [HPP.out]; simp)] at hn3; obtain ⟨A5, c5, rfl⟩ := Kd.N_slice hn3; have HN3 := Aside0.mk hn3; have HB5 := Aside0.mk hb5; clear hn3 hb5 hg5 p1; obtain ⟨-, p1, -, -⟩ := (HPC.out.below HB5.out).cells; have f1 := blk_frozen (HPC.out.below HB5.out).box 1))
          go_ret
          exact ⟨rfl, ⟨_, _, _, _, _, _, HPC.out.setP HB5.out (N_F HN3.out) (Kd.N_reads' HN3.out).2.1 HGO.out⟩, (Chg0.of_below HBX.out).trans (Chg0.box_set HB5.out 1 _)⟩
 ·rw [if_pos hpos] at HPV
  have d1 : (sv1 == 0) = false := by simp; omega
  have d2 : (sv1 != 0) = true := by simp; omega
  obtain rfl := HPV.out
  clear HPV HGS hpos
  go_wp2_with fail
  go_ret
  exact ⟨rfl, HS.out.below HB1.out, Chg0.of_below HB1.out⟩
end Go.Proofs.YtaldfbmjmpkmmaaGreat.PL
namespace Go.Proofs.YtaldfbmjmpkmmaaGreat.PL
open Go.RowKit Go.Proofs.YtaldfbmjmpkmmaaGreatW.PrintWords Go.Proofs.YtaldfbmjmpkmmaaGreatW.PrintLast Go.Proofs.YtaldfbmjmpkmmaaGreatW.PrintMore
set_option linter.unusedVariables false
set_option linter.unusedSimpArgs false
set_option linter.unusedSectionVars false
theorem sweepK_snoc (K : List (Key × Chain)) (t : Int) (i : Nat) (h : i < K.length) : sweepK (K.take (i + 1)) t = sweepK (K.take i) t ++ (if (sweepC K[i].2 t).isEmpty = true then [] else [(K[i].1, sweepC K[i].2 t)]) := by
 unfold sweepK
 rw [List.take_add_one, List.getElem?_eq_getElem h, Option.toList_some, List.map_append, List.filter_append]
 congr 1
 simp only [List.map_cons, List.map_nil, List.filter_cons, List.filter_nil]
 cases hc : (sweepC K[i].2 t).isEmpty with
 | true => simp
 | false => simp
theorem own_lt_ne {α : Type} {d : Kd α} {e base : Nat} {w : World} {ok : Nat → Prop} {v : Value} {xs : List α} (h : Kd.N d e w base ok v xs) {k : Nat} (hk : w.heap.size ≤ k) : some k ≠ v.ownBlock := fun e => by
 obtain ⟨_, rows, _, hR, _⟩ := h
 have := Kd.R_lt hR k e.symm
 omega
theorem sweepK_len (K : List (Key × Chain)) (t : Int) : (sweepK K t).length ≤ K.length := by
 unfold sweepK
 refine Nat.le_trans (List.length_filter_le _ _) ?_
 simp
set_option maxRecDepth 100000 in
set_option maxHeartbeats 16000000 in
theorem rsweep_walk {w : World} {ok : Nat → Prop} {b : Nat} {s : Sh} (h : RfAt w ok b s) (hok : ∀ g, w.heap.size ≤ g → ok g) (t : Int) (ht : t ≤ 1125899906842624) :
 Calls Tryz.prog 50 #[.pointer (some ⟨b, 0, none⟩), .int .i64 t] w fun e w' => e = .returned (.int .i64 (sweepV s t).1) ∧ RfAt w' ok b (sweepV s t).2 ∧ Chg0 (fun g => g = b) w w' := by
 have hgood : ShOk s := by obtain ⟨AK, AP, AE, cK, cP, cE, hp⟩ := h; exact hp.good
 have hbl : b < w.heap.size := by obtain ⟨AK, AP, AE, cK, cP, cE, hp⟩ := h; exact blk_lt hp.box
 have HOK : Aside0 (∀ g, w.heap.size ≤ g → ok g ∧ g ≠ b) := ⟨fun g hg => ⟨hok g hg, by omega⟩⟩
 have HSV : Aside0 (sweepV s t = if t < s.over then (110, s) else (0, { s with over := t, K := sweepK s.K t })) := ⟨rfl⟩
 have HGS := Aside0.mk (sweepV_ok hgood ht)
 have HS := Aside0.mk h
 obtain ⟨AK, AP, AE, cK, cP, cE, hp⟩ := h
 obtain ⟨c0, -, -, c3⟩ := hp.cells
 have f3 := blk_frozen hp.box 3
 have hk4 := hgood.keys.few
 by_cases hlt : t < s.over
 ·rw [if_pos hlt] at HSV
  generalize sweepV s t = pv at *
  have d1 : decide (t < s.over) = true := decide_eq_true hlt
  obtain rfl := HSV.out
  clear HSV HGS hp hlt
  go_enter Tryz.func50, Tryz.ntmps50
  go_wp2_with fail
  go_ret
  exact ⟨rfl, HS.out, Chg0.of_below (Below.refl _ _)⟩
 ·rw [if_neg hlt] at HSV
  have hg1 : ShOk { s with over := t } := ⟨hgood.keys, hgood.rise, hgood.few, hgood.recs, hgood.ends, ⟨by show (0 : Int) ≤ t; have := hgood.over; omega, ht⟩⟩
  have hg2 : ShOk { s with over := t, K := sweepK s.K t } := by have := HGS.out; rw [HSV.out] at this; exact this
  have HG2 := Aside0.mk hg2
  have HKO := Aside0.mk hgood.keys
  generalize sweepV s t = pv at *
  have d1 : decide (t < s.over) = false := decide_eq_false hlt
  obtain rfl := HSV.out
  obtain ⟨w1, hw1⟩ : ∃ w1, w1 = w.setCell ⟨b, 3, none⟩ (.int .i64 t) := ⟨_, rfl⟩
  have HP1 : Aside0 (RfP w1 ok b { s with over := t } AK AP AE cK cP cE) := ⟨by rw [hw1]; exact hp.setO (Below.refl _ _) hg1⟩
  have CH1 : Aside0 (Chg0 (fun g => g = b) w w1) := ⟨by rw [hw1]; exact Chg0.box_set (Below.refl _ _) 3 _⟩
  have OK1 : Aside0 (∀ g, w1.heap.size ≤ g → ok g ∧ g ≠ b) := ⟨fun g hg => HOK.out g (Nat.le_trans CH1.out.size hg)⟩
  have HW1 := Aside0.mk hw1
  clear HSV HGS hp hlt hg1 hg2 hw1 hgood HS
  go_enter Tryz.func50, Tryz.ntmps50
  go_wp2_with fail
  rw [← HW1.out]
  clear c0 c3 f3 HW1
  go_loopw [5, 6] (fun v5 v wz => ∃ (i : Nat) (A5 : Option Addr) (c5 : Nat), i ≤ s.K.length ∧ v = .int .i64 (i : Int) ∧ v5 = .slice A5 (sweepK (s.K.take i) t).length c5 ∧ Aside0 (Kd.N kKC 133 wz w1.heap.size (fun g => ok g ∧ g ≠ b) (.slice A5 (sweepK (s.K.take i) t).length c5) (sweepK (s.K.take i) t)) ∧ Aside0 (Below w1.heap.size w1 wz)) (fun _ i _ => s.K.length - (intOf i).toNat)
  case atStart => exact ⟨0, none, 0, Nat.zero_le _, rfl, rfl, ⟨Kd.N_nil _ _ _ _ _⟩, ⟨Below.refl _ _⟩⟩
  case round =>
   obtain ⟨i, A5, c5, hi, rfl, rfl, HN, HB⟩ := hrel
   have HP := Aside0.mk (HP1.out.below HB.out)
   obtain ⟨c0, -, -, -⟩ := HP.out.cells
   by_cases hlt : i < s.K.length
   ·obtain ⟨ad, A2, c2, rfl, x0, x1, hl2, hC2⟩ := kc_at (Kd.F_now HP.out.fK) i hlt
    have HSN := Aside0.mk (sweepK_snoc s.K t i hlt)
    have hco := (HKO.out.chain _ (List.getElem_mem hlt)).2
    have HSW := Aside0.mk (corncribref11_Sweep.calls 4000 A2 c2 s.K[i].2 t _ _ wr hC2 hl2 (rsweep_f hco t))
    have hlen := sweepK_len (s.K.take i) t
    have htl : (s.K.take i).length = i := by rw [List.length_take]; omega
    rw [htl] at hlen
    have hsl : (sweepC s.K[i].2 t).length ≤ 1024 := by unfold sweepC; rw [List.length_drop]; have := hco.len; omega
    have HSL := Aside0.mk hsl
    clear hco hl2 hC2 htl hsl
    generalize hL2 : sweepK (s.K.take (i + 1)) t = L2 at *
    have HE2 := Aside0.mk hL2
    clear hL2
    generalize sweepK (s.K.take i) t = L at *
    generalize sweepC s.K[i].2 t = lf at *
    generalize s.K[i].1 = kn at *
    generalize s.K[i].2 = ch at *
    have HLN : Aside0 (L.length ≤ 1024) := ⟨by omega⟩
    clear hlen
    go_wp2_with fail
    refine HSW.out.mono ?_
    rintro e w2 ⟨v, rfl, hv, hb2⟩
    obtain ⟨A6, c6, rfl⟩ := Kd.R_slice hv
    have HB2 : Aside0 (Below w1.heap.size w1 w2) := ⟨HB.out.trans (hb2.mono HB.out.size)⟩
    have HN2 := Aside0.mk (Kd.N_below HN.out hb2)
    have HL6 := Aside0.mk (Kd.R_reads' hv).2.1
    have HF7 : Aside0 (Kd.F k43 w2 (fun g => (ok g ∧ g ≠ b) ∧ some g ≠ (Value.slice A5 L.length c5).ownBlock) A6 lf.length lf) := ⟨R_F (Kd.R_mono (Kd.R_bound hv) (fun g hg => ⟨OK1.out g (Nat.le_trans HB.out.size hg.2.1), own_lt_ne HN.out hg.2.1⟩))⟩
    have x0b := pw_cell_below hb2 x0
    clear c0 x0 x1 hv hb2 HSW
    obtain ⟨c0, -, -, -⟩ := (HP1.out.below HB2.out).cells
    by_cases he : lf.length = 0
    ·obtain rfl := List.eq_nil_of_length_eq_zero he
     have hL : L2 = L := by rw [HSN.out]; simp
     subst hL
     clear he
     go_wp2_with fail
     go_roundw
     case rel => exact ⟨i + 1, A5, c5, by omega, by go_num, by rw [HE2.out], by rw [HE2.out]; exact HN2, HB2⟩
     case measure => simp [intOf]; omega
    ·have d2 : decide ((lf.length : Int) > 0) = true := decide_eq_true (by omega)
     have d3 : decide (0 < lf.length) = true := decide_eq_true (by omega)
     have hL : L2 = L ++ [(kn, lf)] := by
      rw [HSN.out]
      have : lf.isEmpty = false := by cases lf with
       | nil => exact absurd rfl he
       | cons _ _ => rfl
      rw [this]; rfl
     have HL2 := Aside0.mk hL
     have HLL : Aside0 (L2.length = L.length + 1) := ⟨by rw [hL, List.length_append]; rfl⟩
     have OKW : Aside0 (∀ g, w2.heap.size ≤ g → ok g ∧ g ≠ b) := ⟨fun g hg => OK1.out g (Nat.le_trans HB2.out.size hg)⟩
     have HX0 := Aside0.mk x0b
     have x0c : w2.cell? (ad.add (i * 2)) = some (.string (bs kn)) := x0b
     clear hL he x0b
     go_wp2_with (at_builtin; refine Kd.N_append kKC (w0 := w1) w1.heap.size rfl (.tmp 44) (.tmp 55) 48 133 (.agg #[.string ⟨#[]⟩, .slice none 0 0]) 40 rfl Tryz.underlying48 infoKC rfl (by decide) (by omega) (.slice A5 L.length c5) L (kn, lf) [.string (bs kn), .slice A6 lf.length c6] (fun g => ok g ∧ g ≠ b) (fun g => ((ok g ∧ g ≠ b) ∧ some g ≠ (Value.slice A5 L.length c5).ownBlock)) rfl rfl (fun W hW => kKC_mk W (kn, lf) HL6.out (Kd.F_now (Kd.F_step HF7.out (fun k hk hlt => hW k hk hlt)))) (fun k hk => hk) OKW.out HN2.out HB2.out HB2.out.size (by have := HLN.out; omega) ?_; intro v1 w3 hn1 hb3 hg3 _; rw [← HL2.out] at hn1; obtain ⟨A7, c7, rfl⟩ := Kd.N_slice hn1; have HN1 := Aside0.mk hn1; have HB3 := Aside0.mk hb3; clear hn1 hb3 hg3 c0 x0c)
     go_roundw
     case rel => exact ⟨i + 1, A7, c7, by omega, by go_num, by rw [HE2.out], by rw [HE2.out]; exact HN1, HB3⟩
     case measure => simp [intOf]; omega
   ·obtain rfl : i = s.K.length := by omega
    have htk : s.K.take s.K.length = s.K := List.take_length
    rw [htk] at HN ⊢
    have f0 := blk_frozen HP.out.box 0
    go_wp2_with fail
    go_ret
    exact ⟨rfl, ⟨_, _, _, _, _, _, HP.out.setK (Below.refl _ _) (N_F HN.out) (Kd.N_reads' HN.out).2.1 HG2.out⟩, (CH1.out.trans (Chg0.of_below HB.out)).trans (Chg0.box_set (Below.refl _ _) 0 _)⟩
end Go.Proofs.YtaldfbmjmpkmmaaGreat.PL
