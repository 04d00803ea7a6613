/- corncribref19.Prepare, walked; vote.Prepare at no shelf. -/
import Derived.Test.YtaldfbmjmpkmmaaGreatM214778
import Derived.Test.YtaldfbmjmpkmmaaGreatM4fbfbd
import Derived.Test.YtaldfbmjmpkmmaaGreatHRfE
import Derived.Deep.QuietTactic
namespace Go.Proofs.YtaldfbmjmpkmmaaGreat.PL
open Go.RowKit Go.Proofs.YtaldfbmjmpkmmaaGreatW.PrintWords Go.Proofs.YtaldfbmjmpkmmaaGreatW.PrintLast Go.Proofs.YtaldfbmjmpkmmaaGreatW.PrintMore
set_option linter.unusedVariables false
set_option linter.unusedSimpArgs false
set_option linter.unusedSectionVars false
set_option maxRecDepth 100000 in
set_option maxHeartbeats 16000000 in
theorem rvotep_walk {w : World} {ok : Nat → Prop} {b : Nat} {s : Sh} (h : RfAt w ok b s) (r : Rec) (A7 : Option Addr) (c7 : Nat) (A8 : Option Addr) (c8 : Nat) (g7 : Kd.C Kd.string w A7 r.f7.length r.f7) (l7 : r.f7.length ≤ c7) (g8 : Kd.C k57 w A8 r.f8.length r.f8) (l8 : r.f8.length ≤ c8) (hs : sizesOk r) :
 Calls Tryz.prog 27 #[.pointer (some ⟨b, 0, none⟩), .agg #[.int .i64 r.f0, .int .i64 r.f1, .int .i64 r.f2, .int .i64 r.f3, .string r.f4, .string r.f5, .bool r.f6, .slice A7 r.f7.length c7, .slice A8 r.f8.length c8]] w fun e w' => e = .returned (.int .i64 (voteV s r)) ∧ Below w.heap.size w w' := by
 obtain ⟨wy, hwy⟩ : ∃ wy, wy = w.alloc (.cells #[.int .i64 r.f0, .int .i64 r.f1, .int .i64 r.f2, .int .i64 r.f3, .string r.f4, .string r.f5, .bool r.f6, .slice A7 r.f7.length c7, .slice A8 r.f8.length c8] 26) := ⟨_, rfl⟩
 have hby : Below w.heap.size w wy := by rw [hwy]; exact below_alloc (Below.refl _ _) _
 have hyx : wy.heap[w.heap.size]? = some (.cells #[.int .i64 r.f0, .int .i64 r.f1, .int .i64 r.f2, .int .i64 r.f3, .string r.f4, .string r.f5, .bool r.f6, .slice A7 r.f7.length c7, .slice A8 r.f8.length c8] 26 (0, 0)) := by rw [hwy]; exact blk_new _ _
 have HWY := Aside0.mk hwy
 have HBY := Aside0.mk hby
 have HYX := Aside0.mk hyx
 have HS := Aside0.mk h
 have H7 := Aside0.mk g7
 have H8 := Aside0.mk g8
 have hm7 := Kd.C_max g7
 have hm8 := Kd.C_max g8
 have HCK : Aside0 (Calls Tryz.prog 45 #[.agg #[.int .i64 r.f0, .int .i64 r.f1, .int .i64 r.f2, .int .i64 r.f3, .string r.f4, .string r.f5, .bool r.f6, .slice A7 r.f7.length c7, .slice A8 r.f8.length c8]] wy fun e w' => e = .returned (.int .i64 (okR r)) ∧ Below wy.heap.size wy w') := ⟨refCheck_walk wy r.f0 r.f1 r.f2 r.f3 r.f4 r.f5 r.f6 A7 c7 r.f7 A8 c8 r.f8 (Kd.C_below g7 hby) l7 (Kd.C_below g8 hby) l8 hs.2⟩
 have HVV : Aside0 (voteV s r = if ¬ (r.f0 = 1 ∧ okR r = 0) then 80
 else if standsV s r.f1 ≠ 0 then standsV s r.f1
 else if r.f2 < s.over then 110
 else if movedV s r = true then 190
 else if lockedV s r = true then 180 else 0) := ⟨rfl⟩
 have HSV : Aside0 (standsV s r.f1 = if (stateV s r.f1).1 = 1 ∨ (stateV s r.f1).1 = 2 then 6 else if (stateV s r.f1).1 = 3 then 120 else 0) := ⟨rfl⟩
 have HFO := Aside0.mk (state_four s r.f1)
 have HLK : Aside0 (lockedV s r = (r.f7.any (fun k => heldV s (kb k) false) || r.f8.any (fun w => heldV s (kb w.f0) true))) := ⟨rfl⟩
 have HHE : Aside0 (∀ W, Below w.heap.size w W → ∀ key write, Calls Tryz.prog 60 #[.pointer (some ⟨b, 0, none⟩), .string key, .bool write] W fun e w' => e = .returned (.bool (heldV s (kb key) write)) ∧ Below W.heap.size W w') := ⟨fun W hW key write => rheld_walk (HS.out.below hW) key write⟩
 have HLS : Aside0 (∀ W, Below w.heap.size w W → ∀ key, Calls Tryz.prog 59 #[.pointer (some ⟨b, 0, none⟩), .string key] W fun e w' => e = .returned (.int .i64 (lastV (look s.K (kb key)))) ∧ Below W.heap.size W w') := ⟨fun W hW key => rflast_walk (HS.out.below hW) key⟩
 obtain ⟨q0, q1, q2, q3, q4, q5, q6, q7, q8⟩ := rec_cells hyx
 clear h hs g7 g8 hwy hby hyx l7 l8
 generalize voteV s r = vv at *
 generalize okR r = k at *
 go_enter Tryz.func27, Tryz.ntmps27
 by_cases k1 : r.f0 = 1
 ·have b1 : (r.f0 != 1) = false := by simp [k1]
  have K1 := Aside0.mk k1
  clear k1
  go_wp2_with fail
  rw [← HWY.out]
  refine HCK.out.mono ?_
  rintro e w1 ⟨rfl, hb1⟩
  have HB1 : Aside0 (Below w.heap.size w w1) := ⟨HBY.out.trans (hb1.mono HBY.out.size)⟩
  have HX1 := Aside0.mk (blk_below HYX.out hb1)
  clear q0 q1 q2 q3 q4 q5 q6 q7 q8 hb1 HCK HYX HBY HWY
  obtain ⟨q0, q1, q2, q3, q4, q5, q6, q7, q8⟩ := rec_cells HX1.out
  by_cases hk : k = 0
  ·subst hk
   rw [if_neg (fun h => h ⟨K1.out, rfl⟩)] at HVV
   have HSD := Aside0.mk (rstate_walk (HS.out.below HB1.out) r.f1)
   generalize standsV s r.f1 = sv at *
   generalize stateV s r.f1 = st at *
   obtain ⟨st1, st2⟩ := st
   try simp only at HSV HFO HSD
   go_wp2_with fail
   refine HSD.out.mono ?_
   rintro e w2 ⟨rfl, hb2⟩
   have HB2 : Aside0 (Below w.heap.size w w2) := ⟨HB1.out.trans (hb2.mono HB1.out.size)⟩
   have HX2 := Aside0.mk (blk_below HX1.out hb2)
   clear q0 q1 q2 q3 q4 q5 q6 q7 q8 hb2 HSD HX1 HB1
   obtain ⟨q0, q1, q2, q3, q4, q5, q6, q7, q8⟩ := rec_cells HX2.out
   rcases HFO.out with rfl | rfl | rfl | rfl
   ·rw [if_neg (by decide), if_neg (by decide)] at HSV
    obtain rfl := HSV.out
    rw [if_neg (by decide)] at HVV
    obtain ⟨AK, AP, AE, cK, cP, cE, hp⟩ := HS.out.below HB2.out
    obtain ⟨-, -, -, p3⟩ := hp.cells
    clear HSV HFO hp
    go_upto_region 8 with (fail)
    go_cut [39] (fun v wc => v = .bool (decide (r.f2 < s.over)) ∧ Aside0 (Below w2.heap.size w2 wc))
    case first =>
     go_quiet (fail)
     all_goals (try go_wp2_with fail)
     go_meet
     case rel => exact ⟨rfl, ⟨pw_below_drewN (Below.refl _ _) _⟩⟩
    case rest =>
     obtain ⟨rfl, HBC⟩ := hcut
     obtain ⟨wb, hwb⟩ : ∃ wb, wb = wc := ⟨_, rfl⟩
     subst hwb
     have HB3 : Aside0 (Below w.heap.size w wb) := ⟨HB2.out.trans (HBC.out.mono HB2.out.size)⟩
     have HX3 := Aside0.mk (blk_below HX2.out HBC.out)
     clear q0 q1 q2 q3 q4 q5 q6 q7 q8 HBC HX2 HB2 p3
     obtain ⟨q0, q1, q2, q3, q4, q5, q6, q7, q8⟩ := rec_cells HX3.out
     by_cases ho : r.f2 < s.over
     ·rw [if_pos ho] at HVV
      have d1 : decide (r.f2 < s.over) = true := decide_eq_true ho
      rw [d1]
      clear ho d1
      obtain rfl := HVV.out
      clear HVV
      go_wp2_with fail
      go_ret
      exact ⟨rfl, HB3.out⟩
     ·rw [if_neg ho] at HVV
      have d1 : decide (r.f2 < s.over) = false := decide_eq_false ho
      rw [d1]
      clear ho d1
      go_wp2_with fail
      go_loopw [7] (fun v wz => ∃ i : Nat, i ≤ r.f7.length ∧ v = .int .i64 (i : Int) ∧ Aside0 (∀ (j : Nat) (hj : j < r.f7.length), j < i → decide (r.f2 < lastV (look s.K (kb r.f7[j]))) = false) ∧ Aside0 (Below w.heap.size w wz) ∧ Aside0 (wz.heap[w.heap.size]? = some (.cells #[.int .i64 r.f0, .int .i64 r.f1, .int .i64 r.f2, .int .i64 r.f3, .string r.f4, .string r.f5, .bool r.f6, .slice A7 r.f7.length c7, .slice A8 r.f8.length c8] 26 (0, 0)))) (fun i _ => r.f7.length - (intOf i).toNat)
      case atStart => exact ⟨0, Nat.zero_le _, rfl, ⟨fun j hj hk => absurd hk (by omega)⟩, HB3, HX3⟩
      case round =>
       clear q0 q1 q2 q3 q4 q5 q6 q7 q8 HB3 HX3
       obtain ⟨i, hi, rfl, HN, HB, HX⟩ := hrel
       obtain ⟨q0, q1, q2, q3, q4, q5, q6, q7, q8⟩ := rec_cells HX.out
       by_cases hlt : i < r.f7.length
       ·obtain ⟨ad, rfl, z0⟩ := strK_at (Kd.C_below H7.out HB.out) i hlt
        have HYES : Aside0 (decide (r.f2 < lastV (look s.K (kb r.f7[i]))) = true → movedV s r = true) := ⟨fun h => any_yes (fun k => decide (r.f2 < lastV (look s.K (kb k)))) r.f7 i hlt h⟩
        have HNX : Aside0 (decide (r.f2 < lastV (look s.K (kb r.f7[i]))) = false → ∀ (j : Nat) (hj : j < r.f7.length), j < i + 1 → decide (r.f2 < lastV (look s.K (kb r.f7[j]))) = false) := ⟨fun h => all_next (fun k => decide (r.f2 < lastV (look s.K (kb k)))) r.f7 i hlt HN.out h⟩
        have HLC : Aside0 (∀ W, Below w.heap.size w W → Calls Tryz.prog 59 #[.pointer (some ⟨b, 0, none⟩), .string r.f7[i]] W fun e w' => e = .returned (.int .i64 (lastV (look s.K (kb r.f7[i])))) ∧ Below W.heap.size W w') := ⟨fun W hW => HLS.out W hW _⟩
        generalize lastV (look s.K (kb r.f7[i])) = lv at *
        generalize r.f7[i] = x at z0 HLC
        have hi2 : (i : Int) < (r.f7.length : Int) := by omega
        go_upto_region 13 with (fail)
        go_cut [56] (fun v wc => v = .bool (decide (r.f2 < lv)) ∧ Aside0 (Below wr.heap.size wr wc))
        case first =>
         go_region_law (go_simp; go_at_call 59; refine (HLC.out _ (by repeat (first | exact HB.out | apply below_drew1 | apply pw_below_drewN))).mono ?_; rintro e w5 ⟨rfl, hb5⟩; have HB5 : Aside0 (Below wr.heap.size wr w5) := ⟨(by repeat (first | exact Below.refl _ _ | apply below_drew1) : Below wr.heap.size wr _).trans (hb5.mono (by simp))⟩; obtain ⟨u0, u1, u2, u3, u4, u5, u6, u7, u8⟩ := rec_cells (blk_below HX.out HB5.out); clear hb5)
         all_goals (try go_wp2_with fail)
         all_goals go_meet
         all_goals (case rel => exact ⟨rfl, ⟨by repeat (first | exact HB5.out | apply below_drew1 | apply pw_below_drewN)⟩⟩)
        case rest =>
         obtain ⟨rfl, HBC⟩ := hcut
         obtain ⟨wb2, hwb⟩ : ∃ wb2, wb2 = wc := ⟨_, rfl⟩
         subst hwb
         have HB2 : Aside0 (Below w.heap.size w wb2) := ⟨HB.out.trans (HBC.out.mono HB.out.size)⟩
         have HX2 := Aside0.mk (blk_below HX.out HBC.out)
         clear q0 q1 q2 q3 q4 q5 q6 q7 q8 HBC HLC z0 hi2
         obtain ⟨q0, q1, q2, q3, q4, q5, q6, q7, q8⟩ := rec_cells HX2.out
         cases hd : decide (r.f2 < lv) with
         | true =>
          rw [HYES.out hd, if_pos rfl] at HVV
          clear HYES HNX hd
          obtain rfl := HVV.out
          clear HVV
          go_wp2_with fail
          go_ret
          exact ⟨rfl, HB2.out⟩
         | false =>
          have HNN := Aside0.mk (HNX.out hd)
          clear HYES HNX hd
          go_wp2_with fail
          go_roundw
          case rel => exact ⟨i + 1, by omega, by go_num, HNN, HB2, HX2⟩
          case measure => simp [intOf]; omega
       ·obtain rfl : i = r.f7.length := by omega
        have HMV : Aside0 (movedV s r = false) := ⟨any_no (fun k => decide (r.f2 < lastV (look s.K (kb k)))) r.f7 (fun j hj => HN.out j hj hj)⟩
        rw [HMV.out, if_neg (by decide), HLK.out] at HVV
        clear HN HMV HLS HLK
        go_wp2_with fail
        go_loopw [8] (fun v wz => ∃ i : Nat, i ≤ r.f7.length ∧ v = .int .i64 (i : Int) ∧ Aside0 (∀ (j : Nat) (hj : j < r.f7.length), j < i → heldV s (kb r.f7[j]) false = false) ∧ Aside0 (Below w.heap.size w wz) ∧ Aside0 (wz.heap[w.heap.size]? = some (.cells #[.int .i64 r.f0, .int .i64 r.f1, .int .i64 r.f2, .int .i64 r.f3, .string r.f4, .string r.f5, .bool r.f6, .slice A7 r.f7.length c7, .slice A8 r.f8.length c8] 26 (0, 0)))) (fun i _ => r.f7.length - (intOf i).toNat)
        case atStart => exact ⟨0, Nat.zero_le _, rfl, ⟨fun j hj hk => absurd hk (by omega)⟩, HB, HX⟩
        case round =>
         clear q0 q1 q2 q3 q4 q5 q6 q7 q8 HB HX
         obtain ⟨i, hi, rfl, HN, HB, HX⟩ := hrel
         obtain ⟨q0, q1, q2, q3, q4, q5, q6, q7, q8⟩ := rec_cells HX.out
         by_cases hlt : i < r.f7.length
         ·obtain ⟨ad, rfl, z0⟩ := strK_at (Kd.C_below H7.out HB.out) i hlt
          have HYES : Aside0 (heldV s (kb r.f7[i]) false = true → (r.f7.any (fun k => heldV s (kb k) false) || r.f8.any (fun w => heldV s (kb w.f0) true)) = true) := ⟨fun h => by rw [any_yes (fun k => heldV s (kb k) false) r.f7 i hlt h]; rfl⟩
          have HNX : Aside0 (heldV s (kb r.f7[i]) false = false → ∀ (j : Nat) (hj : j < r.f7.length), j < i + 1 → heldV s (kb r.f7[j]) false = false) := ⟨fun h => all_next (fun k => heldV s (kb k) false) r.f7 i hlt HN.out h⟩
          generalize r.f7[i] = x at z0 HYES HNX
          have HH := Aside0.mk (HHE.out wr HB.out x false)
          generalize heldV s (kb x) false = hx at *
          go_wp2_with fail
          refine HH.out.mono ?_
          rintro e w2 ⟨rfl, hb2⟩
          have HB2 : Aside0 (Below w.heap.size w w2) := ⟨HB.out.trans (hb2.mono HB.out.size)⟩
          have HX2 := Aside0.mk (blk_below HX.out hb2)
          clear q0 q1 q2 q3 q4 q5 q6 q7 q8 hb2 HH z0
          obtain ⟨q0, q1, q2, q3, q4, q5, q6, q7, q8⟩ := rec_cells HX2.out
          cases hx with
          | true =>
           rw [HYES.out rfl, if_pos rfl] at HVV
           clear HYES HNX
           obtain rfl := HVV.out
           clear HVV
           go_wp2_with fail
           go_ret
           exact ⟨rfl, HB2.out⟩
          | false =>
           have HNN := Aside0.mk (HNX.out rfl)
           clear HYES HNX
           go_wp2_with fail
           go_roundw
           case rel => exact ⟨i + 1, by omega, by go_num, HNN, HB2, HX2⟩
           case measure => simp [intOf]; omega
         ·obtain rfl : i = r.f7.length := by omega
          have H7F : Aside0 (r.f7.any (fun k => heldV s (kb k) false) = false) := ⟨any_no (fun k => heldV s (kb k) false) r.f7 (fun j hj => HN.out j hj hj)⟩
          rw [H7F.out, Bool.false_or] at HVV
          clear HN H7F
          go_wp2_with fail
          go_loopw [9] (fun v wz => ∃ i : Nat, i ≤ r.f8.length ∧ v = .int .i64 (i : Int) ∧ Aside0 (∀ (j : Nat) (hj : j < r.f8.length), j < i → heldV s (kb r.f8[j].f0) true = false) ∧ Aside0 (Below w.heap.size w wz) ∧ Aside0 (wz.heap[w.heap.size]? = some (.cells #[.int .i64 r.f0, .int .i64 r.f1, .int .i64 r.f2, .int .i64 r.f3, .string r.f4, .string r.f5, .bool r.f6, .slice A7 r.f7.length c7, .slice A8 r.f8.length c8] 26 (0, 0)))) (fun i _ => r.f8.length - (intOf i).toNat)
          case atStart => exact ⟨0, Nat.zero_le _, rfl, ⟨fun j hj hk => absurd hk (by omega)⟩, HB, HX⟩
          case round =>
           clear q0 q1 q2 q3 q4 q5 q6 q7 q8 HB HX
           obtain ⟨i, hi, rfl, HN, HB, HX⟩ := hrel
           obtain ⟨q0, q1, q2, q3, q4, q5, q6, q7, q8⟩ := rec_cells HX.out
           by_cases hlt : i < r.f8.length
           ·obtain ⟨ad, rfl, z0, -, -⟩ := wrK_at (Kd.C_below H8.out HB.out) i hlt
            have HYES : Aside0 (heldV s (kb r.f8[i].f0) true = true → r.f8.any (fun w => heldV s (kb w.f0) true) = true) := ⟨fun h => any_yes (fun w : Wr => heldV s (kb w.f0) true) r.f8 i hlt h⟩
            have HNX : Aside0 (heldV s (kb r.f8[i].f0) true = false → ∀ (j : Nat) (hj : j < r.f8.length), j < i + 1 → heldV s (kb r.f8[j].f0) true = false) := ⟨fun h => all_next (fun w : Wr => heldV s (kb w.f0) true) r.f8 i hlt HN.out h⟩
            generalize r.f8[i].f0 = x at z0 HYES HNX
            have HH := Aside0.mk (HHE.out wr HB.out x true)
            generalize heldV s (kb x) true = hx at *
            go_wp2_with fail
            refine HH.out.mono ?_
            rintro e w2 ⟨rfl, hb2⟩
            have HB2 : Aside0 (Below w.heap.size w w2) := ⟨HB.out.trans (hb2.mono HB.out.size)⟩
            have HX2 := Aside0.mk (blk_below HX.out hb2)
            clear q0 q1 q2 q3 q4 q5 q6 q7 q8 hb2 HH z0
            obtain ⟨q0, q1, q2, q3, q4, q5, q6, q7, q8⟩ := rec_cells HX2.out
            cases hx with
            | true =>
             rw [HYES.out rfl, if_pos rfl] at HVV
             clear HYES HNX
             obtain rfl := HVV.out
             clear HVV
             go_wp2_with fail
             go_ret
             exact ⟨rfl, HB2.out⟩
            | false =>
             have HNN := Aside0.mk (HNX.out rfl)
             clear HYES HNX
             go_wp2_with fail
             go_roundw
             case rel => exact ⟨i + 1, by omega, by go_num, HNN, HB2, HX2⟩
             case measure => simp [intOf]; omega
           ·obtain rfl : i = r.f8.length := by omega
            have H8F : Aside0 (r.f8.any (fun w => heldV s (kb w.f0) true) = false) := ⟨any_no (fun w : Wr => heldV s (kb w.f0) true) r.f8 (fun j hj => HN.out j hj hj)⟩
            rw [H8F.out, if_neg (by decide)] at HVV
            clear HN H8F
            obtain rfl := HVV.out
            clear HVV
            go_wp2_with fail
            go_ret
            exact ⟨rfl, HB.out⟩
   ·rw [if_pos (.inl rfl)] at HSV
    obtain rfl := HSV.out
    rw [if_pos (by decide)] at HVV
    clear HSV HFO
    obtain rfl := HVV.out
    clear HVV
    go_wp2_with fail
    go_ret
    exact ⟨rfl, HB2.out⟩
   ·rw [if_pos (.inr rfl)] at HSV
    obtain rfl := HSV.out
    rw [if_pos (by decide)] at HVV
    clear HSV HFO
    obtain rfl := HVV.out
    clear HVV
    go_wp2_with fail
    go_ret
    exact ⟨rfl, HB2.out⟩
   ·rw [if_neg (by decide), if_pos rfl] at HSV
    obtain rfl := HSV.out
    rw [if_pos (by decide)] at HVV
    clear HSV HFO
    obtain rfl := HVV.out
    clear HVV
    go_wp2_with fail
    go_ret
    exact ⟨rfl, HB2.out⟩
  ·have d1 : (k != 0) = true := by simpa using hk
   rw [if_pos (fun h => hk h.2)] at HVV
   clear hk
   obtain rfl := HVV.out
   clear HVV
   go_wp2_with fail
   go_ret
   exact ⟨rfl, HB1.out⟩
 ·have b1 : (r.f0 != 1) = true := by simpa using k1
  rw [if_pos (fun h => k1 h.1)] at HVV
  clear k1
  obtain rfl := HVV.out
  clear HVV
  go_wp2_with fail
  rw [← HWY.out]
  go_ret
  exact ⟨rfl, HBY.out⟩
set_option maxRecDepth 100000 in
set_option maxHeartbeats 4000000 in
theorem votenil_walk (w : World) (f0 f1 f2 f3 : Int) (f4 f5 : ByteArray) (f6 : Bool) (A7 : Option Addr) (n7 c7 : Nat) (A8 : Option Addr) (n8 c8 : Nat) :
 Calls Tryz.prog 26 #[.pointer none, .agg #[.int .i64 f0, .int .i64 f1, .int .i64 f2, .int .i64 f3, .string f4, .string f5, .bool f6, .slice A7 n7 c7, .slice A8 n8 c8]] w fun e w' => e = .returned (.int .i64 5) ∧ Below w.heap.size w w' := by
 have HB : Aside0 (Below w.heap.size w (w.alloc (.cells #[.int .i64 f0, .int .i64 f1, .int .i64 f2, .int .i64 f3, .string f4, .string f5, .bool f6, .slice A7 n7 c7, .slice A8 n8 c8] 26))) := ⟨below_alloc (Below.refl _ _) _⟩
 have hu := Tryz.underlying26
 go_enter Tryz.func26, Tryz.ntmps26
 go_wp2_with fail
 try go_step3
 try go_wp2_with fail
 try rw [Exit.noGoto_ret]
 go_ret
 exact ⟨rfl, HB.out⟩
end Go.Proofs.YtaldfbmjmpkmmaaGreat.PL
