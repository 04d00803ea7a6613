/- Texts of this proof, one behind the other (merged by a program of this session). -/
import Derived.Test.YtaldfbmjmpkmmaaM650f17
import Derived.Test.YtaldfbmjmpkmmaaM9e30b1
import Derived.WalkMore
namespace Go.Proofs.Ytaldfbmjmpkmmaa.PL
open Go.RowKit Go.Proofs.YtaldfbmjmpkmmaaW.PrintWords Go.Proofs.YtaldfbmjmpkmmaaW.PrintLast Go.Proofs.YtaldfbmjmpkmmaaW.PrintMore
set_option linter.unusedVariables false
set_option linter.unusedSimpArgs false
set_option linter.unusedSectionVars false
theorem any_take {α : Type} (p : α → Bool) (l : List α) (i : Nat) (h : i < l.length) : (l.take (i + 1)).any p = ((l.take i).any p || p l[i]) := by
  rw [List.take_succ_eq_append_getElem h, List.any_append]
  simp
set_option maxRecDepth 100000 in
set_option maxHeartbeats 16000000 in
theorem votep_walk {w : World} {ok : Nat → Prop} {b N : Nat} {s : Sh} (h : ShAt w ok b N s) (r : Rec) (cs : List Value) (hK : k35.K w r cs) (hs : sizesOk r) :
    Calls Try.prog 16 #[.pointer (some ⟨b, 0, none⟩), .agg cs.toArray] w fun e w' => e = .returned (.int .i64 (voteV s r)) ∧ Below w.heap.size w w' := by
  obtain ⟨A7, c7, A8, c8, rfl, l7, g7, l8, g8⟩ := k35_open hK
  obtain ⟨wy, hwy⟩ : ∃ wy, wy = w.alloc (.cells #[.int .i64 r.f0, .int .i64 r.f1, .int .i64 r.f2, .int .i64 r.f3, .string r.f4, .string r.f5, .bool r.f6, .slice A7 r.f7.length c7, .slice A8 r.f8.length c8] 35) := ⟨_, rfl⟩
  have hby : Below w.heap.size w wy := by rw [hwy]; exact below_alloc (Below.refl _ _) _
  have hyx : wy.heap[w.heap.size]? = some (.cells #[.int .i64 r.f0, .int .i64 r.f1, .int .i64 r.f2, .int .i64 r.f3, .string r.f4, .string r.f5, .bool r.f6, .slice A7 r.f7.length c7, .slice A8 r.f8.length c8] 35 (0, 0)) := by rw [hwy]; exact blk_new _ _
  have HWY := Aside0.mk hwy
  have HBY := Aside0.mk hby
  have HYX := Aside0.mk hyx
  have HS := Aside0.mk h
  have H7 := Aside0.mk g7
  have H8 := Aside0.mk g8
  have hm7 := Kd.C_max g7
  have hm8 := Kd.C_max g8
  have HCK := Aside0.mk (record_Check.calls r.f0 r.f1 r.f2 r.f3 r.f4 r.f5 r.f6 A7 c7 r.f7 A8 c8 r.f8 (okR r) wy (Kd.C_below g7 hby) l7 (Kd.C_below g8 hby) l8 (check_f r hs))
  have HVV : Aside0 (voteV s r = if ¬ (r.f0 = 1 ∧ okR r = 0) then 80
  else if standsV s r.f1 ≠ 0 then standsV s r.f1
  else if r.f2 < s.over then 110
  else if movedV s r = true then 190
  else if lockedV s r = true then 180 else 0) := ⟨rfl⟩
  have HLO := Aside0.mk (fun h0 hz => prep_lists (r := r) h0 hz)
  have HRA := Aside0.mk (fun hz => okR_all (r := r) hz)
  obtain ⟨q0, q1, q2, q3, q4, q5, q6, q7, q8⟩ := rec_cells hyx
  clear h hK hs g7 g8 hwy hby hyx l7 l8
  generalize voteV s r = vv at *
  generalize okR r = k at *
  go_enter Try.func16, Try.ntmps16
  go_wp2_with fail
  go_step3
  by_cases k1 : r.f0 = 1
  · have b1 : (r.f0 != 1) = false := by simp [k1]
    have K1 := Aside0.mk k1
    clear k1
    go_wp2_with fail
    rw [← HWY.out]
    refine HCK.out.mono ?_
    rintro e w1 ⟨rfl, hb1⟩
    have HB1 : Aside0 (Below w.heap.size w w1) := ⟨HBY.out.trans (hb1.mono HBY.out.size)⟩
    have HX1 := Aside0.mk (blk_below HYX.out hb1)
    clear q0 q1 q2 q3 q4 q5 q6 q7 q8 hb1 HCK HYX HBY HWY
    obtain ⟨q0, q1, q2, q3, q4, q5, q6, q7, q8⟩ := rec_cells HX1.out
    by_cases hk : k = 0
    · subst hk
      rw [if_neg (fun h => h ⟨K1.out, rfl⟩)] at HVV
      have HR1 := Aside0.mk (HRA.out rfl)
      have HL1 := Aside0.mk (HLO.out K1.out rfl).1
      have HSD := Aside0.mk (stands_walk (HS.out.below HB1.out) r.f1 (by have := HR1.out.1; omega))
      clear HLO HRA
      generalize standsV s r.f1 = sv at *
      go_wp2_with fail
      refine HSD.out.mono ?_
      rintro e w2 ⟨rfl, hb2⟩
      have HB2 : Aside0 (Below w.heap.size w w2) := ⟨HB1.out.trans (hb2.mono HB1.out.size)⟩
      have HX2 := Aside0.mk (blk_below HX1.out hb2)
      clear q0 q1 q2 q3 q4 q5 q6 q7 q8 hb2 HSD HX1 HB1
      obtain ⟨q0, q1, q2, q3, q4, q5, q6, q7, q8⟩ := rec_cells HX2.out
      by_cases hsv : sv = 0
      · subst hsv
        rw [if_neg (by simp)] at HVV
        have HSW : Aside0 (∀ W, Below w.heap.size w W → Calls Try.prog 25 #[.pointer (some ⟨b, 0, none⟩)] W fun e w' => e = .returned (.int .i64 s.over) ∧ Below W.heap.size W w') := ⟨fun W hW => swept_walk (HS.out.below hW)⟩
        go_upto_region 8 with (fail)
        go_cut [32] (fun v32 wc => v32 = .bool (decide (r.f2 < s.over)) ∧ Aside0 (Below w2.heap.size w2 wc))
        case first =>
          go_region_law (go_simp; go_at_call 25; refine (HSW.out _ (by repeat (first | exact HB2.out | apply below_drew1 | apply pw_below_drewN))).mono ?_; rintro e w5 ⟨rfl, hb5⟩; have HB5 : Aside0 (Below w2.heap.size w2 w5) := ⟨(by repeat (first | exact Below.refl _ _ | apply below_drew1) : Below w2.heap.size w2 _).trans (hb5.mono (by simp))⟩; obtain ⟨u0, u1, u2, u3, u4, u5, u6, u7, u8⟩ := rec_cells (blk_below HX2.out HB5.out); clear hb5)
          all_goals (try go_wp2_with fail)
          all_goals go_meet
          all_goals (case rel => exact ⟨rfl, ⟨by repeat (first | exact HB5.out | apply below_drew1 | apply pw_below_drewN)⟩⟩)
        case rest =>
          obtain ⟨rfl, HBC⟩ := hcut
          obtain ⟨wb, hwb⟩ : ∃ wb, wb = wc := ⟨_, rfl⟩
          subst hwb
          have HB3 : Aside0 (Below w.heap.size w wb) := ⟨HB2.out.trans (HBC.out.mono HB2.out.size)⟩
          have HX3 := Aside0.mk (blk_below HX2.out HBC.out)
          clear q0 q1 q2 q3 q4 q5 q6 q7 q8 HBC HSW HX2 HB2
          obtain ⟨q0, q1, q2, q3, q4, q5, q6, q7, q8⟩ := rec_cells HX3.out
          by_cases ho : r.f2 < s.over
          · rw [if_pos ho] at HVV
            have d1 : decide (r.f2 < s.over) = true := decide_eq_true ho
            rw [d1]
            obtain rfl := HVV.out
            clear HVV ho
            go_wp2_with fail
            try rw [Exit.noGoto_ret]
            go_ret
            exact ⟨rfl, HB3.out⟩
          · rw [if_neg ho] at HVV
            have d1 : decide (r.f2 < s.over) = false := decide_eq_false ho
            rw [d1]
            clear ho d1
            obtain ⟨e1, he1⟩ : ∃ e1 : Int, e1 = if movedV s r = true then 190 else if r.f7.any (fun k => heldV s (kb k) false) = true then 180 else 0 := ⟨_, rfl⟩
            have HE1 := Aside0.mk he1
            go_wp2_with fail
            go_step3
            go_upto_block 0 with (fail)
            go_cut [6] (fun v6 wd => v6 = .int .i64 e1 ∧ Aside0 (Below wb.heap.size wb wd))
            case first =>
              go_wp2_with fail
              go_loopw [6, 36] (fun v6 v wz => ∃ (i : Nat) (e6 : Int), i ≤ r.f7.length ∧ v = .int .i64 (i : Int) ∧ v6 = .int .i64 e6 ∧ Aside0 (e6 = if (r.f7.take i).any (fun k => heldV s (kb k) false) = true then 180 else 0) ∧ Aside0 (∀ (j : Nat) (hj : j < r.f7.length), j < i → decide (r.f2 < lastV (look s.K (kb r.f7[j]))) = false) ∧ Aside0 (Below wb.heap.size wb wz)) (fun _ i _ => r.f7.length - (intOf i).toNat)
              case atStart => exact ⟨0, 0, Nat.zero_le _, rfl, rfl, ⟨rfl⟩, ⟨fun j hj hk => absurd hk (by omega)⟩, ⟨Below.refl _ _⟩⟩
              case round =>
                clear q0 q1 q2 q3 q4 q5 q6 q7 q8
                obtain ⟨i, e6, hi, rfl, rfl, HE6, HN, HB⟩ := hrel
                have HBW : Aside0 (Below w.heap.size w wr) := ⟨HB3.out.trans (HB.out.mono HB3.out.size)⟩
                by_cases hlt : i < r.f7.length
                · obtain ⟨ad, rfl, z0⟩ := strK_at (Kd.C_below H7.out HBW.out) i hlt
                  have HAT := Aside0.mk (any_take (fun k => heldV s (kb k) false) r.f7 i hlt)
                  have HYES : Aside0 (decide (r.f2 < lastV (look s.K (kb r.f7[i]))) = true → movedV s r = true) := ⟨fun h => any_yes (fun k => decide (r.f2 < lastV (look s.K (kb k)))) r.f7 i hlt h⟩
                  have HNX : Aside0 (decide (r.f2 < lastV (look s.K (kb r.f7[i]))) = false → ∀ (j : Nat) (hj : j < r.f7.length), j < i + 1 → decide (r.f2 < lastV (look s.K (kb r.f7[j]))) = false) := ⟨fun h => all_next (fun k => decide (r.f2 < lastV (look s.K (kb k)))) r.f7 i hlt HN.out h⟩
                  have hks := Nat.le_trans (key_size (HL1.out.key7 _ (List.getElem_mem hlt))) (show 32 ≤ maxLen by decide)
                  have HLA : Aside0 (∀ W, Below w.heap.size w W → Calls Try.prog 43 #[.pointer (some ⟨b, 0, none⟩), .string r.f7[i]] W fun e w' => e = .returned (.int .i64 (lastV (look s.K (kb r.f7[i])))) ∧ Below W.heap.size W w') := ⟨fun W hW => lastS_walk (HS.out.below hW) _ hks⟩
                  have HHE : Aside0 (∀ W, Below w.heap.size w W → Calls Try.prog 31 #[.pointer (some ⟨b, 0, none⟩), .string r.f7[i], .bool false] W fun e w' => e = .returned (.bool (heldV s (kb r.f7[i]) false)) ∧ Below W.heap.size W w') := ⟨fun W hW => held_walk (HS.out.below hW) _ false⟩
                  clear hks
                  generalize (r.f7.take i).any (fun k => heldV s (kb k) false) = pa at *
                  generalize lastV (look s.K (kb r.f7[i])) = lv at *
                  generalize heldV s (kb r.f7[i]) false = hx at *
                  generalize r.f7[i] = x at *
                  obtain ⟨q0, q1, q2, q3, q4, q5, q6, q7, q8⟩ := rec_cells (blk_below HX3.out HB.out)
                  go_upto_region 14 with (fail)
                  go_cut [40] (fun v40 wd => v40 = .bool (decide (r.f2 < lv)) ∧ Aside0 (Below wr.heap.size wr wd))
                  case first =>
                    go_region_law (go_simp; go_at_call 43; refine (HLA.out _ (by repeat (first | exact HBW.out | apply below_drew1 | apply pw_below_drewN))).mono ?_; rintro e w5 ⟨rfl, hb5⟩; have HB5 : Aside0 (Below wr.heap.size wr w5) := ⟨(by repeat (first | exact Below.refl _ _ | apply below_drew1) : Below wr.heap.size wr _).trans (hb5.mono (by simp))⟩; obtain ⟨u0, u1, u2, u3, u4, u5, u6, u7, u8⟩ := rec_cells (blk_below (blk_below HX3.out HB.out) HB5.out); clear hb5)
                    all_goals (try go_wp2_with fail)
                    all_goals go_meet
                    all_goals (case rel => exact ⟨rfl, ⟨by repeat (first | exact HB5.out | apply below_drew1 | apply pw_below_drewN)⟩⟩)
                  case rest =>
                    obtain ⟨rfl, HBD⟩ := hcut
                    have HBE : Aside0 (Below wb.heap.size wb wc) := ⟨HB.out.trans (HBD.out.mono HB.out.size)⟩
                    have HBV : Aside0 (Below w.heap.size w wc) := ⟨HB3.out.trans (HBE.out.mono HB3.out.size)⟩
                    cases hd : decide (r.f2 < lv) with
                    | true =>
                      have he : e1 = 190 := by rw [HE1.out, if_pos (HYES.out hd)]
                      subst he
                      clear hd HYES HNX q0 q1 q2 q3 q4 q5 q6 q7 q8 z0
                      go_wp2_with fail
                      go_meet
                      case rel => exact ⟨rfl, HBE⟩
                    | false =>
                      have HNN := Aside0.mk (HNX.out hd)
                      have HH := Aside0.mk (HHE.out wc HBV.out)
                      clear hd HYES HNX q0 q1 q2 q3 q4 q5 q6 q7 q8 z0 HHE HLA
                      go_wp2_with fail
                      refine HH.out.mono ?_
                      rintro e w5 ⟨rfl, hb5⟩
                      have HB5 : Aside0 (Below wb.heap.size wb w5) := ⟨HBE.out.trans (hb5.mono HBE.out.size)⟩
                      clear hb5 HH
                      cases hx with
                      | true =>
                        have HEN : Aside0 ((180 : Int) = if (r.f7.take (i + 1)).any (fun k => heldV s (kb k) false) = true then 180 else 0) := ⟨by rw [HAT.out]; simp⟩
                        clear HAT
                        go_wp2_with fail
                        go_roundw
                        case rel => exact ⟨i + 1, 180, by omega, by go_num, rfl, HEN, HNN, HB5⟩
                        case measure => simp [intOf]; omega
                      | false =>
                        have HEN : Aside0 (e6 = if (r.f7.take (i + 1)).any (fun k => heldV s (kb k) false) = true then 180 else 0) := ⟨by rw [HAT.out, Bool.or_false]; exact HE6.out⟩
                        clear HAT
                        go_wp2_with fail
                        go_roundw
                        case rel => exact ⟨i + 1, e6, by omega, by go_num, rfl, HEN, HNN, HB5⟩
                        case measure => simp [intOf]; omega
                · obtain rfl : i = r.f7.length := by omega
                  have hmv : movedV s r = false := any_no (fun k => decide (r.f2 < lastV (look s.K (kb k)))) r.f7 (fun j hj => HN.out j hj hj)
                  have he : e6 = e1 := by rw [HE6.out, HE1.out, hmv, List.take_length]; simp
                  subst he
                  clear HN HE6 hmv
                  go_wp2_with fail
                  go_meet
                  case rel => exact ⟨rfl, HB⟩
            case rest =>
              obtain ⟨rfl, HB⟩ := hcut
              clear q0 q1 q2 q3 q4 q5 q6 q7 q8
              have HB4 : Aside0 (Below w.heap.size w wc) := ⟨HB3.out.trans (HB.out.mono HB3.out.size)⟩
              obtain ⟨q0, q1, q2, q3, q4, q5, q6, q7, q8⟩ := rec_cells (blk_below HX3.out HB.out)
              obtain ⟨wd, hwd⟩ : ∃ wd, wd = wc := ⟨_, rfl⟩
              subst hwd
              clear HB
              go_wp2_with fail
              clear q0 q1 q2 q3 q4 q5 q6 q7 q8
              go_loopw [6, 55] (fun v6 v wz => ∃ (i : Nat) (e6 : Int), i ≤ r.f8.length ∧ v = .int .i64 (i : Int) ∧ v6 = .int .i64 e6 ∧ Aside0 (e6 = if e1 = 0 ∧ (r.f8.take i).any (fun w => heldV s (kb w.f0) true) = true then 180 else e1) ∧ Aside0 (Below w.heap.size w wz)) (fun _ i _ => r.f8.length - (intOf i).toNat)
              case atStart => exact ⟨0, e1, Nat.zero_le _, rfl, rfl, ⟨by simp⟩, HB4⟩
              case round =>
                obtain ⟨i, e6, hi, rfl, rfl, HE6, HB⟩ := hrel
                by_cases hlt : i < r.f8.length
                · obtain ⟨ad, rfl, z0, z1, z2⟩ := wrK_at (Kd.C_below H8.out HB.out) i hlt
                  have HAT := Aside0.mk (any_take (fun w : Wr => heldV s (kb w.f0) true) r.f8 i hlt)
                  have HHE : Aside0 (∀ W, Below w.heap.size w W → Calls Try.prog 31 #[.pointer (some ⟨b, 0, none⟩), .string r.f8[i].f0, .bool true] W fun e w' => e = .returned (.bool (heldV s (kb r.f8[i].f0) true)) ∧ Below W.heap.size W w') := ⟨fun W hW => held_walk (HS.out.below hW) _ true⟩
                  generalize (r.f8.take i).any (fun w => heldV s (kb w.f0) true) = pa at *
                  generalize heldV s (kb r.f8[i].f0) true = hx at *
                  generalize r.f8[i] = x at *
                  obtain ⟨x0, x1, x2⟩ := x
                  try simp only at z0 z1 z2 HHE
                  obtain ⟨wz, hwz⟩ : ∃ wz, wz = wr.alloc (.cells #[.string x0, .string x1, .bool x2] 56) := ⟨_, rfl⟩
                  have hbz : Below wr.heap.size wr wz := by rw [hwz]; exact below_alloc (Below.refl _ _) _
                  have HBZ : Aside0 (Below w.heap.size w wz) := ⟨HB.out.trans (hbz.mono HB.out.size)⟩
                  have HWZ := Aside0.mk hwz
                  clear hbz hwz
                  by_cases h0 : e6 = 0
                  · have HH := Aside0.mk (HHE.out wz HBZ.out)
                    have he1 : e1 = 0 ∧ pa = false := by
                      have h := HE6.out
                      rw [h0] at h
                      by_cases h1 : e1 = 0
                      · refine ⟨h1, ?_⟩
                        cases pa with
                        | false => rfl
                        | true => rw [if_pos ⟨h1, rfl⟩] at h; cases h
                      · rw [if_neg (fun hh => h1 hh.1)] at h
                        exact absurd h.symm h1
                    subst h0
                    obtain ⟨he1, hpa⟩ := he1
                    subst hpa
                    have HE10 := Aside0.mk he1
                    clear he1 HE6 HHE
                    go_wp2_with fail
                    rw [← HWZ.out]
                    refine HH.out.mono ?_
                    rintro e w5 ⟨rfl, hb5⟩
                    have HB5 : Aside0 (Below w.heap.size w w5) := ⟨HBZ.out.trans (hb5.mono HBZ.out.size)⟩
                    clear hb5 HH z0 z1 z2
                    cases hx with
                    | true =>
                      have HEN : Aside0 ((180 : Int) = if e1 = 0 ∧ (r.f8.take (i + 1)).any (fun w => heldV s (kb w.f0) true) = true then 180 else e1) := ⟨by rw [HAT.out, if_pos ⟨HE10.out, by simp⟩]⟩
                      clear HAT
                      go_wp2_with fail
                      go_roundw
                      case rel => exact ⟨i + 1, 180, by omega, by go_num, rfl, HEN, HB5⟩
                      case measure => simp [intOf]; omega
                    | false =>
                      have HEN : Aside0 ((0 : Int) = if e1 = 0 ∧ (r.f8.take (i + 1)).any (fun w => heldV s (kb w.f0) true) = true then 180 else e1) := ⟨by rw [HAT.out, HE10.out]; simp⟩
                      clear HAT
                      go_wp2_with fail
                      go_roundw
                      case rel => exact ⟨i + 1, 0, by omega, by go_num, rfl, HEN, HB5⟩
                      case measure => simp [intOf]; omega
                  · have d6 : (e6 == 0) = false := by simpa using h0
                    have HEN : Aside0 (e6 = if e1 = 0 ∧ (r.f8.take (i + 1)).any (fun w => heldV s (kb w.f0) true) = true then 180 else e1) := ⟨by
                      have h := HE6.out
                      rw [HAT.out]
                      by_cases h1 : e1 = 0
                      · cases pa with
                        | true => rw [if_pos ⟨h1, rfl⟩] at h; rw [if_pos ⟨h1, by simp⟩]; exact h
                        | false => rw [if_neg (by simp)] at h; exact absurd (h.trans h1) h0
                      · rw [if_neg (fun hh => h1 hh.1)] at h
                        rw [if_neg (fun hh => h1 hh.1)]; exact h⟩
                    clear HAT HE6 HHE h0
                    go_wp2_with fail
                    go_roundw
                    case rel => exact ⟨i + 1, e6, by omega, by go_num, rfl, HEN, by rw [← HWZ.out]; exact HBZ⟩
                    case measure => simp [intOf]; omega
                · obtain rfl : i = r.f8.length := by omega
                  have he : vv = e6 := by
                    rw [HVV.out, HE6.out, List.take_length]
                    have h1 := HE1.out
                    unfold lockedV
                    cases hm : movedV s r with
                    | true =>
                      rw [hm] at h1
                      rw [if_pos rfl] at h1
                      rw [h1]
                      simp
                    | false =>
                      rw [hm] at h1
                      cases ha : r.f7.any (fun k => heldV s (kb k) false) with
                      | true =>
                        rw [ha] at h1
                        simp at h1
                        rw [h1]
                        simp
                      | false =>
                        rw [ha] at h1
                        simp at h1
                        rw [h1]
                        simp
                  subst he
                  clear HVV HE6 HE1
                  go_wp2_with fail
                  try rw [Exit.noGoto_ret]
                  go_ret
                  exact ⟨rfl, HB.out⟩
      · rw [if_pos hsv] at HVV
        have d1 : (sv == 0) = false := by simpa using hsv
        have d2 : (sv != 0) = true := by simpa using hsv
        obtain rfl := HVV.out
        clear HVV hsv
        go_wp2_with fail
        try rw [Exit.noGoto_ret]
        go_ret
        exact ⟨rfl, HB2.out⟩
    · rw [if_pos (fun h => hk h.2)] at HVV
      have d1 : (k == 0) = false := by simpa using hk
      have d2 : (k != 0) = true := by simpa using hk
      obtain rfl := HVV.out
      clear HVV hk HLO HRA
      go_wp2_with fail
      try rw [Exit.noGoto_ret]
      go_ret
      exact ⟨rfl, HB1.out⟩
  · have b1 : (r.f0 != 1) = true := by simpa using k1
    rw [if_pos (fun h => k1 h.1)] at HVV
    obtain rfl := HVV.out
    clear HVV k1 HLO HRA
    go_wp2_with fail
    try rw [Exit.noGoto_ret]
    go_ret
    exact ⟨rfl, by rw [← HWY.out]; exact HBY.out⟩
end Go.Proofs.Ytaldfbmjmpkmmaa.PL
namespace Go.Proofs.Ytaldfbmjmpkmmaa.PL
open Go.RowKit Go.Proofs.YtaldfbmjmpkmmaaW.PrintWords Go.Proofs.YtaldfbmjmpkmmaaW.PrintLast Go.Proofs.YtaldfbmjmpkmmaaW.PrintMore
set_option linter.unusedVariables false
set_option linter.unusedSimpArgs false
set_option linter.unusedSectionVars false
theorem until_all {t : Int} : ∀ {l : Chain}, (∀ v ∈ l, v.f0 ≤ t) → untilV l t = l.length
  | [], _ => rfl
  | v :: r, h => by
    rw [until_cons, if_pos (h v List.mem_cons_self), until_all (fun u hu => h u (List.mem_cons_of_mem _ hu))]
    rfl
theorem vote_zero {s : Sh} {r : Rec} (h : voteV s r = 0) : r.f0 = 1 ∧ okR r = 0 ∧ standsV s r.f1 = 0 ∧ ¬ r.f2 < s.over ∧ movedV s r = false ∧ lockedV s r = false := by
  unfold voteV at h
  by_cases h1 : r.f0 = 1 ∧ okR r = 0
  · rw [if_neg (fun hh => hh h1)] at h
    by_cases h2 : standsV s r.f1 = 0
    · rw [if_neg (fun hh => hh h2)] at h
      by_cases h3 : r.f2 < s.over
      · rw [if_pos h3] at h; cases h
      · rw [if_neg h3] at h
        cases h4 : movedV s r with
        | true => rw [h4, if_pos rfl] at h; cases h
        | false =>
          rw [h4, if_neg (by decide)] at h
          cases h5 : lockedV s r with
          | true => rw [h5, if_pos rfl] at h; cases h
          | false => exact ⟨h1.1, h1.2, h2, h3, rfl, rfl⟩
    · rw [if_pos h2] at h
      exact absurd h h2
  · rw [if_pos h1] at h; cases h
theorem stands_zero {s : Sh} {t : Int} (h : standsV s t = 0) : (stateV s t).1 = 0 := by
  unfold standsV at h
  rcases state_four s t with e | e | e | e
  · exact e
  · rw [e] at h; simp at h
  · rw [e] at h; simp at h
  · rw [e] at h; simp at h
theorem stands_other {s : Sh} {t : Int} (h : standsV s t ≠ 0) : 0 < (stateV s t).1 := by
  rcases state_four s t with e | e | e | e
  · exfalso
    apply h
    unfold standsV
    rw [e]
    simp
  · omega
  · omega
  · omega
theorem apply_prep {s : Sh} {r : Rec} (h0 : r.f0 = 1) (hr : okR r = 0) : applyV s r = prepV s r := by
  unfold applyV
  rw [if_pos hr, if_pos h0]
theorem fits_ok {s : Sh} {r : Rec} (h : voteV s r = 0) : (applyV s r).1 = 0 ∨ (applyV s r).1 = 2 := by
  obtain ⟨h1, h2, h3, h4, h5, h6⟩ := vote_zero h
  rw [apply_prep h1 h2]
  unfold prepV
  unfold lockedV at h6
  rw [if_neg (by rw [stands_zero h3]; omega), h6, if_neg (by decide)]
  split
  · exact .inr rfl
  · exact .inl rfl
theorem fits_no {s : Sh} {r : Rec} (h0 : voteV s r ≠ 0) (h1 : voteV s r ≠ 110) (h2 : voteV s r ≠ 190) : (applyV s r).1 ≠ 0 ∨ r.f0 ≠ 1 := by
  by_cases hk : r.f0 = 1
  · left
    by_cases hr : okR r = 0
    · rw [apply_prep hk hr]
      unfold prepV
      by_cases hs : standsV s r.f1 = 0
      · rw [if_neg (by rw [stands_zero hs]; omega)]
        unfold voteV at h0 h1 h2
        rw [if_neg (fun hh => hh ⟨hk, hr⟩), if_neg (fun hh => hh hs)] at h0 h1 h2
        by_cases ho : r.f2 < s.over
        · rw [if_pos ho] at h1; exact absurd rfl h1
        · rw [if_neg ho] at h0 h1 h2
          cases hm : movedV s r with
          | true => rw [hm, if_pos rfl] at h2; exact absurd rfl h2
          | false =>
            rw [hm, if_neg (by decide)] at h0
            cases hl : lockedV s r with
            | true =>
              unfold lockedV at hl
              rw [hl, if_pos rfl]
              simp
            | false => rw [hl, if_neg (by decide)] at h0; exact absurd rfl h0
      · rw [if_pos (stands_other hs)]
        simp
    · unfold applyV
      rw [if_neg hr]
      exact hr
  · exact .inr hk
theorem fits_read {s : Sh} (hs : ShOk s) {r : Rec} (h : voteV s r = 0) {t : Int} (ht : r.f2 ≤ t) {k : ByteArray} (hk : k ∈ r.f7) : readV s (kb k) t = readV s (kb k) r.f2 ∧ (readV s (kb k) r.f2).1 ≠ 3 ∧ (readV s (kb k) r.f2).1 ≠ 4 := by
  obtain ⟨h1, h2, h3, h4, h5, h6⟩ := vote_zero h
  have hl : ¬ r.f2 < lastV (look s.K (kb k)) := by
    unfold movedV at h5
    have := List.any_eq_false.1 h5 k hk
    simpa using this
  have hh : heldV s (kb k) false = false := by
    unfold lockedV at h6
    have := List.any_eq_false.1 (Bool.or_eq_false_iff.1 h6).1 k hk
    simpa using this
  have hc := hs.keys.look (kb k)
  have hu : ∀ u, r.f2 ≤ u → untilV (look s.K (kb k)) u = (look s.K (kb k)).length := fun u hu => until_all (fun v hv => by have := last_all hc v hv; omega)
  have hat : atV (look s.K (kb k)) t = atV (look s.K (kb k)) r.f2 := by
    unfold atV
    rw [hu t ht, hu r.f2 (Int.le_refl _)]
  have hrd : ∀ u, r.f2 ≤ u → readV s (kb k) u = if (atV (look s.K (kb k)) u).2 = false then (0, (atV (look s.K (kb k)) u).1) else if (atV (look s.K (kb k)) u).1.f2 = true then (2, (atV (look s.K (kb k)) u).1) else (1, (atV (look s.K (kb k)) u).1) := fun u hu => by
    unfold readV
    rw [if_neg (by omega), hh, if_neg (by decide)]
  refine ⟨by rw [hrd t ht, hrd r.f2 (Int.le_refl _), hat], ?_, ?_⟩
  · rw [hrd r.f2 (Int.le_refl _)]
    split
    · simp
    · split <;> simp
  · rw [hrd r.f2 (Int.le_refl _)]
    split
    · simp
    · split <;> simp
/-! the example -/
def vx1 : Rec := ⟨3, 0, 9, 0, ⟨#[107]⟩, ⟨#[]⟩, false, [], []⟩
def vx2 : Rec := ⟨1, 1, 8, 0, ⟨#[]⟩, ⟨#[]⟩, false, [⟨#[107]⟩], []⟩
def vx3 : Rec := ⟨1, 1, 9, 0, ⟨#[]⟩, ⟨#[]⟩, false, [⟨#[107]⟩], []⟩
def vxs : Sh := ⟨[([107], [⟨9, ⟨#[]⟩, false⟩])], [], [], 0⟩
theorem vx_ok1 : applyV sh0 vx1 = (0, vxs) := by kernel_rfl
theorem vx_ok2 : voteV vxs vx2 = 190 := by kernel_rfl
theorem vx_ok3 : voteV vxs vx3 = 0 := by kernel_rfl
set_option maxRecDepth 100000 in
set_option maxHeartbeats 4000000 in
theorem works19_walk (w : World) : Calls Try.prog 15 #[] w fun e w' => e = .returned (.bool true) ∧ Below w.heap.size w w' := by
  have HNW := Aside0.mk (new_walk w)
  go_enter Try.func15, Try.ntmps15
  go_wp2_with fail
  refine HNW.out.mono ?_
  rintro e w1 ⟨b, rfl, hs1, hb1⟩
  have hap := apply_walk hs1 (by simp [sh0]) (fun g hg => Nat.le_trans hb1.size hg) (by decide) vx1 [.int .i64 3, .int .i64 0, .int .i64 9, .int .i64 0, .string ⟨#[107]⟩, .string ⟨#[]⟩, .bool false, .slice none 0 0, .slice none 0 0] (k35_mk w1 vx1 (A7 := none) (c7 := 0) (Nat.le_refl _) (Kd.C_nil _ _) (A8 := none) (c8 := 0) (Nat.le_refl _) (Kd.C_nil _ _)) (by simp [sizesOk, vx1])
  rw [vx_ok1] at hap
  have HAP := Aside0.mk hap
  have HB1 := Aside0.mk hb1
  clear hap hs1 hb1 HNW
  go_wp2_with fail
  refine HAP.out.mono ?_
  rintro e w2 ⟨rfl, hs2, hc2⟩
  have HB2 : Aside0 (Below w.heap.size w w2) := ⟨hc2.below HB1.out HB1.out.size (fun g hg => hg)⟩
  have HS2 := Aside0.mk hs2
  clear hs2 hc2 HAP HB1
  obtain ⟨w3, hw3⟩ : ∃ w3, w3 = w2.alloc (.cells #[.string ⟨#[107]⟩] 9) := ⟨_, rfl⟩
  have hb3 : Below w2.heap.size w2 w3 := by rw [hw3]; exact below_alloc (Below.refl _ _) _
  have hx3 : w3.heap[w2.heap.size]? = some (.cells #[.string ⟨#[107]⟩] 9 (0, 0)) := by rw [hw3]; exact blk_new _ _
  obtain ⟨w4, hw4⟩ : ∃ w4, w4 = w3.alloc (.cells #[.int .i64 1, .int .i64 1, .int .i64 8, .int .i64 0, .string ⟨#[]⟩, .string ⟨#[]⟩, .bool false, .slice (some ⟨w2.heap.size, 0, none⟩) 1 1, .slice none 0 0] 35) := ⟨_, rfl⟩
  have hb4 : Below w3.heap.size w3 w4 := by rw [hw4]; exact below_alloc (Below.refl _ _) _
  have hx4 : w4.heap[w3.heap.size]? = some (.cells #[.int .i64 1, .int .i64 1, .int .i64 8, .int .i64 0, .string ⟨#[]⟩, .string ⟨#[]⟩, .bool false, .slice (some ⟨w2.heap.size, 0, none⟩) 1 1, .slice none 0 0] 35 (0, 0)) := by rw [hw4]; exact blk_new _ _
  have HC4 : Aside0 (Kd.C Kd.string w4 (some ⟨w2.heap.size, 0, none⟩) 1 [(⟨#[107]⟩ : ByteArray)]) := ⟨C_one (cs := [.string ⟨#[107]⟩]) (blk_below hx3 hb4) rfl⟩
  have HB4 : Aside0 (Below w.heap.size w w4) := ⟨(HB2.out.trans (hb3.mono HB2.out.size)).trans (hb4.mono (HB2.out.trans (hb3.mono HB2.out.size)).size)⟩
  have HS4 : Aside0 (ShAt w4 (fun g => w.heap.size ≤ g ∧ g < w2.heap.size) b 16 vxs) := ⟨((HS2.out.narrow (fun g hg hl => ⟨hg, hl⟩)).below hb3).below hb4⟩
  have hvp := votep_walk HS4.out vx2 _ (k35_mk w4 vx2 (A7 := some ⟨w2.heap.size, 0, none⟩) (c7 := 1) (Nat.le_refl _) HC4.out (A8 := none) (c8 := 0) (Nat.le_refl _) (Kd.C_nil _ _)) (by simp [sizesOk, vx2])
  rw [vx_ok2] at hvp
  have HVP := Aside0.mk hvp
  have HX4 := Aside0.mk hx4
  have HW4 : Aside0 (w4 = (w2.alloc (.cells #[.string ⟨#[107]⟩] 9)).alloc (.cells #[.int .i64 1, .int .i64 1, .int .i64 8, .int .i64 0, .string ⟨#[]⟩, .string ⟨#[]⟩, .bool false, .slice (some ⟨w2.heap.size, 0, none⟩) 1 1, .slice none 0 0] 35)) := ⟨by rw [hw4, hw3]⟩
  have H3 : Aside0 (w3.heap.size = w2.heap.size + 1) := ⟨by rw [hw3]; simp⟩
  rw [H3.out] at HX4
  have HSZ2 : Aside0 (w.heap.size ≤ w2.heap.size) := ⟨HB2.out.size⟩
  clear hvp hx4 hx3 hb3 hb4 hw3 hw4 HS2 HB2
  go_wp2_with fail
  rw [← HW4.out]
  refine HVP.out.mono ?_
  rintro e w5 ⟨rfl, hb5⟩
  have HB5 : Aside0 (Below w.heap.size w w5) := ⟨HB4.out.trans (hb5.mono HB4.out.size)⟩
  have hx5 := blk_below HX4.out hb5
  have HS5 := Aside0.mk (HS4.out.below hb5)
  have HC5 := Aside0.mk (Kd.C_below HC4.out hb5)
  obtain ⟨w6, hw6⟩ : ∃ w6, w6 = w5.setCell ⟨w2.heap.size + 1, 2, none⟩ (.int .i64 9) := ⟨_, rfl⟩
  have hx6 : w6.heap[w2.heap.size + 1]? = some (.cells #[.int .i64 1, .int .i64 1, .int .i64 9, .int .i64 0, .string ⟨#[]⟩, .string ⟨#[]⟩, .bool false, .slice (some ⟨w2.heap.size, 0, none⟩) 1 1, .slice none 0 0] 35 (0, 0)) := by rw [hw6]; exact blk_put hx5 2 _ rfl
  have HS6 : Aside0 (ShAt w6 (fun g => w.heap.size ≤ g ∧ g < w2.heap.size) b 16 vxs) := ⟨by
    rw [hw6]
    exact HS5.out.apart (Chg0.of_grown (ok := fun g => g = w2.heap.size + 1) (grown_set w5 ⟨w2.heap.size + 1, 2, none⟩ _) rfl) (fun g hg h => by omega)⟩
  have HC6 : Aside0 (Kd.C Kd.string w6 (some ⟨w2.heap.size, 0, none⟩) 1 [(⟨#[107]⟩ : ByteArray)]) := ⟨by
    obtain ⟨h1, h2, h3⟩ := HC5.out
    refine ⟨h1, h2, fun hp => ?_⟩
    obtain ⟨ad, had, hcl⟩ := h3 hp
    refine ⟨ad, had, fun j p hj => ?_⟩
    obtain ⟨c, hc1, hc2, hc3⟩ := hcl j p hj
    refine ⟨c, hc1, hc2, fun i u hu => ?_⟩
    have h := hc3 i u hu
    rw [hw6]
    injection had with had
    subst had
    have he : (⟨w2.heap.size, 0, none⟩ : Addr).add (j * 1 + i) = ⟨w2.heap.size, j * 1 + i, none⟩ := by unfold Addr.add; split <;> simp_all
    change World.cell? _ ((⟨w2.heap.size, 0, none⟩ : Addr).add (j * 1 + i)) = some u at h
    change World.cell? _ ((⟨w2.heap.size, 0, none⟩ : Addr).add (j * 1 + i)) = some u
    rw [he] at h ⊢
    rw [← h]
    unfold World.cell?
    rw [Below.heap_setCell w5 ⟨w2.heap.size + 1, 2, none⟩ (.int .i64 9) w2.heap.size (by simp)]⟩
  have HSZ : Aside0 (w.heap.size ≤ w2.heap.size + 1) := ⟨Nat.le_succ_of_le HSZ2.out⟩
  have HB6 : Aside0 (Below w.heap.size w w6) := ⟨by rw [hw6]; exact (Chg0.of_grown (ok := fun g => g = w2.heap.size + 1) (grown_set w5 ⟨w2.heap.size + 1, 2, none⟩ _) rfl).below HB5.out HB5.out.size (fun g hg => by rw [hg]; exact HSZ.out)⟩
  have hvp := votep_walk HS6.out vx3 _ (k35_mk w6 vx3 (A7 := some ⟨w2.heap.size, 0, none⟩) (c7 := 1) (Nat.le_refl _) HC6.out (A8 := none) (c8 := 0) (Nat.le_refl _) (Kd.C_nil _ _)) (by simp [sizesOk, vx3])
  rw [vx_ok3] at hvp
  have HVP6 := Aside0.mk hvp
  have HW6 := Aside0.mk hw6
  obtain ⟨q0, q1, q2, q3, q4, q5, q6, q7, q8⟩ := rec_cells hx5
  have f2 := blk_frozen hx5 2
  clear hvp hx6 hw6 hb5 HVP HC5 HS5 HC4 HS4 hx5
  go_wp2_with fail
  rw [← HW6.out]
  refine HVP6.out.mono ?_
  rintro e w7 ⟨rfl, hb7⟩
  have HB7 : Aside0 (Below w.heap.size w w7) := ⟨HB6.out.trans (hb7.mono HB6.out.size)⟩
  clear hb7 HVP6
  go_wp2_with fail
  go_ret
  exact ⟨rfl, HB7.out⟩
end Go.Proofs.Ytaldfbmjmpkmmaa.PL
