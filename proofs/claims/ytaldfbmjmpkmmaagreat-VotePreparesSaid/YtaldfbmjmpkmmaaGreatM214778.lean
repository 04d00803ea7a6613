/- Texts of this proof, one behind the other (merged by a program of this session). -/
import Derived.Test.YtaldfbmjmpkmmaaGreatM509f0c
import Derived.Test.YtaldfbmjmpkmmaaGreatMe20451
import Derived.Test.YtaldfbmjmpkmmaaGreatM7386df
import Derived.Test.YtaldfbmjmpkmmaaGreatHRfE
import Derived.WalkMore
namespace Go.Proofs.YtaldfbmjmpkmmaaGreat.PL
open Go.RowKit Go.Proofs.YtaldfbmjmpkmmaaGreatW.PrintWords Go.Proofs.YtaldfbmjmpkmmaaGreatW.PrintLast Go.Proofs.YtaldfbmjmpkmmaaGreatW.PrintMore Go.Shelf Go.Maps Go.WideMaps Go.Proofs.YtaldfbmjmpkmmaaGreat.Mk
set_option linter.unusedVariables false
set_option linter.unusedSimpArgs false
set_option linter.unusedSectionVars false
def standsV (s : Sh) (t : Int) : Int := if (stateV s t).1 = 1 ∨ (stateV s t).1 = 2 then 6 else if (stateV s t).1 = 3 then 120 else 0
def movedV (s : Sh) (r : Rec) : Bool := r.f7.any (fun k => decide (r.f2 < lastV (look s.K (kb k))))
def lockedV (s : Sh) (r : Rec) : Bool := r.f7.any (fun k => heldV s (kb k) false) || r.f8.any (fun w => heldV s (kb w.f0) true)
def voteV (s : Sh) (r : Rec) : Int :=
 if ¬ (r.f0 = 1 ∧ okR r = 0) then 80
 else if standsV s r.f1 ≠ 0 then standsV s r.f1
 else if r.f2 < s.over then 110
 else if movedV s r = true then 190
 else if lockedV s r = true then 180 else 0
theorem state_four (s : Sh) (t : Int) : (stateV s t).1 = 0 ∨ (stateV s t).1 = 1 ∨ (stateV s t).1 = 2 ∨ (stateV s t).1 = 3 := by
 rcases state_cases s t with ⟨_, e⟩ | ⟨_, ⟨_, e⟩ | ⟨x, _, ⟨_, e⟩ | ⟨_, e⟩⟩⟩ <;> rw [e] <;> simp


set_option maxRecDepth 100000 in
theorem swept_walk {w : World} {ok : Nat → Prop} {b N : Nat} {s : Sh} (h : ShAt w ok b N s) :
 Calls Tryz.prog 15 #[.pointer (some ⟨b, 0, none⟩)] w fun e w' => e = .returned (.int .i64 s.over) ∧ Below w.heap.size w w' := by
 obtain ⟨bk, bp, ve, fk, fp, hp⟩ := h
 obtain ⟨-, -, -, c3⟩ := hp.cells
 clear hp
 go_enter Tryz.func15, Tryz.ntmps15
 go_wp2_with fail
 go_ret
 exact ⟨rfl, Below.refl _ _⟩
set_option maxRecDepth 100000 in
theorem stands_walk {w : World} {ok : Nat → Prop} {b N : Nat} {s : Sh} (h : ShAt w ok b N s) (t : Int) (ht : -9223372036854775808 ≤ t ∧ t ≤ 9223372036854775807) :
 Calls Tryz.prog 62 #[.pointer (some ⟨b, 0, none⟩), .int .i64 t] w fun e w' => e = .returned (.int .i64 (standsV s t)) ∧ Below w.heap.size w w' := by
 have HST := Aside0.mk (state_walk h t ht)
 have hv : standsV s t = if (stateV s t).1 = 1 ∨ (stateV s t).1 = 2 then 6 else if (stateV s t).1 = 3 then 120 else 0 := rfl
 have h4 := state_four s t
 clear h ht
 generalize standsV s t = sv at *
 generalize stateV s t = st at *
 obtain ⟨s1, s2⟩ := st
 go_enter Tryz.func62, Tryz.ntmps62
 go_wp2_with fail
 refine HST.out.mono ?_
 rintro e w1 ⟨rfl, hb⟩
 have HB := Aside0.mk hb
 clear hb HST
 try simp only at h4 hv
 rcases h4 with rfl | rfl | rfl | rfl
 ·obtain rfl : sv = 0 := by simpa using hv
  clear hv
  go_wp2_with fail
  go_ret
  exact ⟨rfl, HB.out⟩
 ·obtain rfl : sv = 6 := by simpa using hv
  clear hv
  go_wp2_with fail
  go_ret
  exact ⟨rfl, HB.out⟩
 ·obtain rfl : sv = 6 := by simpa using hv
  clear hv
  go_wp2_with fail
  go_ret
  exact ⟨rfl, HB.out⟩
 ·obtain rfl : sv = 120 := by simpa using hv
  clear hv
  go_wp2_with fail
  go_ret
  exact ⟨rfl, HB.out⟩

end Go.Proofs.YtaldfbmjmpkmmaaGreat.PL
namespace Go.Proofs.YtaldfbmjmpkmmaaGreat.PL
open Go.RowKit Go.Proofs.YtaldfbmjmpkmmaaGreatW.PrintWords Go.Proofs.YtaldfbmjmpkmmaaGreatW.PrintLast Go.Proofs.YtaldfbmjmpkmmaaGreatW.PrintMore
set_option linter.unusedVariables false
set_option linter.unusedSimpArgs false
set_option linter.unusedSectionVars false
theorem any_take {α : Type} (p : α → Bool) (l : List α) (i : Nat) (h : i < l.length) : (l.take (i + 1)).any p = ((l.take i).any p || p l[i]) := by
 rw [List.take_succ_eq_append_getElem h, List.any_append]
 simp
set_option maxRecDepth 100000 in
set_option maxHeartbeats 16000000 in
theorem votep_walk {w : World} {ok : Nat → Prop} {b N : Nat} {s : Sh} (h : ShAt w ok b N s) (r : Rec) (cs : List Value) (hK : k26.K w r cs) (hs : sizesOk r) :
 Calls Tryz.prog 26 #[.pointer (some ⟨b, 0, none⟩), .agg cs.toArray] w fun e w' => e = .returned (.int .i64 (voteV s r)) ∧ Below w.heap.size w w' := by
 obtain ⟨A7, c7, A8, c8, rfl, l7, g7, l8, g8⟩ := k26_open hK
 obtain ⟨wy, hwy⟩ : ∃ wy, wy = w.alloc (.cells #[.int .i64 r.f0, .int .i64 r.f1, .int .i64 r.f2, .int .i64 r.f3, .string r.f4, .string r.f5, .bool r.f6, .slice A7 r.f7.length c7, .slice A8 r.f8.length c8] 26) := ⟨_, rfl⟩
 have hby : Below w.heap.size w wy := by rw [hwy]; exact below_alloc (Below.refl _ _) _
 have hyx : wy.heap[w.heap.size]? = some (.cells #[.int .i64 r.f0, .int .i64 r.f1, .int .i64 r.f2, .int .i64 r.f3, .string r.f4, .string r.f5, .bool r.f6, .slice A7 r.f7.length c7, .slice A8 r.f8.length c8] 26 (0, 0)) := by rw [hwy]; exact blk_new _ _
 have HWY := Aside0.mk hwy
 have HBY := Aside0.mk hby
 have HYX := Aside0.mk hyx
 have HS := Aside0.mk h
 have H7 := Aside0.mk g7
 have H8 := Aside0.mk g8
 have hm7 := Kd.C_max g7
 have hm8 := Kd.C_max g8
 have HCK := Aside0.mk (record_Check.calls r.f0 r.f1 r.f2 r.f3 r.f4 r.f5 r.f6 A7 c7 r.f7 A8 c8 r.f8 (okR r) wy (Kd.C_below g7 hby) l7 (Kd.C_below g8 hby) l8 (check_f r hs))
 have HVV : Aside0 (voteV s r = if ¬ (r.f0 = 1 ∧ okR r = 0) then 80
 else if standsV s r.f1 ≠ 0 then standsV s r.f1
 else if r.f2 < s.over then 110
 else if movedV s r = true then 190
 else if lockedV s r = true then 180 else 0) := ⟨rfl⟩
 have HLO := Aside0.mk (fun h0 hz => prep_lists (r := r) h0 hz)
 have HRA := Aside0.mk (fun hz => okR_all (r := r) hz)
 obtain ⟨q0, q1, q2, q3, q4, q5, q6, q7, q8⟩ := rec_cells hyx
 clear h hK hs g7 g8 hwy hby hyx l7 l8
 generalize voteV s r = vv at *
 generalize okR r = k at *
 go_enter Tryz.func26, Tryz.ntmps26
 go_wp2_with fail
 go_step3
 by_cases k1 : r.f0 = 1
 ·have b1 : (r.f0 != 1) = false := by simp [k1]
  have K1 := Aside0.mk k1
  clear k1
  go_wp2_with fail
  rw [← HWY.out]
  refine HCK.out.mono ?_
  rintro e w1 ⟨rfl, hb1⟩
  have HB1 : Aside0 (Below w.heap.size w w1) := ⟨HBY.out.trans (hb1.mono HBY.out.size)⟩
  have HX1 := Aside0.mk (blk_below HYX.out hb1)
  clear q0 q1 q2 q3 q4 q5 q6 q7 q8 hb1 HCK HYX HBY HWY
  obtain ⟨q0, q1, q2, q3, q4, q5, q6, q7, q8⟩ := rec_cells HX1.out
  by_cases hk : k = 0
  ·subst hk
   rw [if_neg (fun h => h ⟨K1.out, rfl⟩)] at HVV
   have HR1 := Aside0.mk (HRA.out rfl)
   have HL1 := Aside0.mk (HLO.out K1.out rfl).1
   have HSD := Aside0.mk (stands_walk (HS.out.below HB1.out) r.f1 (by have := HR1.out.1; omega))
   clear HLO HRA
   generalize standsV s r.f1 = sv at *
   go_wp2_with fail
   refine HSD.out.mono ?_
   rintro e w2 ⟨rfl, hb2⟩
   have HB2 : Aside0 (Below w.heap.size w w2) := ⟨HB1.out.trans (hb2.mono HB1.out.size)⟩
   have HX2 := Aside0.mk (blk_below HX1.out hb2)
   clear q0 q1 q2 q3 q4 q5 q6 q7 q8 hb2 HSD HX1 HB1
   obtain ⟨q0, q1, q2, q3, q4, q5, q6, q7, q8⟩ := rec_cells HX2.out
   by_cases hsv : sv = 0
   ·subst hsv
    rw [if_neg (by simp)] at HVV
    have HSW : Aside0 (∀ W, Below w.heap.size w W → Calls Tryz.prog 15 #[.pointer (some ⟨b, 0, none⟩)] W fun e w' => e = .returned (.int .i64 s.over) ∧ Below W.heap.size W w') := ⟨fun W hW => swept_walk (HS.out.below hW)⟩
    go_upto_region 8 with (fail)
    go_cut [32] (fun v32 wc => v32 = .bool (decide (r.f2 < s.over)) ∧ Aside0 (Below w2.heap.size w2 wc))
    case first =>
     go_region_law (go_simp; go_at_call 15; refine (HSW.out _ (by repeat (first | exact HB2.out | apply below_drew1 | apply pw_below_drewN))).mono ?_; rintro e w5 ⟨rfl, hb5⟩; have HB5 : Aside0 (Below w2.heap.size w2 w5) := ⟨(by repeat (first | exact Below.refl _ _ | apply below_drew1) : Below w2.heap.size w2 _).trans (hb5.mono (by simp))⟩; obtain ⟨u0, u1, u2, u3, u4, u5, u6, u7, u8⟩ := rec_cells (blk_below HX2.out HB5.out); clear hb5)
     all_goals (try go_wp2_with fail)
     all_goals go_meet
     all_goals (case rel => exact ⟨rfl, ⟨by repeat (first | exact HB5.out | apply below_drew1 | apply pw_below_drewN)⟩⟩)
    case rest =>
     obtain ⟨rfl, HBC⟩ := hcut
     obtain ⟨wb, hwb⟩ : ∃ wb, wb = wc := ⟨_, rfl⟩
     subst hwb
     have HB3 : Aside0 (Below w.heap.size w wb) := ⟨HB2.out.trans (HBC.out.mono HB2.out.size)⟩
     have HX3 := Aside0.mk (blk_below HX2.out HBC.out)
     clear q0 q1 q2 q3 q4 q5 q6 q7 q8 HBC HSW HX2 HB2
     obtain ⟨q0, q1, q2, q3, q4, q5, q6, q7, q8⟩ := rec_cells HX3.out
     by_cases ho : r.f2 < s.over
     ·rw [if_pos ho] at HVV
      have d1 : decide (r.f2 < s.over) = true := decide_eq_true ho
      rw [d1]
      obtain rfl := HVV.out
      clear HVV ho
      go_wp2_with fail
      try rw [Exit.noGoto_ret]
      go_ret
      exact ⟨rfl, HB3.out⟩
     ·rw [if_neg ho] at HVV
      have d1 : decide (r.f2 < s.over) = false := decide_eq_false ho
      rw [d1]
      clear ho d1
      obtain ⟨e1, he1⟩ : ∃ e1 : Int, e1 = if movedV s r = true then 190 else if r.f7.any (fun k => heldV s (kb k) false) = true then 180 else 0 := ⟨_, rfl⟩
      have HE1 := Aside0.mk he1
      go_wp2_with fail
      go_step3
      go_upto_block 0 with (fail)
      go_cut [6] (fun v6 wd => v6 = .int .i64 e1 ∧ Aside0 (Below wb.heap.size wb wd))
      case first =>
       go_wp2_with fail
       go_loopw [6, 36] (fun v6 v wz => ∃ (i : Nat) (e6 : Int), i ≤ r.f7.length ∧ v = .int .i64 (i : Int) ∧ v6 = .int .i64 e6 ∧ Aside0 (e6 = if (r.f7.take i).any (fun k => heldV s (kb k) false) = true then 180 else 0) ∧ Aside0 (∀ (j : Nat) (hj : j < r.f7.length), j < i → decide (r.f2 < lastV (look s.K (kb r.f7[j]))) = false) ∧ Aside0 (Below wb.heap.size wb wz)) (fun _ i _ => r.f7.length - (intOf i).toNat)
       case atStart => exact ⟨0, 0, Nat.zero_le _, rfl, rfl, ⟨rfl⟩, ⟨fun j hj hk => absurd hk (by omega)⟩, ⟨Below.refl _ _⟩⟩
       case round =>
        clear q0 q1 q2 q3 q4 q5 q6 q7 q8
        obtain ⟨i, e6, hi, rfl, rfl, HE6, HN, HB⟩ := hrel
        have HBW : Aside0 (Below w.heap.size w wr) := ⟨HB3.out.trans (HB.out.mono HB3.out.size)⟩
        by_cases hlt : i < r.f7.length
        ·obtain ⟨ad, rfl, z0⟩ := strK_at (Kd.C_below H7.out HBW.out) i hlt
         have HAT := Aside0.mk (any_take (fun k => heldV s (kb k) false) r.f7 i hlt)
         have HYES : Aside0 (decide (r.f2 < lastV (look s.K (kb r.f7[i]))) = true → movedV s r = true) := ⟨fun h => any_yes (fun k => decide (r.f2 < lastV (look s.K (kb k)))) r.f7 i hlt h⟩
         have HNX : Aside0 (decide (r.f2 < lastV (look s.K (kb r.f7[i]))) = false → ∀ (j : Nat) (hj : j < r.f7.length), j < i + 1 → decide (r.f2 < lastV (look s.K (kb r.f7[j]))) = false) := ⟨fun h => all_next (fun k => decide (r.f2 < lastV (look s.K (kb k)))) r.f7 i hlt HN.out h⟩
         have hks := Nat.le_trans (key_size (HL1.out.key7 _ (List.getElem_mem hlt))) (show 32 ≤ maxLen by decide)
         have HLA : Aside0 (∀ W, Below w.heap.size w W → Calls Tryz.prog 58 #[.pointer (some ⟨b, 0, none⟩), .string r.f7[i]] W fun e w' => e = .returned (.int .i64 (lastV (look s.K (kb r.f7[i])))) ∧ Below W.heap.size W w') := ⟨fun W hW => lastS_walk (HS.out.below hW) _ hks⟩
         have HHE : Aside0 (∀ W, Below w.heap.size w W → Calls Tryz.prog 40 #[.pointer (some ⟨b, 0, none⟩), .string r.f7[i], .bool false] W fun e w' => e = .returned (.bool (heldV s (kb r.f7[i]) false)) ∧ Below W.heap.size W w') := ⟨fun W hW => held_walk (HS.out.below hW) _ false⟩
         clear hks
         generalize (r.f7.take i).any (fun k => heldV s (kb k) false) = pa at *
         generalize lastV (look s.K (kb r.f7[i])) = lv at *
         generalize heldV s (kb r.f7[i]) false = hx at *
         generalize r.f7[i] = x at *
         obtain ⟨q0, q1, q2, q3, q4, q5, q6, q7, q8⟩ := rec_cells (blk_below HX3.out HB.out)
         go_upto_region 14 with (fail)
         go_cut [40] (fun v40 wd => v40 = .bool (decide (r.f2 < lv)) ∧ Aside0 (Below wr.heap.size wr wd))
         case first =>
          go_region_law (go_simp; go_at_call 58; refine (HLA.out _ (by repeat (first | exact HBW.out | apply below_drew1 | apply pw_below_drewN))).mono ?_; rintro e w5 ⟨rfl, hb5⟩; have HB5 : Aside0 (Below wr.heap.size wr w5) := ⟨(by repeat (first | exact Below.refl _ _ | apply below_drew1) : Below wr.heap.size wr _).trans (hb5.mono (by simp))⟩; obtain ⟨u0, u1, u2, u3, u4, u5, u6, u7, u8⟩ := rec_cells (blk_below (blk_below HX3.out HB.out) HB5.out); clear hb5)
          all_goals (try go_wp2_with fail)
          all_goals go_meet
          all_goals (case rel => exact ⟨rfl, ⟨by repeat (first | exact HB5.out | apply below_drew1 | apply pw_below_drewN)⟩⟩)
         case rest =>
          obtain ⟨rfl, HBD⟩ := hcut
          have HBE : Aside0 (Below wb.heap.size wb wc) := ⟨HB.out.trans (HBD.out.mono HB.out.size)⟩
          have HBV : Aside0 (Below w.heap.size w wc) := ⟨HB3.out.trans (HBE.out.mono HB3.out.size)⟩
          cases hd : decide (r.f2 < lv) with
          | true =>
           have he : e1 = 190 := by rw [HE1.out, if_pos (HYES.out hd)]
           subst he
           clear hd HYES HNX q0 q1 q2 q3 q4 q5 q6 q7 q8 z0
           go_wp2_with fail
           go_meet
           case rel => exact ⟨rfl, HBE⟩
          | false =>
           have HNN := Aside0.mk (HNX.out hd)
           have HH := Aside0.mk (HHE.out wc HBV.out)
           clear hd HYES HNX q0 q1 q2 q3 q4 q5 q6 q7 q8 z0 HHE HLA
           go_wp2_with fail
           refine HH.out.mono ?_
           rintro e w5 ⟨rfl, hb5⟩
           have HB5 : Aside0 (Below wb.heap.size wb w5) := ⟨HBE.out.trans (hb5.mono HBE.out.size)⟩
           clear hb5 HH
           cases hx with
           | true =>
            have HEN : Aside0 ((180 : Int) = if (r.f7.take (i + 1)).any (fun k => heldV s (kb k) false) = true then 180 else 0) := ⟨by rw [HAT.out]; simp⟩
            clear HAT
            go_wp2_with fail
            go_roundw
            case rel => exact ⟨i + 1, 180, by omega, by go_num, rfl, HEN, HNN, HB5⟩
            case measure => simp [intOf]; omega
           | false =>
            have HEN : Aside0 (e6 = if (r.f7.take (i + 1)).any (fun k => heldV s (kb k) false) = true then 180 else 0) := ⟨by rw [HAT.out, Bool.or_false]; exact HE6.out⟩
            clear HAT
            go_wp2_with fail
            go_roundw
            case rel => exact ⟨i + 1, e6, by omega, by go_num, rfl, HEN, HNN, HB5⟩
            case measure => simp [intOf]; omega
        ·obtain rfl : i = r.f7.length := by omega
         have hmv : movedV s r = false := any_no (fun k => decide (r.f2 < lastV (look s.K (kb k)))) r.f7 (fun j hj => HN.out j hj hj)
         have he : e6 = e1 := by rw [HE6.out, HE1.out, hmv, List.take_length]; simp
         subst he
         clear HN HE6 hmv
         go_wp2_with fail
         go_meet
         case rel => exact ⟨rfl, HB⟩
      case rest =>
       obtain ⟨rfl, HB⟩ := hcut
       clear q0 q1 q2 q3 q4 q5 q6 q7 q8
       have HB4 : Aside0 (Below w.heap.size w wc) := ⟨HB3.out.trans (HB.out.mono HB3.out.size)⟩
       obtain ⟨q0, q1, q2, q3, q4, q5, q6, q7, q8⟩ := rec_cells (blk_below HX3.out HB.out)
       obtain ⟨wd, hwd⟩ : ∃ wd, wd = wc := ⟨_, rfl⟩
       subst hwd
       clear HB
       go_wp2_with fail
       clear q0 q1 q2 q3 q4 q5 q6 q7 q8
       go_loopw [6, 55] (fun v6 v wz => ∃ (i : Nat) (e6 : Int), i ≤ r.f8.length ∧ v = .int .i64 (i : Int) ∧ v6 = .int .i64 e6 ∧ Aside0 (e6 = if e1 = 0 ∧ (r.f8.take i).any (fun w => heldV s (kb w.f0) true) = true then 180 else e1) ∧ Aside0 (Below w.heap.size w wz)) (fun _ i _ => r.f8.length - (intOf i).toNat)
       case atStart => exact ⟨0, e1, Nat.zero_le _, rfl, rfl, ⟨by simp⟩, HB4⟩
       case round =>
        obtain ⟨i, e6, hi, rfl, rfl, HE6, HB⟩ := hrel
        by_cases hlt : i < r.f8.length
        ·obtain ⟨ad, rfl, z0, z1, z2⟩ := wrK_at (Kd.C_below H8.out HB.out) i hlt
         have HAT := Aside0.mk (any_take (fun w : Wr => heldV s (kb w.f0) true) r.f8 i hlt)
         have HHE : Aside0 (∀ W, Below w.heap.size w W → Calls Tryz.prog 40 #[.pointer (some ⟨b, 0, none⟩), .string r.f8[i].f0, .bool true] W fun e w' => e = .returned (.bool (heldV s (kb r.f8[i].f0) true)) ∧ Below W.heap.size W w') := ⟨fun W hW => held_walk (HS.out.below hW) _ true⟩
         generalize (r.f8.take i).any (fun w => heldV s (kb w.f0) true) = pa at *
         generalize heldV s (kb r.f8[i].f0) true = hx at *
         generalize r.f8[i] = x at *
         obtain ⟨x0, x1, x2⟩ := x
         try simp only at z0 z1 z2 HHE
         obtain ⟨wz, hwz⟩ : ∃ wz, wz = wr.alloc (.cells #[.string x0, .string x1, .bool x2] 57) := ⟨_, rfl⟩
         have hbz : Below wr.heap.size wr wz := by rw [hwz]; exact below_alloc (Below.refl _ _) _
         have HBZ : Aside0 (Below w.heap.size w wz) := ⟨HB.out.trans (hbz.mono HB.out.size)⟩
         have HWZ := Aside0.mk hwz
         clear hbz hwz
         by_cases h0 : e6 = 0
         ·have HH := Aside0.mk (HHE.out wz HBZ.out)
          have he1 : e1 = 0 ∧ pa = false := by
           have h := HE6.out
           rw [h0] at h
           by_cases h1 : e1 = 0
           ·refine ⟨h1, ?_⟩
            cases pa with
            | false => rfl
            | true => rw [if_pos ⟨h1, rfl⟩] at h; cases h
           ·rw [if_neg (fun hh => h1 hh.1)] at h
            exact absurd h.symm h1
          subst h0
          obtain ⟨he1, hpa⟩ := he1
          subst hpa
          have HE10 := Aside0.mk he1
          clear he1 HE6 HHE
          go_wp2_with fail
          rw [← HWZ.out]
          refine HH.out.mono ?_
          rintro e w5 ⟨rfl, hb5⟩
          have HB5 : Aside0 (Below w.heap.size w w5) := ⟨HBZ.out.trans (hb5.mono HBZ.out.size)⟩
          clear hb5 HH z0 z1 z2
          cases hx with
          | true =>
           have HEN : Aside0 ((180 : Int) = if e1 = 0 ∧ (r.f8.take (i + 1)).any (fun w => heldV s (kb w.f0) true) = true then 180 else e1) := ⟨by rw [HAT.out, if_pos ⟨HE10.out, by simp⟩]⟩
           clear HAT
           go_wp2_with fail
           go_roundw
           case rel => exact ⟨i + 1, 180, by omega, by go_num, rfl, HEN, HB5⟩
           case measure => simp [intOf]; omega
          | false =>
           have HEN : Aside0 ((0 : Int) = if e1 = 0 ∧ (r.f8.take (i + 1)).any (fun w => heldV s (kb w.f0) true) = true then 180 else e1) := ⟨by rw [HAT.out, HE10.out]; simp⟩
           clear HAT
           go_wp2_with fail
           go_roundw
           case rel => exact ⟨i + 1, 0, by omega, by go_num, rfl, HEN, HB5⟩
           case measure => simp [intOf]; omega
         ·have d6 : (e6 == 0) = false := by simpa using h0
          have HEN : Aside0 (e6 = if e1 = 0 ∧ (r.f8.take (i + 1)).any (fun w => heldV s (kb w.f0) true) = true then 180 else e1) := ⟨by
           have h := HE6.out
           rw [HAT.out]
           by_cases h1 : e1 = 0
           ·cases pa with
            | true => rw [if_pos ⟨h1, rfl⟩] at h; rw [if_pos ⟨h1, by simp⟩]; exact h
            | false => rw [if_neg (by simp)] at h; exact absurd (h.trans h1) h0
           ·rw [if_neg (fun hh => h1 hh.1)] at h
            rw [if_neg (fun hh => h1 hh.1)]; exact h⟩
          clear HAT HE6 HHE h0
          go_wp2_with fail
          go_roundw
          case rel => exact ⟨i + 1, e6, by omega, by go_num, rfl, HEN, by rw [← HWZ.out]; exact HBZ⟩
          case measure => simp [intOf]; omega
        ·obtain rfl : i = r.f8.length := by omega
         have he : vv = e6 := by
          rw [HVV.out, HE6.out, List.take_length]
          have h1 := HE1.out
          unfold lockedV
          cases hm : movedV s r with
          | true =>
           rw [hm] at h1
           rw [if_pos rfl] at h1
           rw [h1]
           simp
          | false =>
           rw [hm] at h1
           cases ha : r.f7.any (fun k => heldV s (kb k) false) with
           | true =>
            rw [ha] at h1
            simp at h1
            rw [h1]
            simp
           | false =>
            rw [ha] at h1
            simp at h1
            rw [h1]
            simp
         subst he
         clear HVV HE6 HE1
         go_wp2_with fail
         try rw [Exit.noGoto_ret]
         go_ret
         exact ⟨rfl, HB.out⟩
   ·rw [if_pos hsv] at HVV
    have d1 : (sv == 0) = false := by simpa using hsv
    have d2 : (sv != 0) = true := by simpa using hsv
    obtain rfl := HVV.out
    clear HVV hsv
    go_wp2_with fail
    try rw [Exit.noGoto_ret]
    go_ret
    exact ⟨rfl, HB2.out⟩
  ·rw [if_pos (fun h => hk h.2)] at HVV
   have d1 : (k == 0) = false := by simpa using hk
   have d2 : (k != 0) = true := by simpa using hk
   obtain rfl := HVV.out
   clear HVV hk HLO HRA
   go_wp2_with fail
   try rw [Exit.noGoto_ret]
   go_ret
   exact ⟨rfl, HB1.out⟩
 ·have b1 : (r.f0 != 1) = true := by simpa using k1
  rw [if_pos (fun h => k1 h.1)] at HVV
  obtain rfl := HVV.out
  clear HVV k1 HLO HRA
  go_wp2_with fail
  try rw [Exit.noGoto_ret]
  go_ret
  exact ⟨rfl, by rw [← HWY.out]; exact HBY.out⟩
end Go.Proofs.YtaldfbmjmpkmmaaGreat.PL
