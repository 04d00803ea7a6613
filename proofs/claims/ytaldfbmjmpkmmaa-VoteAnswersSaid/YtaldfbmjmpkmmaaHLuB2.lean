/- corncribref07.Check: the walk. -/
import Derived.Test.YtaldfbmjmpkmmaaHLuA
namespace Go.Proofs.Ytaldfbmjmpkmmaa.PL
open Go.RowKit Go.Proofs.YtaldfbmjmpkmmaaW.PrintWords Go.Proofs.YtaldfbmjmpkmmaaW.PrintLast Go.Proofs.YtaldfbmjmpkmmaaW.PrintMore
set_option linter.unusedVariables false
set_option linter.unusedSimpArgs false
set_option linter.unusedSectionVars false
set_option maxRecDepth 100000 in
set_option maxHeartbeats 16000000 in
theorem let7_walk2 (w : World) (k fr tw tx ts cd : Int) (text : ByteArray) (A7 : Option Addr) (c7 : Nat) (l7 : List ByteArray) (A8 : Option Addr) (c8 : Nat) (l8 : List S56) (hr7 : Kd.C Kd.string w A7 l7.length l7) (hc7 : l7.length ≤ c7) (hr8 : Kd.C k56 w A8 l8.length l8) (hc8 : l8.length ≤ c8) (h8 : l8.length < 8796093022208) (hk : k = 3) :
 Calls Try.prog 94 #[.agg #[.int .i64 k, .int .i64 fr, .int .i64 tw, .int .i64 tx, .int .i64 ts, .int .i64 cd, .string text, .slice A7 l7.length c7, .slice A8 l8.length c8]] w fun e w' => e = .returned (.int .i64 (letV k fr tw tx ts cd text l7 l8)) ∧ Below w.heap.size w w' := by
 have HK := Aside0.mk hk
 clear hk
 have h7m := Kd.C_max hr7
 have h8m := Kd.C_max hr8
 have HR7 := Aside0.mk (And.intro hr7 hc7)
 have HR8 := Aside0.mk (And.intro hr8 hc8)
 have HF7 := Aside0.mk (rrising_f l7 h7m (l7.length + 1) (by omega))
 have HF8 := Aside0.mk (rwrites_f l8 h8 (l8.length + l8.length + 2) (by omega))
 have HL : Aside0 (letV k fr tw tx ts cd text l7 l8 = if (head7 fr tw tx ts cd && may7 k cd text l7 l8) = true then 0 else 70) := ⟨by rw [let7_same]; rfl⟩
 have HH : Aside0 (head7 fr tw tx ts cd = (addrB fr && (addrB tw && (txn7B tx && (stamp7B ts && (!decide (cd < 0) && !decide (4 < cd))))))) := ⟨rfl⟩
 have HA1 : Aside0 (∀ W, Calls Try.prog 129 #[.int .i64 fr] W fun e w' => e = .returned (.bool (addrB fr)) ∧ Drawn0 W w') := ⟨fun W => corncribref07_Address.calls fr _ W (addr7_f fr)⟩
 have HA2 : Aside0 (∀ W, Calls Try.prog 129 #[.int .i64 tw] W fun e w' => e = .returned (.bool (addrB tw)) ∧ Drawn0 W w') := ⟨fun W => corncribref07_Address.calls tw _ W (addr7_f tw)⟩
 have HA3 : Aside0 (∀ W, Calls Try.prog 116 #[.int .i64 tx] W fun e w' => e = .returned (.bool (txn7B tx)) ∧ Drawn0 W w') := ⟨fun W => corncribref07_Txn.calls tx _ W (txn7_f tx)⟩
 have HA4 : Aside0 (∀ W, Calls Try.prog 117 #[.int .i64 ts] W fun e w' => e = .returned (.bool (stamp7B ts)) ∧ Drawn0 W w') := ⟨fun W => corncribref07_Stamp.calls ts _ W (stamp7_f ts)⟩
 obtain ⟨wy, hwy⟩ : ∃ wy, wy = w.alloc (.cells #[.int .i64 k, .int .i64 fr, .int .i64 tw, .int .i64 tx, .int .i64 ts, .int .i64 cd, .string text, .slice A7 l7.length c7, .slice A8 l8.length c8] 46) := ⟨_, rfl⟩
 have hby : Below w.heap.size w wy := by rw [hwy]; exact below_alloc (Below.refl _ _) _
 have hyx : wy.heap[w.heap.size]? = some (.cells #[.int .i64 k, .int .i64 fr, .int .i64 tw, .int .i64 tx, .int .i64 ts, .int .i64 cd, .string text, .slice A7 l7.length c7, .slice A8 l8.length c8] 46 (0, 0)) := by rw [hwy]; exact blk_new _ _
 have HWY := Aside0.mk hwy
 have HBY := Aside0.mk hby
 have HYX := Aside0.mk hyx
 obtain ⟨q0, q1, q2, q3, q4, q5, q6, q7, q8⟩ := rec_cells hyx
 clear hr7 hc7 hr8 hc8 h8 hwy hby hyx
 generalize letV k fr tw tx ts cd text l7 l8 = lv at *
 generalize head7 fr tw tx ts cd = hb at *
 generalize addrB fr = a1 at *
 generalize addrB tw = a2 at *
 generalize txn7B tx = a3 at *
 generalize stamp7B ts = a4 at *
 have hu46 := Try.underlying46
 go_enter Try.func94, Try.ntmps94
 go_upto_region 1 with (fail)
 rw [← HWY.out]
 go_cut [37] (fun v37 wc => v37 = .bool (!hb) ∧ Aside0 (Below wy.heap.size wy wc))
 case first =>
  go_wp2_with fail
  refine (HA1.out _).mono ?_
  rintro e w1 ⟨rfl, hd1⟩
  have HB1 : Aside0 (Below wy.heap.size wy w1) := ⟨hd1.below⟩
  clear hd1 q0 q1 q2 q3 q4 q5 q6 q7 q8
  obtain ⟨q0, q1, q2, q3, q4, q5, q6, q7, q8⟩ := rec_cells (blk_below HYX.out HB1.out)
  cases a1 with
  | false =>
   have HV : Aside0 (hb = false) := ⟨by rw [HH.out]; rfl⟩
   obtain rfl := HV.out
   clear HV
   go_wp2_with fail
   go_meet
   case rel => exact ⟨rfl, HB1⟩
  | true =>
   go_wp2_with fail
   refine (HA2.out _).mono ?_
   rintro e w2 ⟨rfl, hd2⟩
   have HB2 : Aside0 (Below wy.heap.size wy w2) := ⟨HB1.out.trans (hd2.below.mono HB1.out.size)⟩
   clear hd2 q0 q1 q2 q3 q4 q5 q6 q7 q8
   obtain ⟨q0, q1, q2, q3, q4, q5, q6, q7, q8⟩ := rec_cells (blk_below HYX.out HB2.out)
   cases a2 with
   | false =>
    have HV : Aside0 (hb = false) := ⟨by rw [HH.out]; rfl⟩
    obtain rfl := HV.out
    clear HV
    go_wp2_with fail
    go_meet
    case rel => exact ⟨rfl, HB2⟩
   | true =>
    go_wp2_with fail
    refine (HA3.out _).mono ?_
    rintro e w3 ⟨rfl, hd3⟩
    have HB3 : Aside0 (Below wy.heap.size wy w3) := ⟨HB2.out.trans (hd3.below.mono HB2.out.size)⟩
    clear hd3 q0 q1 q2 q3 q4 q5 q6 q7 q8
    obtain ⟨q0, q1, q2, q3, q4, q5, q6, q7, q8⟩ := rec_cells (blk_below HYX.out HB3.out)
    cases a3 with
    | false =>
     have HV : Aside0 (hb = false) := ⟨by rw [HH.out]; rfl⟩
     obtain rfl := HV.out
     clear HV
     go_wp2_with fail
     go_meet
     case rel => exact ⟨rfl, HB3⟩
    | true =>
     go_wp2_with fail
     refine (HA4.out _).mono ?_
     rintro e w4 ⟨rfl, hd4⟩
     have HB4 : Aside0 (Below wy.heap.size wy w4) := ⟨HB3.out.trans (hd4.below.mono HB3.out.size)⟩
     clear hd4 q0 q1 q2 q3 q4 q5 q6 q7 q8
     obtain ⟨q0, q1, q2, q3, q4, q5, q6, q7, q8⟩ := rec_cells (blk_below HYX.out HB4.out)
     cases a4 with
     | false =>
      have HV : Aside0 (hb = false) := ⟨by rw [HH.out]; rfl⟩
      obtain rfl := HV.out
      clear HV
      go_wp2_with fail
      go_meet
      case rel => exact ⟨rfl, HB4⟩
     | true =>
      cases d1 : decide (cd < 0) with
      | true =>
       have HV : Aside0 (hb = false) := ⟨by rw [HH.out, d1]; rfl⟩
       obtain rfl := HV.out
       clear HV
       go_wp2_with fail
       go_meet
       case rel => exact ⟨rfl, HB4⟩
      | false =>
       cases d2 : decide (4 < cd) with
       | true =>
        have HV : Aside0 (hb = false) := ⟨by rw [HH.out, d1, d2]; rfl⟩
        have d2b : decide (cd > 4) = true := d2
        obtain rfl := HV.out
        clear HV
        go_wp2_with fail
        go_meet
        case rel => exact ⟨rfl, HB4⟩
       | false =>
        have d2b : decide (cd > 4) = false := d2
        have HV : Aside0 (hb = true) := ⟨by rw [HH.out, d1, d2]; rfl⟩
        obtain rfl := HV.out
        clear HV
        go_wp2_with fail
        go_meet
        case rel => exact ⟨rfl, HB4⟩
 case rest =>
  obtain ⟨rfl, HBC⟩ := hcut
  have HX := Aside0.mk (blk_below HYX.out HBC.out)
  have HB3 : Aside0 (Below w.heap.size w wc) := ⟨HBY.out.trans (HBC.out.mono HBY.out.size)⟩
  clear q0 q1 q2 q3 q4 q5 q6 q7 q8 HBC HYX HBY HA1 HA2 HA3 HA4 HH
  obtain ⟨q0, q1, q2, q3, q4, q5, q6, q7, q8⟩ := rec_cells HX.out
  obtain ⟨wo, hwo⟩ : ∃ wo, wo = wc := ⟨_, rfl⟩
  subst hwo
  cases hb with
  | false =>
   have HV : Aside0 (lv = 70) := ⟨by rw [HL.out]; rfl⟩
   obtain rfl := HV.out
   clear HV HL
   go_wp2_with fail
   go_ret
   exact ⟨rfl, HB3.out⟩
  | true =>
   have HE7 : Aside0 (((l7.length : Int) == 0) = l7.isEmpty) := ⟨len_zero l7⟩
   have HE8 : Aside0 (((l8.length : Int) == 0) = l8.isEmpty) := ⟨len_zero l8⟩
   go_upto_region 3 with (fail)
   go_cut [3] (fun v3 wd => v3 = .bool (one7 l7 l8) ∧ Aside0 (Below wo.heap.size wo wd))
   case first =>
    match l7, HR7 with
    | [], HR7 =>
     go_wp2_with fail
     go_meet
     case rel => exact ⟨rfl, ⟨Below.refl _ _⟩⟩
    | [x], HR7 =>
     obtain ⟨ad, had, z0⟩ := strK_at0 (Kd.C_below HR7.out.1 HB3.out)
     subst had
     have z1 : wo.cell? ad = some (.string x) := z0
     have HKY : Aside0 (∀ W, Calls Try.prog 120 #[.string x] W fun e w' => e = .returned (.bool (keyB x)) ∧ Drawn0 W w') := ⟨fun W => corncribref07_Key.calls x _ W (rkey_f x)⟩
     have HO : Aside0 (one7 [x] l8 = (keyB x && l8.isEmpty)) := ⟨rfl⟩
     generalize one7 [x] l8 = ov at *
     generalize keyB x = kx at *
     go_wp2_with fail
     refine (HKY.out _).mono ?_
     rintro e w5 ⟨rfl, hd5⟩
     have HB5 : Aside0 (Below wo.heap.size wo w5) := ⟨hd5.below⟩
     clear hd5 q0 q1 q2 q3 q4 q5 q6 q7 q8
     obtain ⟨q0, q1, q2, q3, q4, q5, q6, q7, q8⟩ := rec_cells (blk_below HX.out HB5.out)
     cases kx with
     | false =>
      go_wp2_with fail
      go_meet
      case rel => exact ⟨by rw [HO.out]; rfl, HB5⟩
     | true =>
      have he8 := HE8.out
      go_wp2_with fail
      go_meet
      case rel => exact ⟨by rw [HO.out]; simp, HB5⟩
    | x :: y :: r, HR7 =>
     have d1 : ((((x :: y :: r).length : Nat) : Int) == 1) = false := by simp; omega
     have d2 : ((r.length : Int) + 1 + 1 == 1) = false := by simp; omega
     go_wp2_with fail
     go_meet
     case rel => exact ⟨rfl, ⟨Below.refl _ _⟩⟩
   case rest =>
    obtain ⟨rfl, HBD⟩ := hcut
    obtain ⟨wp, hwp⟩ : ∃ wp, wp = wc := ⟨_, rfl⟩
    subst hwp
    have HXP := Aside0.mk (blk_below HX.out HBD.out)
    have HBP : Aside0 (Below w.heap.size w wp) := ⟨HB3.out.trans (HBD.out.mono HB3.out.size)⟩
    clear q0 q1 q2 q3 q4 q5 q6 q7 q8 HBD HX HB3
    obtain ⟨q0, q1, q2, q3, q4, q5, q6, q7, q8⟩ := rec_cells HXP.out
    go_upto_region 4 with (fail)
    go_cut [4] (fun v4 wd => v4 = .bool (bare7 text l7 l8) ∧ wd = wp)
    case first =>
     have HO : Aside0 (bare7 text l7 l8 = (l7.isEmpty && (l8.isEmpty && text.toList.isEmpty))) := ⟨rfl⟩
     generalize bare7 text l7 l8 = bv at *
     have he7 := HE7.out
     have he8 := HE8.out
     clear HE7 HE8
     generalize l7.isEmpty = i7 at *
     generalize l8.isEmpty = i8 at *
     cases i7 with
     | false =>
      go_wp2_with fail
      go_meet
      case rel => exact ⟨by rw [HO.out]; rfl, rfl⟩
     | true =>
      cases i8 with
      | false =>
       go_wp2_with fail
       go_meet
       case rel => exact ⟨by rw [HO.out]; rfl, rfl⟩
      | true =>
       go_wp2_with fail
       go_meet
       case rel => exact ⟨by rw [HO.out]; simp, rfl⟩
    case rest =>
     obtain ⟨rfl, hwc⟩ := hcut
     subst hwc
     obtain ⟨wq, hwq⟩ : ∃ wq, wq = wc := ⟨_, rfl⟩
     subst hwq
     go_upto_block 0 with (fail)
     go_cut [5] (fun v5 wc => v5 = .bool (may7 k cd text l7 l8) ∧ Aside0 (Below wq.heap.size wq wc))
     case first =>
      obtain rfl := HK.out
      clear HK
      have HM : Aside0 (may7 3 cd text l7 l8 = (decide (l7.length ≤ 16) && (risingB l7 && (writesB l8 && (text.toList.isEmpty && cd == 0))))) := ⟨by unfold may7; simp⟩
      clear HL
      generalize may7 3 cd text l7 l8 = mv at *
      have HC7 := Aside0.mk (corncribref07_Rising.calls _ A7 c7 l7 _ wq (Kd.C_below HR7.out.1 HBP.out) HR7.out.2 HF7.out)
      have HC8 : Aside0 (∀ W, Below w.heap.size w W → Calls Try.prog 119 #[.slice A8 l8.length c8] W fun e w' => e = .returned (.bool (writesB l8)) ∧ Below W.heap.size W w') := ⟨fun W hW => corncribref07_Writes.calls _ A8 c8 l8 _ W (Kd.C_below HR8.out.1 hW) HR8.out.2 HF8.out⟩
      clear HF7 HF8
      generalize risingB l7 = rb at *
      generalize writesB l8 = wb at *
      cases h1 : decide (l7.length ≤ 16) with
      | false =>
       have d1 : decide ((l7.length : Int) ≤ 16) = false := decide_eq_false (by have := of_decide_eq_false h1; omega)
       go_wp2_with fail
       go_meet
       case rel => exact ⟨by rw [HM.out, h1]; simp, ⟨Below.refl _ _⟩⟩
      | true =>
       have d1 : decide ((l7.length : Int) ≤ 16) = true := decide_eq_true (by have := of_decide_eq_true h1; omega)
       go_wp2_with fail
       refine HC7.out.mono ?_
       rintro e w6 ⟨rfl, hd6⟩
       have HB6 : Aside0 (Below wq.heap.size wq w6) := ⟨hd6.below⟩
       clear hd6 q0 q1 q2 q3 q4 q5 q6 q7 q8
       obtain ⟨q0, q1, q2, q3, q4, q5, q6, q7, q8⟩ := rec_cells (blk_below HXP.out HB6.out)
       have HC9 := Aside0.mk (HC8.out w6 (HBP.out.trans (HB6.out.mono HBP.out.size)))
       cases rb with
       | false =>
        go_wp2_with fail
        go_meet
        case rel => exact ⟨by rw [HM.out, h1]; simp, HB6⟩
       | true =>
        go_wp2_with fail
        refine HC9.out.mono ?_
        rintro e w7 ⟨rfl, hb7⟩
        have HB7 : Aside0 (Below wq.heap.size wq w7) := ⟨HB6.out.trans (hb7.mono HB6.out.size)⟩
        clear hb7 q0 q1 q2 q3 q4 q5 q6 q7 q8
        obtain ⟨q0, q1, q2, q3, q4, q5, q6, q7, q8⟩ := rec_cells (blk_below HXP.out HB7.out)
        cases wb with
        | false =>
         go_wp2_with fail
         go_meet
         case rel => exact ⟨by rw [HM.out, h1]; simp, HB7⟩
        | true =>
         cases te : text.toList.isEmpty with
         | false =>
          go_wp2_with fail
          go_meet
          case rel => exact ⟨by rw [HM.out, h1, te]; simp, HB7⟩
         | true =>
          go_wp2_with fail
          go_meet
          case rel => exact ⟨by rw [HM.out, h1, te]; simp, HB7⟩
     case rest =>
      obtain ⟨rfl, HBQ⟩ := hcut
      have HBE : Aside0 (Below w.heap.size w wc) := ⟨HBP.out.trans (HBQ.out.mono HBP.out.size)⟩
      clear q0 q1 q2 q3 q4 q5 q6 q7 q8 HBQ HXP HBP HF7 HF8
      generalize may7 k cd text l7 l8 = mv at *
      cases mv with
      | false =>
       have HV : Aside0 (lv = 70) := ⟨by rw [HL.out]; rfl⟩
       obtain rfl := HV.out
       clear HV HL
       go_wp2_with fail
       go_ret
       exact ⟨rfl, HBE.out⟩
      | true =>
       have HV : Aside0 (lv = 0) := ⟨by rw [HL.out]; rfl⟩
       obtain rfl := HV.out
       clear HV HL
       go_wp2_with fail
       go_ret
       exact ⟨rfl, HBE.out⟩
end Go.Proofs.Ytaldfbmjmpkmmaa.PL
