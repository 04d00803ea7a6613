/- Texts of this proof, one behind the other (merged by a program of this session). -/
import Derived.Test.YtaldfbmjmpkmmaaM91f659
import Derived.Test.YtaldfbmjmpkmmaaM3979d4
namespace Go.Proofs.Ytaldfbmjmpkmmaa.PL
open Go.RowKit Go.Proofs.YtaldfbmjmpkmmaaW.PrintWords Go.Proofs.YtaldfbmjmpkmmaaW.PrintLast Go.Proofs.YtaldfbmjmpkmmaaW.PrintMore
attribute [local go_sem] Mk.str_leq Mk.str_gtr Mk.str_geq max2_int min2_int max_two min_two max_three min_three max_four min_four   -- for this text's walks alone
set_option linter.unusedVariables false
set_option linter.unusedSimpArgs false

/-! ### letter_address: function 126 -/
def letter_address.f (a0 : Int) : Option (Bool) := if a0 ≥ 0 then (if a0 < 12 then (some true) else (if a0 ≥ 100 then (some (decide (a0 < 116))) else (some false))) else (if a0 ≥ 100 then (some (decide (a0 < 116))) else (some false))
set_option maxHeartbeats 8000000 in
set_option maxRecDepth 100000 in
theorem letter_address.calls (a0 : Int) (r : Bool) (w : World) (h : letter_address.f a0 = some r) :
 Calls Try.prog 126 #[.int .i64 a0] w fun e w' => e = .returned (.bool r) ∧ Drawn0 w w' := by
 have H : (if a0 ≥ 0 then (if a0 < 12 then (some true) else (if a0 ≥ 100 then (some (decide (a0 < 116))) else (some false))) else (if a0 ≥ 100 then (some (decide (a0 < 116))) else (some false))) = some r := h
 clear h
 by_cases c2 : a0 ≥ 0
 ·rw [if_pos c2] at H
  have c2b0 : decide (0 ≤ a0) = true := decide_eq_true c2
  clear c2
  by_cases c3 : a0 < 12
  ·rw [if_pos c3] at H
   have c3b0 : decide (a0 < 12) = true := decide_eq_true c3
   clear c3
   obtain rfl := Option.some.inj H
   go_enter Try.func126, Try.ntmps126
   go_wp2
   go_ret
   exact ⟨by first | rfl | (simp; done) | (simp [*]; done), by repeat (first | exact Drawn0.refl _ | apply Drawn0.step)⟩
  ·rw [if_neg c3] at H
   have c3b0 : decide (a0 < 12) = false := decide_eq_false c3
   clear c3
   by_cases c4 : a0 ≥ 100
   ·rw [if_pos c4] at H
    have c4b0 : decide (100 ≤ a0) = true := decide_eq_true c4
    clear c4
    obtain rfl := Option.some.inj H
    go_enter Try.func126, Try.ntmps126
    go_wp2
    go_ret
    exact ⟨by first | rfl | (simp; done) | (simp [*]; done), by repeat (first | exact Drawn0.refl _ | apply Drawn0.step)⟩
   ·rw [if_neg c4] at H
    have c4b0 : decide (100 ≤ a0) = false := decide_eq_false c4
    clear c4
    obtain rfl := Option.some.inj H
    go_enter Try.func126, Try.ntmps126
    go_wp2
    go_ret
    exact ⟨by first | rfl | (simp; done) | (simp [*]; done), by repeat (first | exact Drawn0.refl _ | apply Drawn0.step)⟩
 ·rw [if_neg c2] at H
  have c2b0 : decide (0 ≤ a0) = false := decide_eq_false c2
  clear c2
  by_cases c5 : a0 ≥ 100
  ·rw [if_pos c5] at H
   have c5b0 : decide (100 ≤ a0) = true := decide_eq_true c5
   clear c5
   obtain rfl := Option.some.inj H
   go_enter Try.func126, Try.ntmps126
   go_wp2
   go_ret
   exact ⟨by first | rfl | (simp; done) | (simp [*]; done), by repeat (first | exact Drawn0.refl _ | apply Drawn0.step)⟩
  ·rw [if_neg c5] at H
   have c5b0 : decide (100 ≤ a0) = false := decide_eq_false c5
   clear c5
   obtain rfl := Option.some.inj H
   go_enter Try.func126, Try.ntmps126
   go_wp2
   go_ret
   exact ⟨by first | rfl | (simp; done) | (simp [*]; done), by repeat (first | exact Drawn0.refl _ | apply Drawn0.step)⟩

end Go.Proofs.Ytaldfbmjmpkmmaa.PL
namespace Go.Proofs.Ytaldfbmjmpkmmaa.PL
open Go.RowKit Go.Proofs.YtaldfbmjmpkmmaaW.PrintWords Go.Proofs.YtaldfbmjmpkmmaaW.PrintLast Go.Proofs.YtaldfbmjmpkmmaaW.PrintMore
attribute [local go_sem] Mk.str_leq Mk.str_gtr Mk.str_geq
set_option linter.unusedVariables false
set_option linter.unusedSimpArgs false
def addrB (n : Int) : Bool := (decide (0 ≤ n) && decide (n < 12)) || (decide (100 ≤ n) && decide (n < 116))
theorem addr_f (n : Int) : letter_address.f n = some (addrB n) := by
 unfold letter_address.f addrB
 by_cases h0 : 0 ≤ n
 ·by_cases h1 : n < 12
  ·rw [if_pos (by omega), if_pos h1]
   simp [h0, h1]
  ·by_cases h2 : 100 ≤ n
   ·rw [if_pos (by omega), if_neg h1, if_pos (by omega)]
    simp [h0, h1, h2]
   ·rw [if_pos (by omega), if_neg h1, if_neg (by omega)]
    simp [h1, h2]
 ·rw [if_neg (by omega), if_neg (by omega)]
  have : ¬ 100 ≤ n := by omega
  simp [h0, this]
def headB (fr tw tx ts cd : Int) : Bool := addrB fr && (addrB tw && (!decide (tx < 1) && (!decide (1125899906842623 < tx) && (!decide (ts < 0) && (!decide (1125899906842624 < ts) && !decide (cd < 0))))))
def oneB : List ByteArray → Bool
 | [s] => keyB s
 | _ => false
def mostV (k : Int) : Int := if k = 2 then 4 else if k = 8 then 2 else if k = 4 then 1 else 0
def keysV (k : Int) (l7 : List ByteArray) : Bool := if k = 2 ∨ k = 1 then oneB l7 else if k = 3 then decide (l7.length ≤ 16) && risingB l7 else l7.isEmpty
def writV (k : Int) (l8 : List S56) : Bool := if k = 3 then writesB l8 else l8.isEmpty
def textV (k cd : Int) (text : ByteArray) : Bool := if k = 2 then decide (text.size ≤ 2052) && (text.toList.isEmpty || cd == 1) else text.toList.isEmpty
def kindB (k : Int) : Bool := decide (1 ≤ k) && decide (k ≤ 8)
def restB (k cd : Int) (text : ByteArray) (l7 : List ByteArray) (l8 : List S56) : Bool := !decide (mostV k < cd) && (keysV k l7 && (writV k l8 && textV k cd text))
def letB (k fr tw tx ts cd : Int) (text : ByteArray) (l7 : List ByteArray) (l8 : List S56) : Bool := headB fr tw tx ts cd && (kindB k && restB k cd text l7 l8)
def letV (k fr tw tx ts cd : Int) (text : ByteArray) (l7 : List ByteArray) (l8 : List S56) : Int := if letB k fr tw tx ts cd text l7 l8 = true then 0 else 70
theorem len_zero {α : Type} (l : List α) : ((l.length : Int) == 0) = l.isEmpty := by
 cases l with
 | nil => rfl
 | cons a r =>
  have : ((((a :: r).length : Nat) : Int) == 0) = false := by simp; omega
  rw [this]; rfl
theorem strK_at0 {w : World} {A : Option Addr} {n : Nat} {x : ByteArray} (h : Kd.C Kd.string w A n [x]) : ∃ ad, A = some ad ∧ w.cell? (ad.add 0) = some (.string x) := by
 have hn : [x].length = n := h.1
 obtain ⟨ad, cs, rfl, hlen, hK, hc0⟩ := Kd.C_get h (⟨#[]⟩ : ByteArray) (0 : Int) (by omega) (by simp at hn; omega)
 obtain rfl : cs = [.string x] := hK
 exact ⟨ad, rfl, by have := hc0 0 _ rfl; simpa using this⟩
set_option maxRecDepth 100000 in
set_option maxHeartbeats 16000000 in
theorem letCheck_walk (w : World) (k fr tw tx ts cd : Int) (text : ByteArray) (A7 : Option Addr) (c7 : Nat) (l7 : List ByteArray) (A8 : Option Addr) (c8 : Nat) (l8 : List S56) (hr7 : Kd.C Kd.string w A7 l7.length l7) (hc7 : l7.length ≤ c7) (hr8 : Kd.C k56 w A8 l8.length l8) (hc8 : l8.length ≤ c8) (h8 : l8.length < 8796093022208) :
 Calls Try.prog 93 #[.agg #[.int .i64 k, .int .i64 fr, .int .i64 tw, .int .i64 tx, .int .i64 ts, .int .i64 cd, .string text, .slice A7 l7.length c7, .slice A8 l8.length c8]] w fun e w' => e = .returned (.int .i64 (letV k fr tw tx ts cd text l7 l8)) ∧ Below w.heap.size w w' := by
 have h7m := Kd.C_max hr7
 have h8m := Kd.C_max hr8
 have HR7 := Aside0.mk (And.intro hr7 hc7)
 have HR8 := Aside0.mk (And.intro hr8 hc8)
 have HF7 := Aside0.mk (rising_f l7 h7m (l7.length + 1) (by omega))
 have HF8 := Aside0.mk (writes_f l8 h8 (l8.length + l8.length + 2) (by omega))
 have HL : Aside0 (letV k fr tw tx ts cd text l7 l8 = if (headB fr tw tx ts cd && (kindB k && (!decide (mostV k < cd) && (keysV k l7 && (writV k l8 && textV k cd text))))) = true then 0 else 70) := ⟨rfl⟩
 have HH : Aside0 (headB fr tw tx ts cd = (addrB fr && (addrB tw && (!decide (tx < 1) && (!decide (1125899906842623 < tx) && (!decide (ts < 0) && (!decide (1125899906842624 < ts) && !decide (cd < 0)))))))) := ⟨rfl⟩
 have HA1 : Aside0 (∀ W, Calls Try.prog 126 #[.int .i64 fr] W fun e w' => e = .returned (.bool (addrB fr)) ∧ Drawn0 W w') := ⟨fun W => letter_address.calls fr _ W (addr_f fr)⟩
 have HA2 : Aside0 (∀ W, Calls Try.prog 126 #[.int .i64 tw] W fun e w' => e = .returned (.bool (addrB tw)) ∧ Drawn0 W w') := ⟨fun W => letter_address.calls tw _ W (addr_f tw)⟩
 obtain ⟨wy, hwy⟩ : ∃ wy, wy = w.alloc (.cells #[.int .i64 k, .int .i64 fr, .int .i64 tw, .int .i64 tx, .int .i64 ts, .int .i64 cd, .string text, .slice A7 l7.length c7, .slice A8 l8.length c8] 46) := ⟨_, rfl⟩
 have hby : Below w.heap.size w wy := by rw [hwy]; exact below_alloc (Below.refl _ _) _
 have hyx : wy.heap[w.heap.size]? = some (.cells #[.int .i64 k, .int .i64 fr, .int .i64 tw, .int .i64 tx, .int .i64 ts, .int .i64 cd, .string text, .slice A7 l7.length c7, .slice A8 l8.length c8] 46 (0, 0)) := by rw [hwy]; exact blk_new _ _
 have HWY := Aside0.mk hwy
 have HBY := Aside0.mk hby
 have HYX := Aside0.mk hyx
 obtain ⟨q0, q1, q2, q3, q4, q5, q6, q7, q8⟩ := rec_cells hyx
 clear hr7 hc7 hr8 hc8 h8 hwy hby hyx
 generalize letV k fr tw tx ts cd text l7 l8 = lv at *
 generalize headB fr tw tx ts cd = hb at *
 generalize addrB fr = a1 at *
 generalize addrB tw = a2 at *
 have hu46 := Try.underlying46
 go_enter Try.func93, Try.ntmps93
 go_upto_region 1 with (fail)
 rw [← HWY.out]
 go_cut [41] (fun v41 wc => v41 = .bool (!hb) ∧ Aside0 (Below wy.heap.size wy wc))
 case first =>
  go_wp2_with fail
  refine (HA1.out _).mono ?_
  rintro e w1 ⟨rfl, hd1⟩
  have HB1 : Aside0 (Below wy.heap.size wy w1) := ⟨hd1.below⟩
  clear hd1 q0 q1 q2 q3 q4 q5 q6 q7 q8
  obtain ⟨q0, q1, q2, q3, q4, q5, q6, q7, q8⟩ := rec_cells (blk_below HYX.out HB1.out)
  cases a1 with
  | false =>
   have HV : Aside0 (hb = false) := ⟨by rw [HH.out]; rfl⟩
   obtain rfl := HV.out
   clear HV
   go_wp2_with fail
   go_meet
   case rel => exact ⟨rfl, HB1⟩
  | true =>
   go_wp2_with fail
   refine (HA2.out _).mono ?_
   rintro e w2 ⟨rfl, hd2⟩
   have HB2 : Aside0 (Below wy.heap.size wy w2) := ⟨HB1.out.trans (hd2.below.mono HB1.out.size)⟩
   clear hd2 q0 q1 q2 q3 q4 q5 q6 q7 q8
   obtain ⟨q0, q1, q2, q3, q4, q5, q6, q7, q8⟩ := rec_cells (blk_below HYX.out HB2.out)
   cases a2 with
   | false =>
    have HV : Aside0 (hb = false) := ⟨by rw [HH.out]; rfl⟩
    obtain rfl := HV.out
    clear HV
    go_wp2_with fail
    go_meet
    case rel => exact ⟨rfl, HB2⟩
   | true =>
    cases d1 : decide (tx < 1) with
    | true =>
     have HV : Aside0 (hb = false) := ⟨by rw [HH.out, d1]; rfl⟩
     obtain rfl := HV.out
     clear HV
     go_wp2_with fail
     go_meet
     case rel => exact ⟨rfl, HB2⟩
    | false =>
     cases d2 : decide (1125899906842623 < tx) with
     | true =>
      have HV : Aside0 (hb = false) := ⟨by rw [HH.out, d1, d2]; rfl⟩
      have d2b : decide (tx > 1125899906842623) = true := d2
      obtain rfl := HV.out
      clear HV
      go_wp2_with fail
      go_meet
      case rel => exact ⟨rfl, HB2⟩
     | false =>
      have d2b : decide (tx > 1125899906842623) = false := d2
      cases d3 : decide (ts < 0) with
      | true =>
       have HV : Aside0 (hb = false) := ⟨by rw [HH.out, d1, d2, d3]; rfl⟩
       obtain rfl := HV.out
       clear HV
       go_wp2_with fail
       go_meet
       case rel => exact ⟨rfl, HB2⟩
      | false =>
       cases d4 : decide (1125899906842624 < ts) with
       | true =>
        have HV : Aside0 (hb = false) := ⟨by rw [HH.out, d1, d2, d3, d4]; rfl⟩
        have d4b : decide (ts > 1125899906842624) = true := d4
        obtain rfl := HV.out
        clear HV
        go_wp2_with fail
        go_meet
        case rel => exact ⟨rfl, HB2⟩
       | false =>
        have d4b : decide (ts > 1125899906842624) = false := d4
        cases d5 : decide (cd < 0) with
        | true =>
         have HV : Aside0 (hb = false) := ⟨by rw [HH.out, d1, d2, d3, d4, d5]; rfl⟩
         obtain rfl := HV.out
         clear HV
         go_wp2_with fail
         go_meet
         case rel => exact ⟨rfl, HB2⟩
        | false =>
         have HV : Aside0 (hb = true) := ⟨by rw [HH.out, d1, d2, d3, d4, d5]; rfl⟩
         obtain rfl := HV.out
         clear HV
         go_wp2_with fail
         go_meet
         case rel => exact ⟨rfl, HB2⟩
 case rest =>
  obtain ⟨rfl, HBC⟩ := hcut
  have HX := Aside0.mk (blk_below HYX.out HBC.out)
  have HB3 : Aside0 (Below w.heap.size w wc) := ⟨HBY.out.trans (HBC.out.mono HBY.out.size)⟩
  clear q0 q1 q2 q3 q4 q5 q6 q7 q8 HBC HYX HBY HA1 HA2 HH
  obtain ⟨q0, q1, q2, q3, q4, q5, q6, q7, q8⟩ := rec_cells HX.out
  obtain ⟨wo, hwo⟩ : ∃ wo, wo = wc := ⟨_, rfl⟩
  subst hwo
  cases hb with
  | false =>
   have HV : Aside0 (lv = 70) := ⟨by rw [HL.out]; rfl⟩
   obtain rfl := HV.out
   clear HV HL
   go_wp2_with fail
   go_ret
   exact ⟨rfl, HB3.out⟩
  | true =>
   have HE7 : Aside0 (((l7.length : Int) == 0) = l7.isEmpty) := ⟨len_zero l7⟩
   have HE8 : Aside0 (((l8.length : Int) == 0) = l8.isEmpty) := ⟨len_zero l8⟩
   go_upto_region 3 with (fail)
   go_cut [3, 4, 5, 6] (fun v3 v4 v5 v6 wc => v3 = .int .i64 0 ∧ v4 = .bool l7.isEmpty ∧ v5 = .bool l8.isEmpty ∧ v6 = .bool text.toList.isEmpty ∧ Aside0 (Below wo.heap.size wo wc))
   case first =>
    go_quiet (fail)
    all_goals (try go_wp2_with fail)
    all_goals go_meet
    all_goals (case rel => exact ⟨rfl, by rw [← HE7.out], by rw [← HE8.out], by simp, ⟨by repeat (first | exact Below.refl _ _ | apply below_drew1 | apply pw_below_drewN)⟩⟩)
   case rest =>
    obtain ⟨rfl, rfl, rfl, rfl, HBD⟩ := hcut
    obtain ⟨wp, hwp⟩ : ∃ wp, wp = wc := ⟨_, rfl⟩
    subst hwp
    have HXP := Aside0.mk (blk_below HX.out HBD.out)
    have HBP : Aside0 (Below w.heap.size w wp) := ⟨HB3.out.trans (HBD.out.mono HB3.out.size)⟩
    clear q0 q1 q2 q3 q4 q5 q6 q7 q8 HE7 HE8 HBD HX HB3
    obtain ⟨q0, q1, q2, q3, q4, q5, q6, q7, q8⟩ := rec_cells HXP.out
    go_upto_block 0 with (fail)
    go_cut [3, 4, 5, 6] (fun v3 v4 v5 v6 wc => v3 = .int .i64 (mostV k) ∧ v4 = .bool (keysV k l7) ∧ v5 = .bool (writV k l8) ∧ v6 = .bool (textV k cd text) ∧ Aside0 (Below wp.heap.size wp wc) ∧ Aside0 (kindB k = true))
    case first =>
     by_cases k2 : k = 2
     ·subst k2
      have HT : Aside0 (textV 2 cd text = (decide (text.size ≤ 2052) && (text.toList.isEmpty || cd == 1))) := ⟨by simp [textV]⟩
      generalize textV 2 cd text = tv at *
      cases h1 : decide (text.size ≤ 2052) with
      | false =>
       have d1 : decide ((text.size : Int) ≤ 2052) = false := decide_eq_false (by have := of_decide_eq_false h1; omega)
       have HV : Aside0 (tv = false) := ⟨by rw [HT.out, h1]; rfl⟩
       obtain rfl := HV.out
       clear HV HT
       go_upto_region 15 with (fail)
       go_cut [4] (fun v4 wd => v4 = .bool (oneB l7) ∧ Aside0 (Below wp.heap.size wp wd))
       case first =>
        match l7, HR7 with
        | [], HR7 =>
         go_wp2_with fail
         go_meet
         case rel => exact ⟨rfl, ⟨Below.refl _ _⟩⟩
        | [x], HR7 =>
         obtain ⟨ad, had, z0⟩ := strK_at0 (Kd.C_below HR7.out.1 HBP.out)
         subst had
         have z1 : wp.cell? ad = some (.string x) := z0
         have HKY : Aside0 (∀ W, Calls Try.prog 75 #[.string x] W fun e w' => e = .returned (.bool (keyB x)) ∧ Drawn0 W w') := ⟨fun W => letter_Key.calls x _ W (key_f x)⟩
         go_wp2_with fail
         refine (HKY.out _).mono ?_
         rintro e w5 ⟨rfl, hd5⟩
         have HB5 : Aside0 (Below wp.heap.size wp w5) := ⟨hd5.below⟩
         clear hd5
         go_wp2_with fail
         go_meet
         case rel => exact ⟨rfl, HB5⟩
        | x :: y :: r, HR7 =>
         have d1 : ((((x :: y :: r).length : Nat) : Int) == 1) = false := by simp; omega
         have d2 : ((r.length : Int) + 1 + 1 == 1) = false := by simp; omega
         go_wp2_with fail
         go_meet
         case rel => exact ⟨rfl, ⟨Below.refl _ _⟩⟩
       case rest =>
        obtain ⟨rfl, HB6⟩ := hcut
        clear q0 q1 q2 q3 q4 q5 q6 q7 q8
        go_wp2_with fail
        go_meet
        case rel => exact ⟨by simp [mostV], by simp [keysV], by simp [writV], rfl, HB6, ⟨by decide⟩⟩
      | true =>
       have d1 : decide ((text.size : Int) ≤ 2052) = true := decide_eq_true (by have := of_decide_eq_true h1; omega)
       cases h2 : text.toList.isEmpty with
       | true =>
        have HV : Aside0 (tv = true) := ⟨by rw [HT.out, h1, h2]; rfl⟩
        obtain rfl := HV.out
        clear HV HT
        go_upto_region 15 with (fail)
        go_cut [4] (fun v4 wd => v4 = .bool (oneB l7) ∧ Aside0 (Below wp.heap.size wp wd))
        case first =>
         match l7, HR7 with
         | [], HR7 =>
          go_wp2_with fail
          go_meet
          case rel => exact ⟨rfl, ⟨Below.refl _ _⟩⟩
         | [x], HR7 =>
          obtain ⟨ad, had, z0⟩ := strK_at0 (Kd.C_below HR7.out.1 HBP.out)
          subst had
          have z1 : wp.cell? ad = some (.string x) := z0
          have HKY : Aside0 (∀ W, Calls Try.prog 75 #[.string x] W fun e w' => e = .returned (.bool (keyB x)) ∧ Drawn0 W w') := ⟨fun W => letter_Key.calls x _ W (key_f x)⟩
          go_wp2_with fail
          refine (HKY.out _).mono ?_
          rintro e w5 ⟨rfl, hd5⟩
          have HB5 : Aside0 (Below wp.heap.size wp w5) := ⟨hd5.below⟩
          clear hd5
          go_wp2_with fail
          go_meet
          case rel => exact ⟨rfl, HB5⟩
         | x :: y :: r, HR7 =>
          have d1 : ((((x :: y :: r).length : Nat) : Int) == 1) = false := by simp; omega
          have d2 : ((r.length : Int) + 1 + 1 == 1) = false := by simp; omega
          go_wp2_with fail
          go_meet
          case rel => exact ⟨rfl, ⟨Below.refl _ _⟩⟩
        case rest =>
         obtain ⟨rfl, HB6⟩ := hcut
         clear q0 q1 q2 q3 q4 q5 q6 q7 q8
         go_wp2_with fail
         go_meet
         case rel => exact ⟨by simp [mostV], by simp [keysV], by simp [writV], rfl, HB6, ⟨by decide⟩⟩
       | false =>
        have HV : Aside0 (tv = (cd == 1)) := ⟨by rw [HT.out, h1, h2]; rfl⟩
        cases h3 : cd == 1 with
        | true =>
         rw [h3] at HV
         obtain rfl := HV.out
         clear HV HT
         go_upto_region 15 with (fail)
         go_cut [4] (fun v4 wd => v4 = .bool (oneB l7) ∧ Aside0 (Below wp.heap.size wp wd))
         case first =>
          match l7, HR7 with
          | [], HR7 =>
           go_wp2_with fail
           go_meet
           case rel => exact ⟨rfl, ⟨Below.refl _ _⟩⟩
          | [x], HR7 =>
           obtain ⟨ad, had, z0⟩ := strK_at0 (Kd.C_below HR7.out.1 HBP.out)
           subst had
           have z1 : wp.cell? ad = some (.string x) := z0
           have HKY : Aside0 (∀ W, Calls Try.prog 75 #[.string x] W fun e w' => e = .returned (.bool (keyB x)) ∧ Drawn0 W w') := ⟨fun W => letter_Key.calls x _ W (key_f x)⟩
           go_wp2_with fail
           refine (HKY.out _).mono ?_
           rintro e w5 ⟨rfl, hd5⟩
           have HB5 : Aside0 (Below wp.heap.size wp w5) := ⟨hd5.below⟩
           clear hd5
           go_wp2_with fail
           go_meet
           case rel => exact ⟨rfl, HB5⟩
          | x :: y :: r, HR7 =>
           have d1 : ((((x :: y :: r).length : Nat) : Int) == 1) = false := by simp; omega
           have d2 : ((r.length : Int) + 1 + 1 == 1) = false := by simp; omega
           go_wp2_with fail
           go_meet
           case rel => exact ⟨rfl, ⟨Below.refl _ _⟩⟩
         case rest =>
          obtain ⟨rfl, HB6⟩ := hcut
          clear q0 q1 q2 q3 q4 q5 q6 q7 q8
          go_wp2_with fail
          go_meet
          case rel => exact ⟨by simp [mostV], by simp [keysV], by simp [writV], rfl, HB6, ⟨by decide⟩⟩
        | false =>
         rw [h3] at HV
         obtain rfl := HV.out
         clear HV HT
         go_upto_region 15 with (fail)
         go_cut [4] (fun v4 wd => v4 = .bool (oneB l7) ∧ Aside0 (Below wp.heap.size wp wd))
         case first =>
          match l7, HR7 with
          | [], HR7 =>
           go_wp2_with fail
           go_meet
           case rel => exact ⟨rfl, ⟨Below.refl _ _⟩⟩
          | [x], HR7 =>
           obtain ⟨ad, had, z0⟩ := strK_at0 (Kd.C_below HR7.out.1 HBP.out)
           subst had
           have z1 : wp.cell? ad = some (.string x) := z0
           have HKY : Aside0 (∀ W, Calls Try.prog 75 #[.string x] W fun e w' => e = .returned (.bool (keyB x)) ∧ Drawn0 W w') := ⟨fun W => letter_Key.calls x _ W (key_f x)⟩
           go_wp2_with fail
           refine (HKY.out _).mono ?_
           rintro e w5 ⟨rfl, hd5⟩
           have HB5 : Aside0 (Below wp.heap.size wp w5) := ⟨hd5.below⟩
           clear hd5
           go_wp2_with fail
           go_meet
           case rel => exact ⟨rfl, HB5⟩
          | x :: y :: r, HR7 =>
           have d1 : ((((x :: y :: r).length : Nat) : Int) == 1) = false := by simp; omega
           have d2 : ((r.length : Int) + 1 + 1 == 1) = false := by simp; omega
           go_wp2_with fail
           go_meet
           case rel => exact ⟨rfl, ⟨Below.refl _ _⟩⟩
         case rest =>
          obtain ⟨rfl, HB6⟩ := hcut
          clear q0 q1 q2 q3 q4 q5 q6 q7 q8
          go_wp2_with fail
          go_meet
          case rel => exact ⟨by simp [mostV], by simp [keysV], by simp [writV], rfl, HB6, ⟨by decide⟩⟩
     ·by_cases k1 : k = 1
      ·subst k1
       go_upto_region 15 with (fail)
       go_cut [4] (fun v4 wd => v4 = .bool (oneB l7) ∧ Aside0 (Below wp.heap.size wp wd))
       case first =>
        match l7, HR7 with
        | [], HR7 =>
         go_wp2_with fail
         go_meet
         case rel => exact ⟨rfl, ⟨Below.refl _ _⟩⟩
        | [x], HR7 =>
         obtain ⟨ad, had, z0⟩ := strK_at0 (Kd.C_below HR7.out.1 HBP.out)
         subst had
         have z1 : wp.cell? ad = some (.string x) := z0
         have HKY : Aside0 (∀ W, Calls Try.prog 75 #[.string x] W fun e w' => e = .returned (.bool (keyB x)) ∧ Drawn0 W w') := ⟨fun W => letter_Key.calls x _ W (key_f x)⟩
         go_wp2_with fail
         refine (HKY.out _).mono ?_
         rintro e w5 ⟨rfl, hd5⟩
         have HB5 : Aside0 (Below wp.heap.size wp w5) := ⟨hd5.below⟩
         clear hd5
         go_wp2_with fail
         go_meet
         case rel => exact ⟨rfl, HB5⟩
        | x :: y :: r, HR7 =>
         have d1 : ((((x :: y :: r).length : Nat) : Int) == 1) = false := by simp; omega
         have d2 : ((r.length : Int) + 1 + 1 == 1) = false := by simp; omega
         go_wp2_with fail
         go_meet
         case rel => exact ⟨rfl, ⟨Below.refl _ _⟩⟩
       case rest =>
        obtain ⟨rfl, HB6⟩ := hcut
        clear q0 q1 q2 q3 q4 q5 q6 q7 q8
        go_wp2_with fail
        go_meet
        case rel => exact ⟨by simp [mostV], by simp [keysV], by simp [writV], by simp [textV], HB6, ⟨by decide⟩⟩
      ·by_cases k3 : k = 3
       ·subst k3
        have HR7b := Aside0.mk (Kd.C_below HR7.out.1 HBP.out)
        have HR8b := Aside0.mk (Kd.C_below HR8.out.1 HBP.out)
        have HK3 : Aside0 (keysV 3 l7 = (decide (l7.length ≤ 16) && risingB l7)) := ⟨by simp [keysV]⟩
        have HW3 : Aside0 (writV 3 l8 = writesB l8) := ⟨by simp [writV]⟩
        generalize keysV 3 l7 = kv at *
        generalize writV 3 l8 = wv at *
        cases h1 : decide (l7.length ≤ 16) with
        | false =>
         have d1 : decide ((l7.length : Int) ≤ 16) = false := decide_eq_false (by have := of_decide_eq_false h1; omega)
         have HV : Aside0 (kv = false) := ⟨by rw [HK3.out, h1]; rfl⟩
         obtain rfl := HV.out
         have HWR := Aside0.mk (letter_writes.calls _ A8 c8 l8 _ wp HR8b.out HR8.out.2 HF8.out)
         rw [← HW3.out] at HWR
         clear HV HK3 h1
         go_wp2_with fail
         refine HWR.out.mono ?_
         rintro e w6 ⟨rfl, hb6⟩
         have HB6 := Aside0.mk hb6
         clear hb6 q0 q1 q2 q3 q4 q5 q6 q7 q8
         go_wp2_with fail
         go_meet
         case rel => exact ⟨by simp [mostV], rfl, rfl, by simp [textV], HB6, ⟨by decide⟩⟩
        | true =>
         have d1 : decide ((l7.length : Int) ≤ 16) = true := decide_eq_true (by have := of_decide_eq_true h1; omega)
         have HV : Aside0 (kv = risingB l7) := ⟨by rw [HK3.out, h1]; rfl⟩
         have HRI := Aside0.mk (letter_Rising.calls _ A7 c7 l7 _ wp HR7b.out HR7.out.2 HF7.out)
         rw [← HV.out] at HRI
         clear HV HK3 h1
         go_wp2_with fail
         refine HRI.out.mono ?_
         rintro e w5 ⟨rfl, hd5⟩
         have HB5 : Aside0 (Below wp.heap.size wp w5) := ⟨hd5.below⟩
         have HWR := Aside0.mk (letter_writes.calls _ A8 c8 l8 _ w5 (Kd.C_below HR8b.out HB5.out) HR8.out.2 HF8.out)
         rw [← HW3.out] at HWR
         clear hd5 q0 q1 q2 q3 q4 q5 q6 q7 q8 HRI
         obtain ⟨q0, q1, q2, q3, q4, q5, q6, q7, q8⟩ := rec_cells (blk_below HXP.out HB5.out)
         go_wp2_with fail
         refine HWR.out.mono ?_
         rintro e w6 ⟨rfl, hb6⟩
         have HB6 : Aside0 (Below wp.heap.size wp w6) := ⟨HB5.out.trans (hb6.mono HB5.out.size)⟩
         clear hb6 q0 q1 q2 q3 q4 q5 q6 q7 q8
         go_wp2_with fail
         go_meet
         case rel => exact ⟨by simp [mostV], rfl, rfl, by simp [textV], HB6, ⟨by decide⟩⟩
       ·by_cases k8 : k = 8
        ·subst k8
         go_wp2_with fail
         go_meet
         case rel => exact ⟨by simp [mostV], by simp [keysV], by simp [writV], by simp [textV], ⟨Below.refl _ _⟩, ⟨by decide⟩⟩
        ·by_cases k4 : k = 4
         ·subst k4
          go_wp2_with fail
          go_meet
          case rel => exact ⟨by simp [mostV], by simp [keysV], by simp [writV], by simp [textV], ⟨Below.refl _ _⟩, ⟨by decide⟩⟩
         ·by_cases k5 : k = 5
          ·subst k5
           go_wp2_with fail
           go_meet
           case rel => exact ⟨by simp [mostV], by simp [keysV], by simp [writV], by simp [textV], ⟨Below.refl _ _⟩, ⟨by decide⟩⟩
          ·by_cases k6 : k = 6
           ·subst k6
            go_wp2_with fail
            go_meet
            case rel => exact ⟨by simp [mostV], by simp [keysV], by simp [writV], by simp [textV], ⟨Below.refl _ _⟩, ⟨by decide⟩⟩
           ·by_cases k7 : k = 7
            ·subst k7
             go_wp2_with fail
             go_meet
             case rel => exact ⟨by simp [mostV], by simp [keysV], by simp [writV], by simp [textV], ⟨Below.refl _ _⟩, ⟨by decide⟩⟩
            ·have HV : Aside0 (lv = 70) := ⟨by
              have hkb : kindB k = false := by unfold kindB; simp; omega
              rw [HL.out, hkb]; rfl⟩
             have c2 : (k == 2) = false := by simpa using k2
             have c1 : (k == 1) = false := by simpa using k1
             have c3 : (k == 3) = false := by simpa using k3
             have c8 : (k == 8) = false := by simpa using k8
             have c4 : (k == 4) = false := by simpa using k4
             have c5 : (k == 5) = false := by simpa using k5
             have c6 : (k == 6) = false := by simpa using k6
             have c7 : (k == 7) = false := by simpa using k7
             obtain rfl := HV.out
             clear HV HL k1 k2 k3 k4 k5 k6 k7 k8
             go_wp2_with fail
             go_ret
             exact ⟨rfl, HBP.out⟩
    case rest =>
     obtain ⟨rfl, rfl, rfl, rfl, HBQ, HKB⟩ := hcut
     have HBE : Aside0 (Below w.heap.size w wc) := ⟨HBP.out.trans (HBQ.out.mono HBP.out.size)⟩
     have HXQ := Aside0.mk (blk_below HXP.out HBQ.out)
     rw [HKB.out] at HL
     clear q0 q1 q2 q3 q4 q5 q6 q7 q8 HBQ HXP HBP HKB HF7 HF8
     obtain ⟨q0, q1, q2, q3, q4, q5, q6, q7, q8⟩ := rec_cells HXQ.out
     generalize mostV k = ms at *
     generalize keysV k l7 = b7 at *
     generalize writV k l8 = b8 at *
     generalize textV k cd text = bt at *
     cases hd : decide (ms < cd) with
     | true =>
      have HV : Aside0 (lv = 70) := ⟨by rw [HL.out, hd]; rfl⟩
      obtain rfl := HV.out
      clear HV HL
      go_wp2_with fail
      go_ret
      exact ⟨rfl, HBE.out⟩
     | false =>
      cases b7 with
      | false =>
       have HV : Aside0 (lv = 70) := ⟨by rw [HL.out, hd]; rfl⟩
       obtain rfl := HV.out
       clear HV HL
       go_wp2_with fail
       go_ret
       exact ⟨rfl, HBE.out⟩
      | true =>
       cases b8 with
       | false =>
        have HV : Aside0 (lv = 70) := ⟨by rw [HL.out, hd]; rfl⟩
        obtain rfl := HV.out
        clear HV HL
        go_wp2_with fail
        go_ret
        exact ⟨rfl, HBE.out⟩
       | true =>
        cases bt with
        | false =>
         have HV : Aside0 (lv = 70) := ⟨by rw [HL.out, hd]; rfl⟩
         obtain rfl := HV.out
         clear HV HL
         go_wp2_with fail
         go_ret
         exact ⟨rfl, HBE.out⟩
        | true =>
         have HV : Aside0 (lv = 0) := ⟨by rw [HL.out, hd]; rfl⟩
         obtain rfl := HV.out
         clear HV HL
         go_wp2_with fail
         go_ret
         exact ⟨rfl, HBE.out⟩
end Go.Proofs.Ytaldfbmjmpkmmaa.PL
