/- Texts of this proof, one behind the other (merged by a program of this session). -/
import Derived.Test.YtaldfbmjmpkmmaaGreatM85d5e2
import Derived.Test.YtaldfbmjmpkmmaaGreatMe06dd9
import Derived.Test.YtaldfbmjmpkmmaaGreatHRefP
import Derived.Test.YtaldfbmjmpkmmaaGreatHCheck
namespace Go.Proofs.YtaldfbmjmpkmmaaGreat.PL
open Go.RowKit Go.Proofs.YtaldfbmjmpkmmaaGreatW.PrintWords Go.Proofs.YtaldfbmjmpkmmaaGreatW.PrintLast Go.Proofs.YtaldfbmjmpkmmaaGreatW.PrintMore
attribute [local go_sem] Mk.str_leq Mk.str_gtr Mk.str_geq
set_option linter.unusedVariables false
set_option linter.unusedSimpArgs false
def stampB (a : Int) : Bool := decide (0 ≤ a) && decide (a ≤ 1125899906842624)
def txnB (a : Int) : Bool := decide (1 ≤ a) && decide (a ≤ 1125899906842623)
theorem stamp_f (a : Int) : corncribref07_Stamp.f a = some (stampB a) := by
 unfold corncribref07_Stamp.f stampB
 by_cases e : 0 ≤ a
 ·rw [if_pos (by omega)]; simp [e]
 ·rw [if_neg (by omega)]; simp [e]
theorem txn_f (a : Int) : corncribref07_Txn.f a = some (txnB a) := by
 unfold corncribref07_Txn.f txnB
 by_cases e : 1 ≤ a
 ·rw [if_pos (by omega)]; simp [e]
 ·rw [if_neg (by omega)]; simp [e]
theorem range_eq (a1 a2 a3 : Int) : rangeBad a1 a2 a3 = (!(a1 == 0 || txnB a1) || (!stampB a2 || (decide (a3 < 0) || decide (a3 ≥ 16)))) := by
 rw [Bool.eq_iff_iff]
 unfold rangeBad txnB stampB
 simp only [Bool.or_eq_true, Bool.not_eq_true', Bool.or_eq_false_iff, Bool.and_eq_false_iff, decide_eq_true_eq, decide_eq_false_iff_not, beq_eq_false_iff_ne]
 omega

end Go.Proofs.YtaldfbmjmpkmmaaGreat.PL
namespace Go.Proofs.YtaldfbmjmpkmmaaGreat.PL
open Go.RowKit Go.Proofs.YtaldfbmjmpkmmaaGreatW.PrintWords Go.Proofs.YtaldfbmjmpkmmaaGreatW.PrintLast Go.Proofs.YtaldfbmjmpkmmaaGreatW.PrintMore
attribute [local go_sem] Mk.str_leq Mk.str_gtr Mk.str_geq
set_option linter.unusedVariables false
set_option linter.unusedSimpArgs false
set_option maxRecDepth 100000 in
set_option maxHeartbeats 8000000 in
theorem refCheck_walk1 (w : World) (a0 a1 a2 a3 : Int) (a4 a5 : ByteArray) (a6 : Bool) (A7 : Option Addr) (c7 : Nat) (l7 : List ByteArray) (A8 : Option Addr) (c8 : Nat) (l8 : List S57) (hr7 : Kd.C Kd.string w A7 l7.length l7) (hc7 : l7.length ≤ c7) (hr8 : Kd.C k57 w A8 l8.length l8) (hc8 : l8.length ≤ c8) (h8 : l8.length < 8796093022208) (k1 : a0 = 1) :
 Calls Tryz.prog 45 #[.agg #[.int .i64 a0, .int .i64 a1, .int .i64 a2, .int .i64 a3, .string a4, .string a5, .bool a6, .slice A7 l7.length c7, .slice A8 l8.length c8]] w fun e w' => e = .returned (.int .i64 (recV a0 a1 a2 a3 a4 a5 a6 l7 l8)) ∧ Below w.heap.size w w' := by
 have h7m := Kd.C_max hr7
 have h8m := Kd.C_max hr8
 have HR7 := Aside0.mk (And.intro hr7 hc7)
 have HR8 := Aside0.mk (And.intro hr8 hc8)
 have HF7 := Aside0.mk (rrising_f l7 h7m (l7.length + 1) (by omega))
 have HF8 := Aside0.mk (rwrites_f l8 h8 (l8.length + l8.length + 2) (by omega))
 have HST := Aside0.mk (stamp_f a2)
 have HTX := Aside0.mk (txn_f a1)
 clear hr7 hc7 hr8 hc8 h8
 have KK := Aside0.mk k1
 clear k1
 have HBK := Aside0.mk (blk_new w (.cells #[.int .i64 a0, .int .i64 a1, .int .i64 a2, .int .i64 a3, .string a4, .string a5, .bool a6, .slice A7 l7.length c7, .slice A8 l8.length c8] 26))
 have HB := Aside0.mk (below_alloc (Below.refl _ w) (.cells #[.int .i64 a0, .int .i64 a1, .int .i64 a2, .int .i64 a3, .string a4, .string a5, .bool a6, .slice A7 l7.length c7, .slice A8 l8.length c8] 26))
 have HV : Aside0 (recV a0 a1 a2 a3 a4 a5 a6 l7 l8 = if rangeBad a1 a2 a3 = true then 80 else if recOk a0 a1 a2 a3 a4 a5 a6 l7 l8 = true then 0 else 80) := ⟨rfl⟩
 have HNN : Aside0 (rangeBad a1 a2 a3 = false → 0 ≤ a1 ∧ 0 ≤ a2) := ⟨fun h => by unfold rangeBad at h; simp only [Bool.or_eq_false_iff, decide_eq_false_iff_not] at h; omega⟩
 have HRG := Aside0.mk (range_eq a1 a2 a3)
 generalize recV a0 a1 a2 a3 a4 a5 a6 l7 l8 = v at *
 generalize rangeBad a1 a2 a3 = rb at *
 have hu26 := Tryz.underlying26
 go_enter Tryz.func45, Tryz.ntmps45
 go_upto_region 1 with (fail)
 go_cut [31] (fun v31 wc => v31 = .bool rb ∧ Aside0 (wc.heap[w.heap.size]? = some (.cells #[.int .i64 a0, .int .i64 a1, .int .i64 a2, .int .i64 a3, .string a4, .string a5, .bool a6, .slice A7 l7.length c7, .slice A8 l8.length c8] 26)) ∧ Aside0 (Below w.heap.size w wc))
 case first =>
  generalize (w.alloc (.cells #[.int .i64 a0, .int .i64 a1, .int .i64 a2, .int .i64 a3, .string a4, .string a5, .bool a6, .slice A7 l7.length c7, .slice A8 l8.length c8] 26)) = w1 at *
  obtain ⟨p0, p1, p2, p3, p4, p5, p6, p7, p8⟩ := rec_cells HBK.out
  by_cases e1 : a1 = 0
  ·have e1b : (a1 != 0) = false := by simp [e1]
   have E1 := Aside0.mk e1
   clear e1
   go_wp2_with fail
   refine (corncribref07_Stamp.calls a2 _ _ HST.out).mono ?_
   rintro e w' ⟨rfl, ⟨nd, rfl⟩⟩
   have HB2 : Aside0 (Below w.heap.size w (w1.drewN nd)) := ⟨pw_below_drewN HB.out nd⟩
   have BK2 := Aside0.mk (blk_drewN HBK.out nd)
   generalize stampB a2 = st at *
   cases st with
   | false =>
    go_wp2
    go_meet
    case rel => exact ⟨by rw [HRG.out]; simp, BK2, HB2⟩
   | true =>
    by_cases e3 : a3 < 0
    ·go_wp2
     go_meet
     case rel => exact ⟨by rw [HRG.out]; simp [e3], BK2, HB2⟩
    ·go_wp2
     go_meet
     case rel => exact ⟨by rw [HRG.out, E1.out]; simp [e3], BK2, HB2⟩
  ·have e1b : (a1 != 0) = true := by simp [e1]
   have E1 := Aside0.mk e1
   clear e1
   go_wp2_with fail
   refine (corncribref07_Txn.calls a1 _ _ HTX.out).mono ?_
   rintro e w' ⟨rfl, ⟨nd, rfl⟩⟩
   have HB1 : Aside0 (Below w.heap.size w (w1.drewN nd)) := ⟨pw_below_drewN HB.out nd⟩
   have BK1 := Aside0.mk (blk_drewN HBK.out nd)
   generalize w1.drewN nd = w3 at *
   clear p0 p1 p2 p3 p4 p5 p6 p7 p8
   obtain ⟨p0, p1, p2, p3, p4, p5, p6, p7, p8⟩ := rec_cells BK1.out
   generalize txnB a1 = tx at *
   cases tx with
   | false =>
    go_wp2
    go_meet
    case rel => exact ⟨by rw [HRG.out]; simp [E1.out], BK1, HB1⟩
   | true =>
    go_wp2_with fail
    refine (corncribref07_Stamp.calls a2 _ _ HST.out).mono ?_
    rintro e w' ⟨rfl, ⟨nd, rfl⟩⟩
    have HB2 : Aside0 (Below w.heap.size w (w3.drewN nd)) := ⟨pw_below_drewN HB1.out nd⟩
    have BK2 := Aside0.mk (blk_drewN BK1.out nd)
    generalize stampB a2 = st at *
    cases st with
    | false =>
     go_wp2
     go_meet
     case rel => exact ⟨by rw [HRG.out]; simp, BK2, HB2⟩
    | true =>
     by_cases e3 : a3 < 0
     ·go_wp2
      go_meet
      case rel => exact ⟨by rw [HRG.out]; simp [e3], BK2, HB2⟩
     ·go_wp2
      go_meet
      case rel => exact ⟨by rw [HRG.out]; simp [E1.out, e3], BK2, HB2⟩
 case rest =>
  clear HBK HB HST HTX
  obtain ⟨rfl, HBK, HB⟩ := hcut
  obtain ⟨p0, p1, p2, p3, p4, p5, p6, p7, p8⟩ := rec_cells HBK.out
  cases rb with
  | true =>
   go_wp2
   go_ret
   exact ⟨by rw [HV.out]; rfl, HB.out⟩
  | false =>
   clear HRG
   have HN : Aside0 (noneB l7 l8 = (((l7.length : Int) == 0) && ((l8.length : Int) == 0))) := ⟨by
    unfold noneB
    cases l7 <;> cases l8 <;> simp <;> omega⟩
   have HBB : Aside0 (bareB a4 a5 a6 = (a4.toList.isEmpty && (a5.toList.isEmpty && !a6))) := ⟨rfl⟩
   have p01 : decide (0 < a1) = !(a1 == 0) := by
    have h0 := (HNN.out rfl).1
    by_cases h : a1 = 0
    ·subst h; rfl
    ·have h1 : 0 < a1 := by omega
     simp [h, h1]
   have p02 : decide (0 < a2) = !(a2 == 0) := by
    have h0 := (HNN.out rfl).2
    by_cases h : a2 = 0
    ·subst h; rfl
    ·have h1 : 0 < a2 := by omega
     simp [h, h1]
   have HOK : Aside0 (recOk a0 a1 a2 a3 a4 a5 a6 l7 l8 =
    if a0 = 1 then bareB a4 a5 a6 && (!(a1 == 0) && (decide (l7.length ≤ 16) && (risingB l7 && writesB l8)))
    else if a0 = 2 then (noneB l7 l8 && (bareB a4 a5 a6 && a3 == 0)) && !(a1 == 0)
    else if a0 = 3 then noneB l7 l8 && (a3 == 0 && (a1 == 0 && (!(a2 == 0) && (keyB a4 && (decide (a5.size ≤ 2052) && (!a6 || a5.toList.isEmpty))))))
    else if a0 = 4 then (noneB l7 l8 && (bareB a4 a5 a6 && a3 == 0)) && a1 == 0
    else if a0 = 5 then (noneB l7 l8 && (bareB a4 a5 a6 && a3 == 0)) && (!(a1 == 0) && !(a2 == 0))
    else if a0 = 6 then (noneB l7 l8 && (bareB a4 a5 a6 && a3 == 0)) && (!(a1 == 0) && a2 == 0)
    else if a0 = 7 then (noneB l7 l8 && (bareB a4 a5 a6 && a3 == 0)) && (a1 == 0 && !(a2 == 0))
    else false) := ⟨by
    unfold recOk listedB
    rw [p01, p02]
    generalize noneB l7 l8 = N
    generalize bareB a4 a5 a6 = B
    by_cases c1 : a0 = 1
    ·rw [if_pos c1, if_pos c1]
     cases risingB l7 <;> cases writesB l8 <;> cases B <;> cases (a1 == 0) <;> cases decide (l7.length ≤ 16) <;> rfl
    ·rw [if_neg c1, if_neg c1]
     by_cases c2 : a0 = 2
     ·subst c2; simp; cases N <;> cases B <;> cases (a1 == 0) <;> cases (a3 == 0) <;> rfl
     ·by_cases c3 : a0 = 3
      ·subst c3; simp; cases N <;> cases keyB a4 <;> cases (a1 == 0) <;> cases (a3 == 0) <;> cases (a2 == 0) <;> cases decide (a5.size ≤ 2052) <;> cases a6 <;> cases a5.toList.isEmpty <;> rfl
      ·by_cases c4 : a0 = 4
       ·subst c4; simp; cases N <;> cases B <;> cases (a1 == 0) <;> cases (a3 == 0) <;> rfl
       ·by_cases c5 : a0 = 5
        ·subst c5; simp; cases N <;> cases B <;> cases (a1 == 0) <;> cases (a2 == 0) <;> cases (a3 == 0) <;> rfl
        ·by_cases c6 : a0 = 6
         ·subst c6; simp; cases N <;> cases B <;> cases (a1 == 0) <;> cases (a2 == 0) <;> cases (a3 == 0) <;> rfl
         ·by_cases c7 : a0 = 7
          ·subst c7; simp; cases N <;> cases B <;> cases (a1 == 0) <;> cases (a2 == 0) <;> cases (a3 == 0) <;> rfl
          ·simp [c2, c3, c4, c5, c6, c7]⟩
   have HV2 : Aside0 (v = if recOk a0 a1 a2 a3 a4 a5 a6 l7 l8 = true then 0 else 80) := ⟨by rw [HV.out]; rfl⟩
   rw [HOK.out] at HV2
   clear HV HNN HOK p01 p02
   generalize noneB l7 l8 = N at *
   generalize bareB a4 a5 a6 = B at *
   generalize risingB l7 = R at *
   generalize writesB l8 = Wb at *
   go_upto_region 3 with (fail)
   go_cut [3] (fun v3 wc => v3 = .bool N ∧ Aside0 (wc.heap[w.heap.size]? = some (.cells #[.int .i64 a0, .int .i64 a1, .int .i64 a2, .int .i64 a3, .string a4, .string a5, .bool a6, .slice A7 l7.length c7, .slice A8 l8.length c8] 26)) ∧ Aside0 (Below w.heap.size w wc))
   case first =>
    cases e7 : ((l7.length : Int) == 0)
    ·go_wp2
     go_meet
     case rel => exact ⟨by rw [HN.out, e7]; rfl, HBK, HB⟩
    ·go_wp2
     go_meet
     case rel => exact ⟨by rw [HN.out, e7]; rfl, HBK, HB⟩
   case rest =>
    clear HBK HB HN p0 p1 p2 p3 p4 p5 p6 p7 p8
    obtain ⟨rfl, HBK, HB⟩ := hcut
    obtain ⟨p0, p1, p2, p3, p4, p5, p6, p7, p8⟩ := rec_cells HBK.out
    go_upto_region 4 with (fail)
    go_cut [4] (fun v4 wc => v4 = .bool B ∧ Aside0 (wc.heap[w.heap.size]? = some (.cells #[.int .i64 a0, .int .i64 a1, .int .i64 a2, .int .i64 a3, .string a4, .string a5, .bool a6, .slice A7 l7.length c7, .slice A8 l8.length c8] 26)) ∧ Aside0 (Below w.heap.size w wc))
    case first =>
     have c4 : (a4.toList == ([] : List UInt8)) = a4.toList.isEmpty := by cases a4.toList <;> rfl
     have c5 : (a5.toList == ([] : List UInt8)) = a5.toList.isEmpty := by cases a5.toList <;> rfl
     cases e4 : a4.toList.isEmpty
     ·rw [e4] at c4
      go_wp2
      go_meet
      case rel => exact ⟨by rw [HBB.out, e4]; rfl, HBK, HB⟩
     ·rw [e4] at c4
      cases e5 : a5.toList.isEmpty
      ·rw [e5] at c5
       go_wp2
       go_meet
       case rel => exact ⟨by rw [HBB.out, e4, e5]; rfl, HBK, HB⟩
      ·rw [e5] at c5
       go_wp2
       go_meet
       case rel => exact ⟨by rw [HBB.out, e4, e5]; simp, HBK, HB⟩
    case rest =>
     clear HBK HB HBB p0 p1 p2 p3 p4 p5 p6 p7 p8
     obtain ⟨rfl, HBK, HB⟩ := hcut
     obtain ⟨p0, p1, p2, p3, p4, p5, p6, p7, p8⟩ := rec_cells HBK.out
     go_upto_region 5 with (fail)
     go_cut [5] (fun v5 wc => v5 = .bool (N && (B && a3 == 0)) ∧ Aside0 (wc.heap[w.heap.size]? = some (.cells #[.int .i64 a0, .int .i64 a1, .int .i64 a2, .int .i64 a3, .string a4, .string a5, .bool a6, .slice A7 l7.length c7, .slice A8 l8.length c8] 26)) ∧ Aside0 (Below w.heap.size w wc))
     case first =>
      cases N <;> cases B <;> go_wp2 <;> go_meet
      all_goals (case rel => exact ⟨rfl, HBK, HB⟩)
     case rest =>
      clear HBK HB p0 p1 p2 p3 p4 p5 p6 p7 p8
      obtain ⟨rfl, HBK, HB⟩ := hcut
      obtain ⟨p0, p1, p2, p3, p4, p5, p6, p7, p8⟩ := rec_cells HBK.out
      generalize hX5 : (N && (B && a3 == 0)) = X5 at *
      have k1 := KK.out
      have K1 := Aside0.mk k1
      have k1b : (a0 == 1) = true := by simp [k1]
      rw [if_pos k1] at HV2
      clear k1
      cases B with
      | false =>
       go_wp2
       go_ret
       exact ⟨by rw [HV2.out]; rfl, HB.out⟩
      | true =>
       by_cases za1 : a1 = 0
       ·skip
        have ba1 : (a1 != 0) = false := by simp [za1]
        have da1 : (a1 == 0) = true := by simp [za1]
        have Za1 := Aside0.mk da1
        clear za1
        go_wp2
        go_ret
        exact ⟨by rw [HV2.out]; simp [Za1.out], HB.out⟩
       ·skip
        have ba1 : (a1 != 0) = true := by simp [za1]
        have da1 : (a1 == 0) = false := by simp [za1]
        have Za1 := Aside0.mk da1
        clear za1
        by_cases z7 : l7.length ≤ 16
        ·go_wp2_with fail
         refine (corncribref07_Rising.calls _ A7 c7 l7 R _ (Kd.C_below HR7.out.1 HB.out) HR7.out.2 HF7.out).mono ?_
         rintro e w' ⟨rfl, ⟨nd, rfl⟩⟩
         have HB2 : Aside0 (Below w.heap.size w (wc.drewN nd)) := ⟨pw_below_drewN HB.out nd⟩
         cases R with
         | false =>
          go_wp2
          go_ret
          exact ⟨by rw [HV2.out]; simp [Za1.out, z7], HB2.out⟩
         | true =>
          go_wp2_with fail
          refine (corncribref07_Writes.calls _ A8 c8 l8 Wb _ (Kd.C_below HR8.out.1 HB2.out) HR8.out.2 HF8.out).mono ?_
          rintro e w8 ⟨rfl, hb8⟩
          have HB8 : Aside0 (Below w.heap.size w w8) := ⟨HB2.out.trans (hb8.mono HB2.out.size)⟩
          clear hb8
          cases Wb <;> go_wp2 <;> go_ret <;> exact ⟨by rw [HV2.out]; simp [Za1.out, z7], HB8.out⟩
        ·skip
         go_wp2
         go_ret
         exact ⟨by rw [HV2.out]; simp [Za1.out, z7], HB.out⟩
end Go.Proofs.YtaldfbmjmpkmmaaGreat.PL
