/- Texts of this proof, one behind the other (merged by a program of this session). -/
import Derived.Test.YtaldfbmjmpkmmaaMc5f0ce
import Derived.Maps.OwnSet
import Derived.Maps.RangeWalk
import Derived.Maps.Ext
import Derived.StringKeys
import Derived.WalkKit
import Derived.StillTailTactics
namespace Go.Proofs.Ytaldfbmjmpkmmaa.PL
open Go.RowKit Go.Proofs.YtaldfbmjmpkmmaaW.PrintWords Go.Proofs.YtaldfbmjmpkmmaaW.PrintLast Go.Proofs.YtaldfbmjmpkmmaaW.PrintMore
attribute [local go_sem] Mk.str_leq Mk.str_gtr Mk.str_geq max2_int min2_int max_two min_two max_three min_three max_four min_four
set_option linter.unusedVariables false
set_option linter.unusedSimpArgs false
theorem eqA129 (d : Nat) (w : World) (x0 y0 : Int) (x1 y1 : Int) (x2 y2 : Int) (x3 y3 : Int) (x4 y4 : ByteArray) (x5 y5 : ByteArray) (x6 y6 : Bool) :
  (Op.equalIn (d + 2) 129 (.agg #[.int .i64 x0, .int .i64 x1, .int .i64 x2, .int .i64 x3, .string x4, .string x5, .bool x6]) (.agg #[.int .i64 y0, .int .i64 y1, .int .i64 y2, .int .i64 y3, .string y4, .string y5, .bool y6])).run Try.prog w = .ok (x0 == y0 && (x1 == y1 && (x2 == y2 && (x3 == y3 && (x4.toList == y4.toList && (x5.toList == y5.toList && (x6 == y6))))))) w := by
 refine eqA_of Try.underlying129 (by kernel_rfl) ?_
 refine eqf_cons (by rfl) (by go_simp; rfl) (by go_simp; rfl) (by go_simp) ?_
 refine eqf_cons (by rfl) (by go_simp; rfl) (by go_simp; rfl) (by go_simp) ?_
 refine eqf_cons (by rfl) (by go_simp; rfl) (by go_simp; rfl) (by go_simp) ?_
 refine eqf_cons (by rfl) (by go_simp; rfl) (by go_simp; rfl) (by go_simp) ?_
 refine eqf_cons (by rfl) (by go_simp; rfl) (by go_simp; rfl) (by go_simp) ?_
 refine eqf_cons (by rfl) (by go_simp; rfl) (by go_simp; rfl) (by go_simp) ?_
 exact eqf_last (by rfl) (by go_simp; rfl) (by go_simp; rfl) (by go_simp)
attribute [local go_sem high] eqA129
def rangeBad (a1 a2 a3 : Int) : Bool := decide (a1 < 0) || (decide (1125899906842623 < a1) || (decide (a2 < 0) || (decide (1125899906842624 < a2) || (decide (a3 < 0) || decide (16 ≤ a3)))))
def bareB (a4 a5 : ByteArray) (a6 : Bool) : Bool := a4.toList.isEmpty && (a5.toList.isEmpty && !a6)
def noneB (l7 : List ByteArray) (l8 : List S56) : Bool := l7.isEmpty && l8.isEmpty
def recOk (a0 a1 a2 a3 : Int) (a4 a5 : ByteArray) (a6 : Bool) (l7 : List ByteArray) (l8 : List S56) : Bool :=
  if a0 = 1 then (listedB l7 l8 && decide (0 < a1)) && bareB a4 a5 a6
  else noneB l7 l8 && (
    if a0 = 2 then decide (0 < a1) && (a3 == 0 && bareB a4 a5 a6)
    else if a0 = 5 then decide (0 < a1) && (decide (0 < a2) && (a3 == 0 && bareB a4 a5 a6))
    else if a0 = 6 then decide (0 < a1) && (a2 == 0 && (a3 == 0 && bareB a4 a5 a6))
    else if a0 = 3 then decide (0 < a2) && (keyB a4 && (decide (a5.size ≤ 2052) && (!(a6 && !a5.toList.isEmpty) && (a1 == 0 && a3 == 0))))
    else if a0 = 4 then a1 == 0 && (a3 == 0 && bareB a4 a5 a6)
    else if a0 = 7 then decide (0 < a2) && (a1 == 0 && (a3 == 0 && bareB a4 a5 a6))
    else false)
def recV (a0 a1 a2 a3 : Int) (a4 a5 : ByteArray) (a6 : Bool) (l7 : List ByteArray) (l8 : List S56) : Int :=
  if rangeBad a1 a2 a3 = true then 80 else if recOk a0 a1 a2 a3 a4 a5 a6 l7 l8 = true then 0 else 80
def record_Check.f (a0_0 : Int) (a0_1 : Int) (a0_2 : Int) (a0_3 : Int) (a0_4 : ByteArray) (a0_5 : ByteArray) (a0_6 : Bool) (l0_7 : List ByteArray) (l0_8 : List (S56)) : Option (Int) :=
  if l0_7.length < 8796093022208 ∧ l0_8.length < 8796093022208 then some (recV a0_0 a0_1 a0_2 a0_3 a0_4 a0_5 a0_6 l0_7 l0_8) else none
theorem check_small {a0 a1 a2 a3 : Int} {a4 a5 : ByteArray} {a6 : Bool} {l7 : List ByteArray} {l8 : List S56} {r : Int} (h : record_Check.f a0 a1 a2 a3 a4 a5 a6 l7 l8 = some r) : l7.length < 8796093022208 ∧ l8.length < 8796093022208 := by
  unfold record_Check.f at h
  split at h
  · assumption
  · cases h
theorem check_val {a0 a1 a2 a3 : Int} {a4 a5 : ByteArray} {a6 : Bool} {l7 : List ByteArray} {l8 : List S56} {r : Int} (h : record_Check.f a0 a1 a2 a3 a4 a5 a6 l7 l8 = some r) : r = recV a0 a1 a2 a3 a4 a5 a6 l7 l8 := by
  unfold record_Check.f at h
  split at h
  · injection h with h; exact h.symm
  · cases h
theorem check_bad {a0 a1 a2 a3 : Int} {a4 a5 : ByteArray} {a6 : Bool} {l7 : List ByteArray} {l8 : List S56} {r : Int} (h : r = recV a0 a1 a2 a3 a4 a5 a6 l7 l8) (hb : rangeBad a1 a2 a3 = true) : r = 80 := by
  rw [h]; unfold recV; rw [if_pos hb]
theorem check_good {a0 a1 a2 a3 : Int} {a4 a5 : ByteArray} {a6 : Bool} {l7 : List ByteArray} {l8 : List S56} {r : Int} (h : r = recV a0 a1 a2 a3 a4 a5 a6 l7 l8) (hb : rangeBad a1 a2 a3 = false) : r = if recOk a0 a1 a2 a3 a4 a5 a6 l7 l8 = true then 0 else 80 := by
  rw [h]; unfold recV; rw [if_neg (by rw [hb]; decide)]
theorem ok1 {a0 a1 a2 a3 : Int} {a4 a5 : ByteArray} {a6 : Bool} {l7 : List ByteArray} {l8 : List S56} (h : a0 = 1) : recOk a0 a1 a2 a3 a4 a5 a6 l7 l8 = ((listedB l7 l8 && decide (0 < a1)) && bareB a4 a5 a6) := by
  subst h; rfl
theorem ok2 {a0 a1 a2 a3 : Int} {a4 a5 : ByteArray} {a6 : Bool} {l7 : List ByteArray} {l8 : List S56} (h : a0 = 2) : recOk a0 a1 a2 a3 a4 a5 a6 l7 l8 = (noneB l7 l8 && (decide (0 < a1) && (a3 == 0 && bareB a4 a5 a6))) := by
  subst h; rfl
theorem ok5 {a0 a1 a2 a3 : Int} {a4 a5 : ByteArray} {a6 : Bool} {l7 : List ByteArray} {l8 : List S56} (h : a0 = 5) : recOk a0 a1 a2 a3 a4 a5 a6 l7 l8 = (noneB l7 l8 && (decide (0 < a1) && (decide (0 < a2) && (a3 == 0 && bareB a4 a5 a6)))) := by
  subst h; rfl
theorem ok6 {a0 a1 a2 a3 : Int} {a4 a5 : ByteArray} {a6 : Bool} {l7 : List ByteArray} {l8 : List S56} (h : a0 = 6) : recOk a0 a1 a2 a3 a4 a5 a6 l7 l8 = (noneB l7 l8 && (decide (0 < a1) && (a2 == 0 && (a3 == 0 && bareB a4 a5 a6)))) := by
  subst h; rfl
theorem ok3 {a0 a1 a2 a3 : Int} {a4 a5 : ByteArray} {a6 : Bool} {l7 : List ByteArray} {l8 : List S56} (h : a0 = 3) : recOk a0 a1 a2 a3 a4 a5 a6 l7 l8 = (noneB l7 l8 && (decide (0 < a2) && (keyB a4 && (decide (a5.size ≤ 2052) && (!(a6 && !a5.toList.isEmpty) && (a1 == 0 && a3 == 0)))))) := by
  subst h; rfl
theorem ok4 {a0 a1 a2 a3 : Int} {a4 a5 : ByteArray} {a6 : Bool} {l7 : List ByteArray} {l8 : List S56} (h : a0 = 4) : recOk a0 a1 a2 a3 a4 a5 a6 l7 l8 = (noneB l7 l8 && (a1 == 0 && (a3 == 0 && bareB a4 a5 a6))) := by
  subst h; rfl
theorem ok7 {a0 a1 a2 a3 : Int} {a4 a5 : ByteArray} {a6 : Bool} {l7 : List ByteArray} {l8 : List S56} (h : a0 = 7) : recOk a0 a1 a2 a3 a4 a5 a6 l7 l8 = (noneB l7 l8 && (decide (0 < a2) && (a1 == 0 && (a3 == 0 && bareB a4 a5 a6)))) := by
  subst h; rfl
theorem ok0 {a0 a1 a2 a3 : Int} {a4 a5 : ByteArray} {a6 : Bool} {l7 : List ByteArray} {l8 : List S56} (k1 : ¬ a0 = 1) (k2 : ¬ a0 = 2) (k5 : ¬ a0 = 5) (k6 : ¬ a0 = 6) (k3 : ¬ a0 = 3) (k4 : ¬ a0 = 4) (k7 : ¬ a0 = 7) : recOk a0 a1 a2 a3 a4 a5 a6 l7 l8 = false := by
  unfold recOk; rw [if_neg k1, if_neg k2, if_neg k5, if_neg k6, if_neg k3, if_neg k4, if_neg k7, Bool.and_false]
theorem none_eq (l7 : List ByteArray) (l8 : List S56) (h7 : l7.length < 8796093022208) (h8 : l8.length < 8796093022208) : (wrap64 ((l7.length : Int) + (l8.length : Int)) == 0) = noneB l7 l8 := by
  rw [w64 _ (by omega) (by omega)]
  unfold noneB
  cases l7 <;> cases l8 <;> simp <;> omega
theorem emp (a : ByteArray) : ((⟨#[]⟩ : ByteArray).toList == a.toList) = a.toList.isEmpty := by
  have he : ((⟨#[]⟩ : ByteArray).toList = ([] : List UInt8)) := by simp [ByteArray.toList, ByteArray.toList.loop, ByteArray.size]
  rw [he]; cases a.toList <;> rfl
theorem beq0 (a : Int) : ((0 : Int) == a) = (a == 0) := by rw [Bool.eq_iff_iff, beq_iff_eq, beq_iff_eq]; exact eq_comm
theorem ne1 {a0 a1 a2 a3 : Int} {a4 a5 : ByteArray} {a6 : Bool} {l7 : List ByteArray} {l8 : List S56} {t0 t1 t2 t3 : Int} {t4 t5 : ByteArray} {t6 : Bool} (h : record_bare.f a0 a1 a2 a3 a4 a5 a6 l7 l8 = some (t0, t1, t2, t3, t4, t5, t6)) : (!(t0 == a0) || (!(t1 == a1) || (!(t2 == a2) || (!(t4.toList == a4.toList) || (!(t5.toList == a5.toList) || (!(t6 == a6))))))) = !bareB a4 a5 a6 := by
  simp only [record_bare.f, Option.some.injEq, Prod.mk.injEq] at h
  obtain ⟨rfl, rfl, rfl, rfl, rfl, rfl, rfl⟩ := h
  simp only [emp, beq0, beq_self_eq_true, Bool.not_true, Bool.false_or, bareB, Bool.not_and, Bool.not_not]
  try (cases a6 <;> simp)
theorem ne2 {a0 a1 a2 a3 : Int} {a4 a5 : ByteArray} {a6 : Bool} {l7 : List ByteArray} {l8 : List S56} {t0 t1 t2 t3 : Int} {t4 t5 : ByteArray} {t6 : Bool} (h : record_bare.f a0 a1 a2 a3 a4 a5 a6 l7 l8 = some (t0, t1, t2, t3, t4, t5, t6)) : (!(t0 == a0) || (!(t1 == a1) || (!(t2 == a2) || (!(t3 == a3) || (!(t4.toList == a4.toList) || (!(t5.toList == a5.toList) || (!(t6 == a6)))))))) = !(a3 == 0 && bareB a4 a5 a6) := by
  simp only [record_bare.f, Option.some.injEq, Prod.mk.injEq] at h
  obtain ⟨rfl, rfl, rfl, rfl, rfl, rfl, rfl⟩ := h
  simp only [emp, beq0, beq_self_eq_true, Bool.not_true, Bool.false_or, bareB, Bool.not_and, Bool.not_not]
  try (cases a6 <;> simp)
theorem ne5 {a0 a1 a2 a3 : Int} {a4 a5 : ByteArray} {a6 : Bool} {l7 : List ByteArray} {l8 : List S56} {t0 t1 t2 t3 : Int} {t4 t5 : ByteArray} {t6 : Bool} (h : record_bare.f a0 a1 a2 a3 a4 a5 a6 l7 l8 = some (t0, t1, t2, t3, t4, t5, t6)) : (!(t0 == a0) || (!(t1 == a1) || (!(t2 == a2) || (!(t3 == a3) || (!(t4.toList == a4.toList) || (!(t5.toList == a5.toList) || (!(t6 == a6)))))))) = !(a3 == 0 && bareB a4 a5 a6) := by
  simp only [record_bare.f, Option.some.injEq, Prod.mk.injEq] at h
  obtain ⟨rfl, rfl, rfl, rfl, rfl, rfl, rfl⟩ := h
  simp only [emp, beq0, beq_self_eq_true, Bool.not_true, Bool.false_or, bareB, Bool.not_and, Bool.not_not]
  try (cases a6 <;> simp)
theorem ne6 {a0 a1 a2 a3 : Int} {a4 a5 : ByteArray} {a6 : Bool} {l7 : List ByteArray} {l8 : List S56} {t0 t1 t2 t3 : Int} {t4 t5 : ByteArray} {t6 : Bool} (h : record_bare.f a0 a1 a2 a3 a4 a5 a6 l7 l8 = some (t0, t1, t2, t3, t4, t5, t6)) : (!(t0 == a0) || (!(t1 == a1) || (!(0 == a2) || (!(t3 == a3) || (!(t4.toList == a4.toList) || (!(t5.toList == a5.toList) || (!(t6 == a6)))))))) = !(a2 == 0 && (a3 == 0 && bareB a4 a5 a6)) := by
  simp only [record_bare.f, Option.some.injEq, Prod.mk.injEq] at h
  obtain ⟨rfl, rfl, rfl, rfl, rfl, rfl, rfl⟩ := h
  simp only [emp, beq0, beq_self_eq_true, Bool.not_true, Bool.false_or, bareB, Bool.not_and, Bool.not_not]
  try (cases a6 <;> simp)
theorem ne3 {a0 a1 a2 a3 : Int} {a4 a5 : ByteArray} {a6 : Bool} {l7 : List ByteArray} {l8 : List S56} {t0 t1 t2 t3 : Int} {t4 t5 : ByteArray} {t6 : Bool} (h : record_bare.f a0 a1 a2 a3 a4 a5 a6 l7 l8 = some (t0, t1, t2, t3, t4, t5, t6)) : (!(0 == a1) || (!(0 == a3))) = !(a1 == 0 && a3 == 0) := by
  simp only [record_bare.f, Option.some.injEq, Prod.mk.injEq] at h
  obtain ⟨rfl, rfl, rfl, rfl, rfl, rfl, rfl⟩ := h
  simp only [emp, beq0, beq_self_eq_true, Bool.not_true, Bool.false_or, bareB, Bool.not_and, Bool.not_not]
  try (cases a6 <;> simp)
theorem ne4 {a0 a1 a2 a3 : Int} {a4 a5 : ByteArray} {a6 : Bool} {l7 : List ByteArray} {l8 : List S56} {t0 t1 t2 t3 : Int} {t4 t5 : ByteArray} {t6 : Bool} (h : record_bare.f a0 a1 a2 a3 a4 a5 a6 l7 l8 = some (t0, t1, t2, t3, t4, t5, t6)) : (!(t0 == a0) || (!(0 == a1) || (!(t2 == a2) || (!(t3 == a3) || (!(t4.toList == a4.toList) || (!(t5.toList == a5.toList) || (!(t6 == a6)))))))) = !(a1 == 0 && (a3 == 0 && bareB a4 a5 a6)) := by
  simp only [record_bare.f, Option.some.injEq, Prod.mk.injEq] at h
  obtain ⟨rfl, rfl, rfl, rfl, rfl, rfl, rfl⟩ := h
  simp only [emp, beq0, beq_self_eq_true, Bool.not_true, Bool.false_or, bareB, Bool.not_and, Bool.not_not]
  try (cases a6 <;> simp)
theorem ne7 {a0 a1 a2 a3 : Int} {a4 a5 : ByteArray} {a6 : Bool} {l7 : List ByteArray} {l8 : List S56} {t0 t1 t2 t3 : Int} {t4 t5 : ByteArray} {t6 : Bool} (h : record_bare.f a0 a1 a2 a3 a4 a5 a6 l7 l8 = some (t0, t1, t2, t3, t4, t5, t6)) : (!(t0 == a0) || (!(0 == a1) || (!(t2 == a2) || (!(t3 == a3) || (!(t4.toList == a4.toList) || (!(t5.toList == a5.toList) || (!(t6 == a6)))))))) = !(a1 == 0 && (a3 == 0 && bareB a4 a5 a6)) := by
  simp only [record_bare.f, Option.some.injEq, Prod.mk.injEq] at h
  obtain ⟨rfl, rfl, rfl, rfl, rfl, rfl, rfl⟩ := h
  simp only [emp, beq0, beq_self_eq_true, Bool.not_true, Bool.false_or, bareB, Bool.not_and, Bool.not_not]
  try (cases a6 <;> simp)
def record_Check.T3 : Bool × List (List Nat × List Nat) := (true, [([], []), ([0], [0]), ([], []), ([2], [2]), ([3], [3]), ([], []), ([5], [5]), ([6], [6]), ([4, 7], [4, 7]), ([8], [8]), ([], []), ([10, 1, 1, 0, 1, 10], [1, 10]), ([9, 11, 0, 1, 2, 3, 4, 5, 6, 7, 8, 9, 10, 11], [9])])
def record_Check.B3 : List Nat := [0, 1, 0, 4, 12, 0, 32, 96, 252, 508, 0, 1027, 4095]
theorem record_Check.tab3 : rtab .any (opsOf Try.f35 3) = record_Check.T3 := by kernel_rfl
theorem record_Check.bits3 : waitsOk record_Check.T3.2 record_Check.B3 = true := by kernel_rfl
def record_Check.T7 : Bool × List (List Nat × List Nat) := (true, [([], []), ([0], [0]), ([], []), ([2], [2]), ([3, 3], [3]), ([4], [4]), ([5, 4], [4, 5]), ([6, 4], [4, 6]), ([4, 7], [4, 7]), ([0, 1], []), ([9, 1, 4, 0, 1], [1, 9]), ([8, 10, 0, 1, 2, 3, 4, 5, 6, 7, 8, 9, 10], [8])])
def record_Check.B7 : List Nat := [0, 1, 0, 4, 12, 28, 60, 124, 252, 3, 543, 2047]
theorem record_Check.tab7 : rtab .any (opsOf Try.f35 7) = record_Check.T7 := by kernel_rfl
theorem record_Check.bits7 : waitsOk record_Check.T7.2 record_Check.B7 = true := by kernel_rfl
def record_Check.T13 : Bool × List (List Nat × List Nat) := (true, [([], []), ([0], [0]), ([1], [1]), ([2, 1], [1, 2]), ([3, 1], [1, 3]), ([1, 4], [1, 4]), ([], []), ([6, 1], [6]), ([5, 7, 0, 1, 2, 3, 4, 5, 6, 7], [0, 5])])
def record_Check.B13 : List Nat := [0, 1, 3, 7, 15, 31, 0, 67, 255]
theorem record_Check.tab13 : rtab .any (opsOf Try.f35 13) = record_Check.T13 := by kernel_rfl
theorem record_Check.bits13 : waitsOk record_Check.T13.2 record_Check.B13 = true := by kernel_rfl
def record_Check.T20 : Bool × List (List Nat × List Nat) := (true, [([], []), ([0], [0]), ([1], [1]), ([2, 1], [1, 2]), ([3, 1], [1, 3]), ([1, 4], [1, 4]), ([], []), ([6, 1], [6]), ([5, 7, 0, 1, 2, 3, 4, 5, 6, 7], [0, 5])])
def record_Check.B20 : List Nat := [0, 1, 3, 7, 15, 31, 0, 67, 255]
theorem record_Check.tab20 : rtab .any (opsOf Try.f35 20) = record_Check.T20 := by kernel_rfl
theorem record_Check.bits20 : waitsOk record_Check.T20.2 record_Check.B20 = true := by kernel_rfl
set_option maxHeartbeats 8000000 in
set_option maxRecDepth 100000 in
theorem record_Check.calls (a0_0 : Int) (a0_1 : Int) (a0_2 : Int) (a0_3 : Int) (a0_4 : ByteArray) (a0_5 : ByteArray) (a0_6 : Bool) (A0_7 : Option Addr) (c0_7 : Nat) (l0_7 : List ByteArray) (A0_8 : Option Addr) (c0_8 : Nat) (l0_8 : List (S56)) (r : Int) (w : World) (hr0_7 : Kd.C Kd.string w A0_7 l0_7.length l0_7) (hc0_7 : l0_7.length ≤ c0_7) (hr0_8 : Kd.C k56 w A0_8 l0_8.length l0_8) (hc0_8 : l0_8.length ≤ c0_8) (h : record_Check.f a0_0 a0_1 a0_2 a0_3 a0_4 a0_5 a0_6 l0_7 l0_8 = some r) :
    Calls Try.prog 35 #[.agg #[.int .i64 a0_0, .int .i64 a0_1, .int .i64 a0_2, .int .i64 a0_3, .string a0_4, .string a0_5, .bool a0_6, .slice A0_7 l0_7.length c0_7, .slice A0_8 l0_8.length c0_8]] w fun e w' => e = .returned (.int .i64 r) ∧ Below w.heap.size w w' := by
 have hu35 := Try.underlying35
 have hu129 := Try.underlying129
 have HR0_7 := Aside0.mk hr0_7
 have HC0_7 := Aside0.mk hc0_7
 have HR0_8 := Aside0.mk hr0_8
 have HC0_8 := Aside0.mk hc0_8
 have HSM := Aside0.mk (check_small h)
 have HRV := Aside0.mk (check_val h)
 clear hr0_7 hc0_7 hr0_8 hc0_8 h
 have HB := Aside0.mk (Below.refl w.heap.size w)
 go_enter Try.func35, Try.ntmps35
 go_upto_region 1 with (first | ((with_reducible refine gate_dst (N := 1) rfl ?_); (try (refine gate_guard (by rfl) ?_; dsimp only)); refine box_event ?hg (N := 1) ?hd (cs := #[.int .i64 a0_0, .int .i64 a0_1, .int .i64 a0_2, .int .i64 a0_3, .string a0_4, .string a0_5, .bool a0_6, .slice A0_7 l0_7.length c0_7, .slice A0_8 l0_8.length c0_8]) (t := 35) ?hr ?_; (case hd => rfl); (case hg => rfl); (case hr => first | (go_simp; done) | (go_simp; rfl)); intro gb103 hg w3 hbox hb; have n0_ := Aside0.mk (below_step (by repeat (first | (with_reducible first | exact HB.out | apply below_alloc | apply pw_below_drewN | apply below_drew1) | exact HB.out)) hb); have n1_ := Aside0.mk (hbox); have n2_ := Aside0.mk ((by rw [hg]; exact (below_size (by repeat (first | (with_reducible first | exact HB.out | apply below_alloc | apply pw_below_drewN | apply below_drew1) | exact HB.out))) : w.heap.size ≤ gb103)); have n3_ := Aside0.mk ((by rw [hg]; exact (below_size (by repeat (first | (with_reducible first | exact HB.out | apply below_alloc | apply pw_below_drewN | apply below_drew1) | exact HB.out))) : w.heap.size ≤ gb103)); clear HB; have HB := n0_; have BK103 := n1_; have GW103 := n2_; have GE103 := n3_; clear n0_ n1_ n2_ n3_; clear hb hbox hg))
 (try simp only [Act.put, List.setIfInBounds_toArray, List.set_cons_zero, List.set_cons_succ])
 go_cut [32] (fun v32 wc => v32 = .bool (rangeBad a0_1 a0_2 a0_3) ∧ Aside0 (wc.heap[gb103]? = some (.cells #[.int .i64 a0_0, .int .i64 a0_1, .int .i64 a0_2, .int .i64 a0_3, .string a0_4, .string a0_5, .bool a0_6, .slice A0_7 l0_7.length c0_7, .slice A0_8 l0_8.length c0_8] 35 (0, 0))) ∧ Aside0 (Below w.heap.size w wc))
 case first =>
  by_cases c0 : a0_1 < 0
  · have cb0 : decide (a0_1 < 0) = true := decide_eq_true c0
    clear c0
    have HK := Aside0.mk (show rangeBad a0_1 a0_2 a0_3 = true by unfold rangeBad; simp only [cb0, Bool.false_or, Bool.true_or, Bool.or_true, Bool.or_false])
    have hcza0y_0 : w3.cell? ⟨gb103, 0, none⟩ = some (.int .i64 a0_0) := (blk_cell BK103.out 0).trans rfl
    have hcza0y_1 : w3.cell? ⟨gb103, 1, none⟩ = some (.int .i64 a0_1) := (blk_cell BK103.out 1).trans rfl
    have hcza0y_2 : w3.cell? ⟨gb103, 2, none⟩ = some (.int .i64 a0_2) := (blk_cell BK103.out 2).trans rfl
    have hcza0y_3 : w3.cell? ⟨gb103, 3, none⟩ = some (.int .i64 a0_3) := (blk_cell BK103.out 3).trans rfl
    have hcza0y_4 : w3.cell? ⟨gb103, 4, none⟩ = some (.string a0_4) := (blk_cell BK103.out 4).trans rfl
    have hcza0y_5 : w3.cell? ⟨gb103, 5, none⟩ = some (.string a0_5) := (blk_cell BK103.out 5).trans rfl
    have hcza0y_6 : w3.cell? ⟨gb103, 6, none⟩ = some (.bool a0_6) := (blk_cell BK103.out 6).trans rfl
    have hcza0y_7 : w3.cell? ⟨gb103, 7, none⟩ = some (.slice A0_7 l0_7.length c0_7) := (blk_cell BK103.out 7).trans rfl
    have hcza0y_8 : w3.cell? ⟨gb103, 8, none⟩ = some (.slice A0_8 l0_8.length c0_8) := (blk_cell BK103.out 8).trans rfl
    have hfza0y_0 := blk_frozen BK103.out 0
    have hfza0y_1 := blk_frozen BK103.out 1
    have hfza0y_2 := blk_frozen BK103.out 2
    have hfza0y_3 := blk_frozen BK103.out 3
    have hfza0y_4 := blk_frozen BK103.out 4
    have hfza0y_5 := blk_frozen BK103.out 5
    have hfza0y_6 := blk_frozen BK103.out 6
    have hfza0y_7 := blk_frozen BK103.out 7
    have hfza0y_8 := blk_frozen BK103.out 8
    go_wp2
    go_meet
    case rel => exact ⟨by rw [HK.out], ⟨by (with_reducible repeat (first | refine blk_drewN ?_ _ | refine blk_drew ?_ | refine blk_alloc ?_ _)); exact BK103.out⟩, ⟨by repeat (first | (with_reducible first | exact HB.out | apply below_alloc | apply pw_below_drewN | apply below_drew1 | refine below_set ?_ GE103.out) | exact HB.out)⟩⟩
  have cb0 : decide (a0_1 < 0) = false := decide_eq_false c0
  clear c0
  by_cases c1 : 1125899906842623 < a0_1
  · have cb1 : decide (1125899906842623 < a0_1) = true := decide_eq_true c1
    clear c1
    have HK := Aside0.mk (show rangeBad a0_1 a0_2 a0_3 = true by unfold rangeBad; simp only [cb0, cb1, Bool.false_or, Bool.true_or, Bool.or_true, Bool.or_false])
    have hcza1y_0 : w3.cell? ⟨gb103, 0, none⟩ = some (.int .i64 a0_0) := (blk_cell BK103.out 0).trans rfl
    have hcza1y_1 : w3.cell? ⟨gb103, 1, none⟩ = some (.int .i64 a0_1) := (blk_cell BK103.out 1).trans rfl
    have hcza1y_2 : w3.cell? ⟨gb103, 2, none⟩ = some (.int .i64 a0_2) := (blk_cell BK103.out 2).trans rfl
    have hcza1y_3 : w3.cell? ⟨gb103, 3, none⟩ = some (.int .i64 a0_3) := (blk_cell BK103.out 3).trans rfl
    have hcza1y_4 : w3.cell? ⟨gb103, 4, none⟩ = some (.string a0_4) := (blk_cell BK103.out 4).trans rfl
    have hcza1y_5 : w3.cell? ⟨gb103, 5, none⟩ = some (.string a0_5) := (blk_cell BK103.out 5).trans rfl
    have hcza1y_6 : w3.cell? ⟨gb103, 6, none⟩ = some (.bool a0_6) := (blk_cell BK103.out 6).trans rfl
    have hcza1y_7 : w3.cell? ⟨gb103, 7, none⟩ = some (.slice A0_7 l0_7.length c0_7) := (blk_cell BK103.out 7).trans rfl
    have hcza1y_8 : w3.cell? ⟨gb103, 8, none⟩ = some (.slice A0_8 l0_8.length c0_8) := (blk_cell BK103.out 8).trans rfl
    have hfza1y_0 := blk_frozen BK103.out 0
    have hfza1y_1 := blk_frozen BK103.out 1
    have hfza1y_2 := blk_frozen BK103.out 2
    have hfza1y_3 := blk_frozen BK103.out 3
    have hfza1y_4 := blk_frozen BK103.out 4
    have hfza1y_5 := blk_frozen BK103.out 5
    have hfza1y_6 := blk_frozen BK103.out 6
    have hfza1y_7 := blk_frozen BK103.out 7
    have hfza1y_8 := blk_frozen BK103.out 8
    go_wp2
    go_meet
    case rel => exact ⟨by rw [HK.out], ⟨by (with_reducible repeat (first | refine blk_drewN ?_ _ | refine blk_drew ?_ | refine blk_alloc ?_ _)); exact BK103.out⟩, ⟨by repeat (first | (with_reducible first | exact HB.out | apply below_alloc | apply pw_below_drewN | apply below_drew1 | refine below_set ?_ GE103.out) | exact HB.out)⟩⟩
  have cb1 : decide (1125899906842623 < a0_1) = false := decide_eq_false c1
  clear c1
  by_cases c2 : a0_2 < 0
  · have cb2 : decide (a0_2 < 0) = true := decide_eq_true c2
    clear c2
    have HK := Aside0.mk (show rangeBad a0_1 a0_2 a0_3 = true by unfold rangeBad; simp only [cb0, cb1, cb2, Bool.false_or, Bool.true_or, Bool.or_true, Bool.or_false])
    have hcza2y_0 : w3.cell? ⟨gb103, 0, none⟩ = some (.int .i64 a0_0) := (blk_cell BK103.out 0).trans rfl
    have hcza2y_1 : w3.cell? ⟨gb103, 1, none⟩ = some (.int .i64 a0_1) := (blk_cell BK103.out 1).trans rfl
    have hcza2y_2 : w3.cell? ⟨gb103, 2, none⟩ = some (.int .i64 a0_2) := (blk_cell BK103.out 2).trans rfl
    have hcza2y_3 : w3.cell? ⟨gb103, 3, none⟩ = some (.int .i64 a0_3) := (blk_cell BK103.out 3).trans rfl
    have hcza2y_4 : w3.cell? ⟨gb103, 4, none⟩ = some (.string a0_4) := (blk_cell BK103.out 4).trans rfl
    have hcza2y_5 : w3.cell? ⟨gb103, 5, none⟩ = some (.string a0_5) := (blk_cell BK103.out 5).trans rfl
    have hcza2y_6 : w3.cell? ⟨gb103, 6, none⟩ = some (.bool a0_6) := (blk_cell BK103.out 6).trans rfl
    have hcza2y_7 : w3.cell? ⟨gb103, 7, none⟩ = some (.slice A0_7 l0_7.length c0_7) := (blk_cell BK103.out 7).trans rfl
    have hcza2y_8 : w3.cell? ⟨gb103, 8, none⟩ = some (.slice A0_8 l0_8.length c0_8) := (blk_cell BK103.out 8).trans rfl
    have hfza2y_0 := blk_frozen BK103.out 0
    have hfza2y_1 := blk_frozen BK103.out 1
    have hfza2y_2 := blk_frozen BK103.out 2
    have hfza2y_3 := blk_frozen BK103.out 3
    have hfza2y_4 := blk_frozen BK103.out 4
    have hfza2y_5 := blk_frozen BK103.out 5
    have hfza2y_6 := blk_frozen BK103.out 6
    have hfza2y_7 := blk_frozen BK103.out 7
    have hfza2y_8 := blk_frozen BK103.out 8
    go_wp2
    go_meet
    case rel => exact ⟨by rw [HK.out], ⟨by (with_reducible repeat (first | refine blk_drewN ?_ _ | refine blk_drew ?_ | refine blk_alloc ?_ _)); exact BK103.out⟩, ⟨by repeat (first | (with_reducible first | exact HB.out | apply below_alloc | apply pw_below_drewN | apply below_drew1 | refine below_set ?_ GE103.out) | exact HB.out)⟩⟩
  have cb2 : decide (a0_2 < 0) = false := decide_eq_false c2
  clear c2
  by_cases c3 : 1125899906842624 < a0_2
  · have cb3 : decide (1125899906842624 < a0_2) = true := decide_eq_true c3
    clear c3
    have HK := Aside0.mk (show rangeBad a0_1 a0_2 a0_3 = true by unfold rangeBad; simp only [cb0, cb1, cb2, cb3, Bool.false_or, Bool.true_or, Bool.or_true, Bool.or_false])
    have hcza3y_0 : w3.cell? ⟨gb103, 0, none⟩ = some (.int .i64 a0_0) := (blk_cell BK103.out 0).trans rfl
    have hcza3y_1 : w3.cell? ⟨gb103, 1, none⟩ = some (.int .i64 a0_1) := (blk_cell BK103.out 1).trans rfl
    have hcza3y_2 : w3.cell? ⟨gb103, 2, none⟩ = some (.int .i64 a0_2) := (blk_cell BK103.out 2).trans rfl
    have hcza3y_3 : w3.cell? ⟨gb103, 3, none⟩ = some (.int .i64 a0_3) := (blk_cell BK103.out 3).trans rfl
    have hcza3y_4 : w3.cell? ⟨gb103, 4, none⟩ = some (.string a0_4) := (blk_cell BK103.out 4).trans rfl
    have hcza3y_5 : w3.cell? ⟨gb103, 5, none⟩ = some (.string a0_5) := (blk_cell BK103.out 5).trans rfl
    have hcza3y_6 : w3.cell? ⟨gb103, 6, none⟩ = some (.bool a0_6) := (blk_cell BK103.out 6).trans rfl
    have hcza3y_7 : w3.cell? ⟨gb103, 7, none⟩ = some (.slice A0_7 l0_7.length c0_7) := (blk_cell BK103.out 7).trans rfl
    have hcza3y_8 : w3.cell? ⟨gb103, 8, none⟩ = some (.slice A0_8 l0_8.length c0_8) := (blk_cell BK103.out 8).trans rfl
    have hfza3y_0 := blk_frozen BK103.out 0
    have hfza3y_1 := blk_frozen BK103.out 1
    have hfza3y_2 := blk_frozen BK103.out 2
    have hfza3y_3 := blk_frozen BK103.out 3
    have hfza3y_4 := blk_frozen BK103.out 4
    have hfza3y_5 := blk_frozen BK103.out 5
    have hfza3y_6 := blk_frozen BK103.out 6
    have hfza3y_7 := blk_frozen BK103.out 7
    have hfza3y_8 := blk_frozen BK103.out 8
    go_wp2
    go_meet
    case rel => exact ⟨by rw [HK.out], ⟨by (with_reducible repeat (first | refine blk_drewN ?_ _ | refine blk_drew ?_ | refine blk_alloc ?_ _)); exact BK103.out⟩, ⟨by repeat (first | (with_reducible first | exact HB.out | apply below_alloc | apply pw_below_drewN | apply below_drew1 | refine below_set ?_ GE103.out) | exact HB.out)⟩⟩
  have cb3 : decide (1125899906842624 < a0_2) = false := decide_eq_false c3
  clear c3
  by_cases c4 : a0_3 < 0
  · have cb4 : decide (a0_3 < 0) = true := decide_eq_true c4
    clear c4
    have HK := Aside0.mk (show rangeBad a0_1 a0_2 a0_3 = true by unfold rangeBad; simp only [cb0, cb1, cb2, cb3, cb4, Bool.false_or, Bool.true_or, Bool.or_true, Bool.or_false])
    have hcza4y_0 : w3.cell? ⟨gb103, 0, none⟩ = some (.int .i64 a0_0) := (blk_cell BK103.out 0).trans rfl
    have hcza4y_1 : w3.cell? ⟨gb103, 1, none⟩ = some (.int .i64 a0_1) := (blk_cell BK103.out 1).trans rfl
    have hcza4y_2 : w3.cell? ⟨gb103, 2, none⟩ = some (.int .i64 a0_2) := (blk_cell BK103.out 2).trans rfl
    have hcza4y_3 : w3.cell? ⟨gb103, 3, none⟩ = some (.int .i64 a0_3) := (blk_cell BK103.out 3).trans rfl
    have hcza4y_4 : w3.cell? ⟨gb103, 4, none⟩ = some (.string a0_4) := (blk_cell BK103.out 4).trans rfl
    have hcza4y_5 : w3.cell? ⟨gb103, 5, none⟩ = some (.string a0_5) := (blk_cell BK103.out 5).trans rfl
    have hcza4y_6 : w3.cell? ⟨gb103, 6, none⟩ = some (.bool a0_6) := (blk_cell BK103.out 6).trans rfl
    have hcza4y_7 : w3.cell? ⟨gb103, 7, none⟩ = some (.slice A0_7 l0_7.length c0_7) := (blk_cell BK103.out 7).trans rfl
    have hcza4y_8 : w3.cell? ⟨gb103, 8, none⟩ = some (.slice A0_8 l0_8.length c0_8) := (blk_cell BK103.out 8).trans rfl
    have hfza4y_0 := blk_frozen BK103.out 0
    have hfza4y_1 := blk_frozen BK103.out 1
    have hfza4y_2 := blk_frozen BK103.out 2
    have hfza4y_3 := blk_frozen BK103.out 3
    have hfza4y_4 := blk_frozen BK103.out 4
    have hfza4y_5 := blk_frozen BK103.out 5
    have hfza4y_6 := blk_frozen BK103.out 6
    have hfza4y_7 := blk_frozen BK103.out 7
    have hfza4y_8 := blk_frozen BK103.out 8
    go_wp2
    go_meet
    case rel => exact ⟨by rw [HK.out], ⟨by (with_reducible repeat (first | refine blk_drewN ?_ _ | refine blk_drew ?_ | refine blk_alloc ?_ _)); exact BK103.out⟩, ⟨by repeat (first | (with_reducible first | exact HB.out | apply below_alloc | apply pw_below_drewN | apply below_drew1 | refine below_set ?_ GE103.out) | exact HB.out)⟩⟩
  have cb4 : decide (a0_3 < 0) = false := decide_eq_false c4
  clear c4
  have HK := Aside0.mk (show rangeBad a0_1 a0_2 a0_3 = decide (16 ≤ a0_3) by unfold rangeBad; simp only [cb0, cb1, cb2, cb3, cb4, Bool.false_or, Bool.true_or, Bool.or_true, Bool.or_false])
  have hcza5n_0 : w3.cell? ⟨gb103, 0, none⟩ = some (.int .i64 a0_0) := (blk_cell BK103.out 0).trans rfl
  have hcza5n_1 : w3.cell? ⟨gb103, 1, none⟩ = some (.int .i64 a0_1) := (blk_cell BK103.out 1).trans rfl
  have hcza5n_2 : w3.cell? ⟨gb103, 2, none⟩ = some (.int .i64 a0_2) := (blk_cell BK103.out 2).trans rfl
  have hcza5n_3 : w3.cell? ⟨gb103, 3, none⟩ = some (.int .i64 a0_3) := (blk_cell BK103.out 3).trans rfl
  have hcza5n_4 : w3.cell? ⟨gb103, 4, none⟩ = some (.string a0_4) := (blk_cell BK103.out 4).trans rfl
  have hcza5n_5 : w3.cell? ⟨gb103, 5, none⟩ = some (.string a0_5) := (blk_cell BK103.out 5).trans rfl
  have hcza5n_6 : w3.cell? ⟨gb103, 6, none⟩ = some (.bool a0_6) := (blk_cell BK103.out 6).trans rfl
  have hcza5n_7 : w3.cell? ⟨gb103, 7, none⟩ = some (.slice A0_7 l0_7.length c0_7) := (blk_cell BK103.out 7).trans rfl
  have hcza5n_8 : w3.cell? ⟨gb103, 8, none⟩ = some (.slice A0_8 l0_8.length c0_8) := (blk_cell BK103.out 8).trans rfl
  have hfza5n_0 := blk_frozen BK103.out 0
  have hfza5n_1 := blk_frozen BK103.out 1
  have hfza5n_2 := blk_frozen BK103.out 2
  have hfza5n_3 := blk_frozen BK103.out 3
  have hfza5n_4 := blk_frozen BK103.out 4
  have hfza5n_5 := blk_frozen BK103.out 5
  have hfza5n_6 := blk_frozen BK103.out 6
  have hfza5n_7 := blk_frozen BK103.out 7
  have hfza5n_8 := blk_frozen BK103.out 8
  go_wp2
  go_meet
  case rel => exact ⟨by rw [HK.out], ⟨by (with_reducible repeat (first | refine blk_drewN ?_ _ | refine blk_drew ?_ | refine blk_alloc ?_ _)); exact BK103.out⟩, ⟨by repeat (first | (with_reducible first | exact HB.out | apply below_alloc | apply pw_below_drewN | apply below_drew1 | refine below_set ?_ GE103.out) | exact HB.out)⟩⟩
 case rest =>
  obtain ⟨rfl, BK103, HB⟩ := hcut
  by_cases hrb : rangeBad a0_1 a0_2 a0_3 = true
  · rw [hrb]
    have HR80 := Aside0.mk (check_bad HRV.out hrb)
    clear hrb
    go_wp2
    go_ret
    exact ⟨by rw [HR80.out]; rfl, by repeat (first | (with_reducible first | exact HB.out | apply below_alloc | apply pw_below_drewN | apply below_drew1 | refine below_set ?_ GE103.out) | exact HB.out)⟩
  replace hrb : rangeBad a0_1 a0_2 a0_3 = false := by simpa using hrb
  rw [hrb]
  have HRV2 := Aside0.mk (check_good HRV.out hrb)
  clear hrb HRV
  obtain ⟨t104, t105, t106, t107, t108, t109, t110, A160⟩ : ∃ t104 t105 t106 t107 t108 t109 t110, record_bare.f a0_0 a0_1 a0_2 a0_3 a0_4 a0_5 a0_6 l0_7 l0_8 = some (t104, t105, t106, t107, t108, t109, t110) := ⟨_, _, _, _, _, _, _, rfl⟩
  have A16 := Aside0.mk A160
  clear A160
  try go_wp2
  have n0_ := Aside0.mk (blk_drew BK103.out)
  have n1_ := Aside0.mk (below_drew1 HB.out)
  clear BK103
  clear HB
  have BK103 := n0_
  have HB := n1_
  clear n0_ n1_
  refine start_ (n := 13) (S := fun w' => w'.cell? ⟨gb103, 0, none⟩ = some (.int .i64 a0_0) ∧ w'.cell? ⟨gb103, 1, none⟩ = some (.int .i64 a0_1) ∧ w'.cell? ⟨gb103, 2, none⟩ = some (.int .i64 a0_2) ∧ w'.cell? ⟨gb103, 3, none⟩ = some (.int .i64 a0_3) ∧ w'.cell? ⟨gb103, 4, none⟩ = some (.string a0_4) ∧ w'.cell? ⟨gb103, 5, none⟩ = some (.string a0_5) ∧ w'.cell? ⟨gb103, 6, none⟩ = some (.bool a0_6) ∧ w'.cell? ⟨gb103, 7, none⟩ = some (.slice A0_7 l0_7.length c0_7) ∧ w'.cell? ⟨gb103, 8, none⟩ = some (.slice A0_8 l0_8.length c0_8)) (ds := []) #[false, false, false, false, false, false, false, false, false, false, false, false, false] (by kernel_rfl) rfl rfl ⟨(blk_cell BK103.out 0).trans rfl, (blk_cell BK103.out 1).trans rfl, (blk_cell BK103.out 2).trans rfl, (blk_cell BK103.out 3).trans rfl, (blk_cell BK103.out 4).trans rfl, (blk_cell BK103.out 5).trans rfl, (blk_cell BK103.out 6).trans rfl, (blk_cell BK103.out 7).trans rfl, (blk_cell BK103.out 8).trans rfl⟩ (fun hHeld => ?_); refine with_tabW record_Check.tab3 record_Check.bits3 (fun HT_ HW_ => ?_)
  generalize wc.drew = w22 at BK103 HB hHeld ⊢
  refine pure_ (i := 2) (N := some 35) (v := ?_) (a' := ?_) #[false, false, true, false, false, false, false, false, false, false, false, false, false] rfl rfl (any_of HT_.out (by kernel_rfl)) (fun _ _ _ h => h) (Or.inl ⟨by rfl, ?_⟩) ?_ ?_
  rotate_left
  ·intro w'
   go_simp
   with_reducible rfl
  rotate_left
  ·simp only [Act.put, List.setIfInBounds_toArray, List.set_cons_zero, List.set_cons_succ, i64_w, i32_w]
   rfl
  refine pure_ (i := 5) (N := some 38) (v := ?_) (a' := ?_) #[false, false, true, false, false, true, false, false, false, false, false, false, false] rfl rfl (any_of HT_.out (by kernel_rfl)) (fun _ _ _ h => h) (Or.inl ⟨by rfl, ?_⟩) ?_ ?_
  rotate_left
  ·intro w'
   go_simp
   with_reducible rfl
  rotate_left
  ·simp only [Act.put, List.setIfInBounds_toArray, List.set_cons_zero, List.set_cons_succ, i64_w, i32_w]
   rfl
  refine take_ (i := 0) (N := some 33) (v := ?_) (a' := ?_) #[true, false, true, false, false, true, false, false, false, false, false, false, false] rfl rfl (take_ofW HT_.out HW_.out (by kernel_rfl)) (fun _ _ _ h => h) (Or.inl ⟨by rfl, ?_⟩) hHeld ?_ ?_
  rotate_left
  ·rintro w' ⟨s0, s1, s2, s3, s4, s5, s6, s7, s8⟩
   go_simp
   with_reducible rfl
  rotate_left
  ·simp only [Act.put, List.setIfInBounds_toArray, List.set_cons_zero, List.set_cons_succ, i64_w, i32_w]
   rfl
  refine take_ (i := 3) (N := some 36) (v := ?_) (a' := ?_) #[true, false, true, true, false, true, false, false, false, false, false, false, false] rfl rfl (take_ofW HT_.out HW_.out (by kernel_rfl)) (fun _ _ _ h => h) (Or.inl ⟨by rfl, ?_⟩) hHeld ?_ ?_
  rotate_left
  ·rintro w' ⟨s0, s1, s2, s3, s4, s5, s6, s7, s8⟩
   go_simp
   with_reducible rfl
  rotate_left
  ·simp only [Act.put, List.setIfInBounds_toArray, List.set_cons_zero, List.set_cons_succ, i64_w, i32_w]
   rfl
  refine pure_ (i := 4) (N := some 37) (v := ?_) (a' := ?_) #[true, false, true, true, true, true, false, false, false, false, false, false, false] rfl rfl (any_of HT_.out (by kernel_rfl)) (fun _ _ _ h => h) (Or.inl ⟨by rfl, ?_⟩) ?_ ?_
  rotate_left
  ·intro w'
   go_simp
   with_reducible rfl
  rotate_left
  ·simp only [Act.put, List.setIfInBounds_toArray, List.set_cons_zero, List.set_cons_succ, i64_w, i32_w]
   rfl
  refine take_ (i := 6) (N := some 39) (v := ?_) (a' := ?_) #[true, false, true, true, true, true, true, false, false, false, false, false, false] rfl rfl (take_ofW HT_.out HW_.out (by kernel_rfl)) (fun _ _ _ h => h) (Or.inl ⟨by rfl, ?_⟩) hHeld ?_ ?_
  rotate_left
  ·rintro w' ⟨s0, s1, s2, s3, s4, s5, s6, s7, s8⟩
   go_simp
   with_reducible rfl
  rotate_left
  ·simp only [Act.put, List.setIfInBounds_toArray, List.set_cons_zero, List.set_cons_succ, i64_w, i32_w]
   rfl
  refine pure_ (i := 7) (N := some 40) (v := ?_) (a' := ?_) #[true, false, true, true, true, true, true, true, false, false, false, false, false] rfl rfl (any_of HT_.out (by kernel_rfl)) (fun _ _ _ h => h) (Or.inl ⟨by rfl, ?_⟩) ?_ ?_
  rotate_left
  ·intro w'
   go_simp
   with_reducible rfl
  rotate_left
  ·simp only [Act.put, List.setIfInBounds_toArray, List.set_cons_zero, List.set_cons_succ, i64_w, i32_w]
   rfl
  refine pure_ (i := 8) (N := some 41) (v := ?_) (a' := ?_) #[true, false, true, true, true, true, true, true, true, false, false, false, false] rfl rfl (any_of HT_.out (by kernel_rfl)) (fun _ _ _ h => h) (Or.inl ⟨by rfl, ?_⟩) ?_ ?_
  rotate_left
  ·intro w'
   go_simp
   with_reducible rfl
  rotate_left
  ·simp only [Act.put, List.setIfInBounds_toArray, List.set_cons_zero, List.set_cons_succ, i64_w, i32_w]
   rfl
  refine pure_ (i := 9) (N := some 42) (v := ?_) (a' := ?_) #[true, false, true, true, true, true, true, true, true, true, false, false, false] rfl rfl (any_of HT_.out (by kernel_rfl)) (fun _ _ _ h => h) (Or.inl ⟨by rfl, ?_⟩) ?_ ?_
  rotate_left
  ·intro w'
   go_simp
   with_reducible rfl
  rotate_left
  ·simp only [Act.put, List.setIfInBounds_toArray, List.set_cons_zero, List.set_cons_succ, i64_w, i32_w]
   rfl
  refine join_ (σ := Nat) 2 #[true, true, true, true, true, true, true, true, true, true, true, false, false] (fun s_ => [(34, .agg #[.int .i64 t104, .int .i64 t105, .int .i64 t106, .int .i64 t107, .string t108, .string t109, .bool t110]), (3, .pointer (some ⟨s_, 0, none⟩))]) (fun s_ w' => (w'.cell? ⟨gb103, 0, none⟩ = some (.int .i64 a0_0) ∧ w'.cell? ⟨gb103, 1, none⟩ = some (.int .i64 a0_1) ∧ w'.cell? ⟨gb103, 2, none⟩ = some (.int .i64 a0_2) ∧ w'.cell? ⟨gb103, 3, none⟩ = some (.int .i64 a0_3) ∧ w'.cell? ⟨gb103, 4, none⟩ = some (.string a0_4) ∧ w'.cell? ⟨gb103, 5, none⟩ = some (.string a0_5) ∧ w'.cell? ⟨gb103, 6, none⟩ = some (.bool a0_6) ∧ w'.cell? ⟨gb103, 7, none⟩ = some (.slice A0_7 l0_7.length c0_7) ∧ w'.cell? ⟨gb103, 8, none⟩ = some (.slice A0_8 l0_8.length c0_8)) ∧ (w'.heap[gb103]? = some (.cells #[.int .i64 a0_0, .int .i64 a0_1, .int .i64 a0_2, .int .i64 a0_3, .string a0_4, .string a0_5, .bool a0_6, .slice A0_7 l0_7.length c0_7, .slice A0_8 l0_8.length c0_8] 35 (0, 0))) ∧ (w'.heap[s_]? = some (.cells #[.int .i64 0, .int .i64 0, .int .i64 0, .int .i64 0, .string (⟨#[]⟩ : ByteArray), .string (⟨#[]⟩ : ByteArray), .bool false] 129 (0, 0))) ∧ (w.heap.size ≤ s_) ∧ (w.heap.size ≤ s_) ∧ (gb103 ≠ s_) ∧ (s_ ≠ gb103) ∧ (Below w.heap.size w w')) ?_ ?_
  rotate_left
  ·intro hCont
   refine two_ (i := 1) (j := 10) (Ni := some 34) (Nj := some 3) #[true, true, true, true, true, true, true, true, true, true, false, false, false] #[true, false, true, true, true, true, true, true, true, true, true, false, false] rfl rfl rfl rfl (two_of HT_.out (by kernel_rfl)) (by decide) (by decide) (fun K hK => ?_) (fun K hK => ?_)
   ·skip
    refine goes_ Try.func73 (by kernel_rfl) rfl #[.agg #[.int .i64 a0_0, .int .i64 a0_1, .int .i64 a0_2, .int .i64 a0_3, .string a0_4, .string a0_5, .bool a0_6, .slice A0_7 l0_7.length c0_7, .slice A0_8 l0_8.length c0_8]] (by rfl) rfl rfl (by (try simp only [List.map_toArray, List.map_cons, List.map_nil]); first | done | rfl | (simp only [List.length_drop, List.length_take]; rfl)) ?_
    with_reducible refine (record_bare.calls a0_0 a0_1 a0_2 a0_3 a0_4 a0_5 a0_6 _ _ l0_7 _ _ l0_8 t104 t105 t106 t107 t108 t109 t110 _ ?side1 ?side2 ?side3 ?side4 A16.out).mono ?_
    (case side1 => repeat (first | exact (Kd.C_below HR0_7.out HB.out) | (with_reducible refine Kd.C_alloc ?_ _) | (with_reducible refine Kd.C_drewN ?_ _) | (with_reducible refine Kd.C_drew ?_)))
    (case side2 => exact HC0_7.out)
    (case side3 => repeat (first | exact (Kd.C_below HR0_8.out HB.out) | (with_reducible refine Kd.C_alloc ?_ _) | (with_reducible refine Kd.C_drewN ?_ _) | (with_reducible refine Kd.C_drew ?_)))
    (case side4 => exact HC0_8.out)
    rintro e w23 ⟨rfl, hb⟩
    refine ⟨_, rfl, ?_⟩
    have n0_ := Aside0.mk (blk_below (g := gb103) (o := .cells #[.int .i64 a0_0, .int .i64 a0_1, .int .i64 a0_2, .int .i64 a0_3, .string a0_4, .string a0_5, .bool a0_6, .slice A0_7 l0_7.length c0_7, .slice A0_8 l0_8.length c0_8] 35 (0, 0)) (by (with_reducible repeat (first | refine blk_drewN ?_ _ | refine blk_drew ?_ | refine blk_alloc ?_ _)); exact BK103.out) hb)
    have n1_ := Aside0.mk (below_step (by repeat (first | (with_reducible first | exact HB.out | apply below_alloc | apply pw_below_drewN | apply below_drew1 | refine below_set ?_ GE103.out) | exact HB.out)) hb)
    clear BK103
    clear HB
    have BK103 := n0_
    have HB := n1_
    clear n0_ n1_
    (try clear hb)
    (try clear hb2)
    (try clear hk)
    (try clear hi)
    refine hK.out _ _ ⟨(blk_cell BK103.out 0).trans rfl, (blk_cell BK103.out 1).trans rfl, (blk_cell BK103.out 2).trans rfl, (blk_cell BK103.out 3).trans rfl, (blk_cell BK103.out 4).trans rfl, (blk_cell BK103.out 5).trans rfl, (blk_cell BK103.out 6).trans rfl, (blk_cell BK103.out 7).trans rfl, (blk_cell BK103.out 8).trans rfl⟩ (fun hHeld => ?_)
    clear hK K
    refine norm_ (a' := ?_) ?_ ?_
    rotate_left
    ·show Act.put _ (some 34) _ = _
     simp only [Act.put, List.setIfInBounds_toArray, List.set_cons_zero, List.set_cons_succ, i64_w, i32_w]
     rfl
    refine one_ (i := 10) (N := some 3) #[true, true, true, true, true, true, true, true, true, true, true, false, false] rfl rfl (one_of HT_.out (by kernel_rfl)) (by decide) (fun K hK => ?_)
    refine box_step ?hg (N := 3) ?hd (cs := #[.int .i64 0, .int .i64 0, .int .i64 0, .int .i64 0, .string (⟨#[]⟩ : ByteArray), .string (⟨#[]⟩ : ByteArray), .bool false]) (t := 129) ?hr ?_; (case hd => rfl); (case hg => rfl); (case hr => first | (go_simp; done) | (go_simp; rfl))
    intro gb111 hg w24 hbox hb
    have n0_ := Aside0.mk (blk_below (g := gb103) (o := .cells #[.int .i64 a0_0, .int .i64 a0_1, .int .i64 a0_2, .int .i64 a0_3, .string a0_4, .string a0_5, .bool a0_6, .slice A0_7 l0_7.length c0_7, .slice A0_8 l0_8.length c0_8] 35 (0, 0)) (by (with_reducible repeat (first | refine blk_drewN ?_ _ | refine blk_drew ?_ | refine blk_alloc ?_ _)); exact BK103.out) hb)
    have n1_ := Aside0.mk (below_step (by repeat (first | (with_reducible first | exact HB.out | apply below_alloc | apply pw_below_drewN | apply below_drew1 | refine below_set ?_ GE103.out) | exact HB.out)) hb)
    have n2_ := Aside0.mk (hbox)
    have n3_ := Aside0.mk ((by rw [hg]; exact (below_size (by repeat (first | (with_reducible first | exact HB.out | apply below_alloc | apply pw_below_drewN | apply below_drew1 | refine below_set ?_ GE103.out) | exact HB.out))) : w.heap.size ≤ gb111))
    have n4_ := Aside0.mk ((by rw [hg]; exact (below_size (by repeat (first | (with_reducible first | exact HB.out | apply below_alloc | apply pw_below_drewN | apply below_drew1 | refine below_set ?_ GE103.out) | exact HB.out))) : w.heap.size ≤ gb111))
    have n5_ := Aside0.mk ((by rw [hg]; exact Nat.ne_of_lt (blk_lt (g := gb103) (o := .cells #[.int .i64 a0_0, .int .i64 a0_1, .int .i64 a0_2, .int .i64 a0_3, .string a0_4, .string a0_5, .bool a0_6, .slice A0_7 l0_7.length c0_7, .slice A0_8 l0_8.length c0_8] 35 (0, 0)) (by (with_reducible repeat (first | refine blk_drewN ?_ _ | refine blk_drew ?_ | refine blk_alloc ?_ _)); exact BK103.out)) : gb103 ≠ gb111))
    have n6_ := Aside0.mk ((by rw [hg]; exact Nat.ne_of_gt (blk_lt (g := gb103) (o := .cells #[.int .i64 a0_0, .int .i64 a0_1, .int .i64 a0_2, .int .i64 a0_3, .string a0_4, .string a0_5, .bool a0_6, .slice A0_7 l0_7.length c0_7, .slice A0_8 l0_8.length c0_8] 35 (0, 0)) (by (with_reducible repeat (first | refine blk_drewN ?_ _ | refine blk_drew ?_ | refine blk_alloc ?_ _)); exact BK103.out)) : gb111 ≠ gb103))
    clear BK103
    clear HB
    have BK103 := n0_
    have HB := n1_
    have BK111 := n2_
    have GW111 := n3_
    have GE111 := n4_
    have NB103_111 := n5_
    have NB111_103 := n6_
    clear n0_ n1_ n2_ n3_ n4_ n5_ n6_
    clear hb hbox hg
    refine hK.out _ _ ⟨(blk_cell BK103.out 0).trans rfl, (blk_cell BK103.out 1).trans rfl, (blk_cell BK103.out 2).trans rfl, (blk_cell BK103.out 3).trans rfl, (blk_cell BK103.out 4).trans rfl, (blk_cell BK103.out 5).trans rfl, (blk_cell BK103.out 6).trans rfl, (blk_cell BK103.out 7).trans rfl, (blk_cell BK103.out 8).trans rfl⟩ (fun hHeld => ?_)
    clear hK K
    refine norm_ (a' := ?_) ?_ ?_
    rotate_left
    ·show Act.put _ (some 3) _ = _
     simp only [Act.put, List.setIfInBounds_toArray, List.set_cons_zero, List.set_cons_succ, i64_w, i32_w]
     rfl
    exact norm_ (by simp only [putAll, Act.put, List.setIfInBounds_toArray, List.set_cons_zero, List.set_cons_succ]) (hCont (gb111) _ ⟨hHeld, (by (with_reducible repeat (first | refine blk_drewN ?_ _ | refine blk_drew ?_ | refine blk_alloc ?_ _)); exact BK103.out), (by (with_reducible repeat (first | refine blk_drewN ?_ _ | refine blk_drew ?_ | refine blk_alloc ?_ _)); exact BK111.out), GW111.out, GE111.out, NB103_111.out, NB111_103.out, (by repeat (first | (with_reducible first | exact HB.out | apply below_alloc | apply pw_below_drewN | apply below_drew1 | refine below_set ?_ GE103.out | refine below_set ?_ GE111.out) | exact HB.out))⟩)
   ·skip
    refine box_step ?hg (N := 3) ?hd (cs := #[.int .i64 0, .int .i64 0, .int .i64 0, .int .i64 0, .string (⟨#[]⟩ : ByteArray), .string (⟨#[]⟩ : ByteArray), .bool false]) (t := 129) ?hr ?_; (case hd => rfl); (case hg => rfl); (case hr => first | (go_simp; done) | (go_simp; rfl))
    intro gb111 hg w23 hbox hb
    have n0_ := Aside0.mk (blk_below (g := gb103) (o := .cells #[.int .i64 a0_0, .int .i64 a0_1, .int .i64 a0_2, .int .i64 a0_3, .string a0_4, .string a0_5, .bool a0_6, .slice A0_7 l0_7.length c0_7, .slice A0_8 l0_8.length c0_8] 35 (0, 0)) (by (with_reducible repeat (first | refine blk_drewN ?_ _ | refine blk_drew ?_ | refine blk_alloc ?_ _)); exact BK103.out) hb)
    have n1_ := Aside0.mk (below_step (by repeat (first | (with_reducible first | exact HB.out | apply below_alloc | apply pw_below_drewN | apply below_drew1 | refine below_set ?_ GE103.out) | exact HB.out)) hb)
    have n2_ := Aside0.mk (hbox)
    have n3_ := Aside0.mk ((by rw [hg]; exact (below_size (by repeat (first | (with_reducible first | exact HB.out | apply below_alloc | apply pw_below_drewN | apply below_drew1 | refine below_set ?_ GE103.out) | exact HB.out))) : w.heap.size ≤ gb111))
    have n4_ := Aside0.mk ((by rw [hg]; exact (below_size (by repeat (first | (with_reducible first | exact HB.out | apply below_alloc | apply pw_below_drewN | apply below_drew1 | refine below_set ?_ GE103.out) | exact HB.out))) : w.heap.size ≤ gb111))
    have n5_ := Aside0.mk ((by rw [hg]; exact Nat.ne_of_lt (blk_lt (g := gb103) (o := .cells #[.int .i64 a0_0, .int .i64 a0_1, .int .i64 a0_2, .int .i64 a0_3, .string a0_4, .string a0_5, .bool a0_6, .slice A0_7 l0_7.length c0_7, .slice A0_8 l0_8.length c0_8] 35 (0, 0)) (by (with_reducible repeat (first | refine blk_drewN ?_ _ | refine blk_drew ?_ | refine blk_alloc ?_ _)); exact BK103.out)) : gb103 ≠ gb111))
    have n6_ := Aside0.mk ((by rw [hg]; exact Nat.ne_of_gt (blk_lt (g := gb103) (o := .cells #[.int .i64 a0_0, .int .i64 a0_1, .int .i64 a0_2, .int .i64 a0_3, .string a0_4, .string a0_5, .bool a0_6, .slice A0_7 l0_7.length c0_7, .slice A0_8 l0_8.length c0_8] 35 (0, 0)) (by (with_reducible repeat (first | refine blk_drewN ?_ _ | refine blk_drew ?_ | refine blk_alloc ?_ _)); exact BK103.out)) : gb111 ≠ gb103))
    clear BK103
    clear HB
    have BK103 := n0_
    have HB := n1_
    have BK111 := n2_
    have GW111 := n3_
    have GE111 := n4_
    have NB103_111 := n5_
    have NB111_103 := n6_
    clear n0_ n1_ n2_ n3_ n4_ n5_ n6_
    clear hb hbox hg
    refine hK.out _ _ ⟨(blk_cell BK103.out 0).trans rfl, (blk_cell BK103.out 1).trans rfl, (blk_cell BK103.out 2).trans rfl, (blk_cell BK103.out 3).trans rfl, (blk_cell BK103.out 4).trans rfl, (blk_cell BK103.out 5).trans rfl, (blk_cell BK103.out 6).trans rfl, (blk_cell BK103.out 7).trans rfl, (blk_cell BK103.out 8).trans rfl⟩ (fun hHeld => ?_)
    clear hK K
    refine norm_ (a' := ?_) ?_ ?_
    rotate_left
    ·show Act.put _ (some 3) _ = _
     simp only [Act.put, List.setIfInBounds_toArray, List.set_cons_zero, List.set_cons_succ, i64_w, i32_w]
     rfl
    refine one_ (i := 1) (N := some 34) #[true, true, true, true, true, true, true, true, true, true, true, false, false] rfl rfl (one_of HT_.out (by kernel_rfl)) (by decide) (fun K hK => ?_)
    refine goes_ Try.func73 (by kernel_rfl) rfl #[.agg #[.int .i64 a0_0, .int .i64 a0_1, .int .i64 a0_2, .int .i64 a0_3, .string a0_4, .string a0_5, .bool a0_6, .slice A0_7 l0_7.length c0_7, .slice A0_8 l0_8.length c0_8]] (by rfl) rfl rfl (by (try simp only [List.map_toArray, List.map_cons, List.map_nil]); first | done | rfl | (simp only [List.length_drop, List.length_take]; rfl)) ?_
    with_reducible refine (record_bare.calls a0_0 a0_1 a0_2 a0_3 a0_4 a0_5 a0_6 _ _ l0_7 _ _ l0_8 t104 t105 t106 t107 t108 t109 t110 _ ?side1 ?side2 ?side3 ?side4 A16.out).mono ?_
    (case side1 => repeat (first | exact (Kd.C_below HR0_7.out HB.out) | (with_reducible refine Kd.C_alloc ?_ _) | (with_reducible refine Kd.C_drewN ?_ _) | (with_reducible refine Kd.C_drew ?_)))
    (case side2 => exact HC0_7.out)
    (case side3 => repeat (first | exact (Kd.C_below HR0_8.out HB.out) | (with_reducible refine Kd.C_alloc ?_ _) | (with_reducible refine Kd.C_drewN ?_ _) | (with_reducible refine Kd.C_drew ?_)))
    (case side4 => exact HC0_8.out)
    rintro e w24 ⟨rfl, hb⟩
    refine ⟨_, rfl, ?_⟩
    have n0_ := Aside0.mk (blk_below (g := gb103) (o := .cells #[.int .i64 a0_0, .int .i64 a0_1, .int .i64 a0_2, .int .i64 a0_3, .string a0_4, .string a0_5, .bool a0_6, .slice A0_7 l0_7.length c0_7, .slice A0_8 l0_8.length c0_8] 35 (0, 0)) (by (with_reducible repeat (first | refine blk_drewN ?_ _ | refine blk_drew ?_ | refine blk_alloc ?_ _)); exact BK103.out) hb)
    have n1_ := Aside0.mk (blk_below (g := gb111) (o := .cells #[.int .i64 0, .int .i64 0, .int .i64 0, .int .i64 0, .string (⟨#[]⟩ : ByteArray), .string (⟨#[]⟩ : ByteArray), .bool false] 129 (0, 0)) (by (with_reducible repeat (first | refine blk_drewN ?_ _ | refine blk_drew ?_ | refine blk_alloc ?_ _)); exact BK111.out) hb)
    have n2_ := Aside0.mk (below_step (by repeat (first | (with_reducible first | exact HB.out | apply below_alloc | apply pw_below_drewN | apply below_drew1 | refine below_set ?_ GE103.out | refine below_set ?_ GE111.out) | exact HB.out)) hb)
    clear BK103
    clear BK111
    clear HB
    have BK103 := n0_
    have BK111 := n1_
    have HB := n2_
    clear n0_ n1_ n2_
    (try clear hb)
    (try clear hb2)
    (try clear hk)
    (try clear hi)
    refine hK.out _ _ ⟨(blk_cell BK103.out 0).trans rfl, (blk_cell BK103.out 1).trans rfl, (blk_cell BK103.out 2).trans rfl, (blk_cell BK103.out 3).trans rfl, (blk_cell BK103.out 4).trans rfl, (blk_cell BK103.out 5).trans rfl, (blk_cell BK103.out 6).trans rfl, (blk_cell BK103.out 7).trans rfl, (blk_cell BK103.out 8).trans rfl⟩ (fun hHeld => ?_)
    clear hK K
    refine norm_ (a' := ?_) ?_ ?_
    rotate_left
    ·show Act.put _ (some 34) _ = _
     simp only [Act.put, List.setIfInBounds_toArray, List.set_cons_zero, List.set_cons_succ, i64_w, i32_w]
     rfl
    exact norm_ (by simp only [putAll, Act.put, List.setIfInBounds_toArray, List.set_cons_zero, List.set_cons_succ]) (hCont (gb111) _ ⟨hHeld, (by (with_reducible repeat (first | refine blk_drewN ?_ _ | refine blk_drew ?_ | refine blk_alloc ?_ _)); exact BK103.out), (by (with_reducible repeat (first | refine blk_drewN ?_ _ | refine blk_drew ?_ | refine blk_alloc ?_ _)); exact BK111.out), GW111.out, GE111.out, NB103_111.out, NB111_103.out, (by repeat (first | (with_reducible first | exact HB.out | apply below_alloc | apply pw_below_drewN | apply below_drew1 | refine below_set ?_ GE103.out | refine below_set ?_ GE111.out) | exact HB.out))⟩)
  rintro gb111 w25 ⟨hS_, h0_, h1_, h2_, h3_, h4_, h5_, h6_⟩
  have n0_ : Aside0 (w25.heap[gb103]? = some (.cells #[.int .i64 a0_0, .int .i64 a0_1, .int .i64 a0_2, .int .i64 a0_3, .string a0_4, .string a0_5, .bool a0_6, .slice A0_7 l0_7.length c0_7, .slice A0_8 l0_8.length c0_8] 35 (0, 0))) := ⟨h0_⟩
  have n1_ : Aside0 (w25.heap[gb111]? = some (.cells #[.int .i64 0, .int .i64 0, .int .i64 0, .int .i64 0, .string (⟨#[]⟩ : ByteArray), .string (⟨#[]⟩ : ByteArray), .bool false] 129 (0, 0))) := ⟨h1_⟩
  have n2_ : Aside0 (w.heap.size ≤ gb111) := ⟨h2_⟩
  have n3_ : Aside0 (w.heap.size ≤ gb111) := ⟨h3_⟩
  have n4_ : Aside0 (gb103 ≠ gb111) := ⟨h4_⟩
  have n5_ : Aside0 (gb111 ≠ gb103) := ⟨h5_⟩
  have n6_ : Aside0 (Below w.heap.size w w25) := ⟨h6_⟩
  clear BK103
  clear HB
  clear h0_ h1_ h2_ h3_ h4_ h5_ h6_
  have BK103 := n0_
  have BK111 := n1_
  have GW111 := n2_
  have GE111 := n3_
  have NB103_111 := n4_
  have NB111_103 := n5_
  have HB := n6_
  clear n0_ n1_ n2_ n3_ n4_ n5_ n6_
  have hHeld : w25.cell? ⟨gb103, 0, none⟩ = some (.int .i64 a0_0) ∧ w25.cell? ⟨gb103, 1, none⟩ = some (.int .i64 a0_1) ∧ w25.cell? ⟨gb103, 2, none⟩ = some (.int .i64 a0_2) ∧ w25.cell? ⟨gb103, 3, none⟩ = some (.int .i64 a0_3) ∧ w25.cell? ⟨gb103, 4, none⟩ = some (.string a0_4) ∧ w25.cell? ⟨gb103, 5, none⟩ = some (.string a0_5) ∧ w25.cell? ⟨gb103, 6, none⟩ = some (.bool a0_6) ∧ w25.cell? ⟨gb103, 7, none⟩ = some (.slice A0_7 l0_7.length c0_7) ∧ w25.cell? ⟨gb103, 8, none⟩ = some (.slice A0_8 l0_8.length c0_8) := hS_
  refine norm_ (a' := ?_) ?_ ?_
  rotate_left
  ·simp only [putAll, Act.put, List.setIfInBounds_toArray, List.set_cons_zero, List.set_cons_succ]
   rfl
  refine one_ (i := 11) (N := none) #[true, true, true, true, true, true, true, true, true, true, true, true, false] rfl rfl (one_of HT_.out (by kernel_rfl)) (by decide) (fun K hK => ?_)
  have hs26 : w25.cell? ⟨gb111, 0, none⟩ = some (.int .i64 0) := (blk_cell BK111.out 0).trans rfl
  have hfs26 := blk_frozen BK111.out 0
  have hns26_0 := NB103_111.out
  have hms26_0 := NB111_103.out
  have hs27 : w25.cell? ⟨gb111, 1, none⟩ = some (.int .i64 0) := (blk_cell BK111.out 1).trans rfl
  have hfs27 := blk_frozen BK111.out 1
  have hns27_0 := NB103_111.out
  have hms27_0 := NB111_103.out
  have hs28 : w25.cell? ⟨gb111, 2, none⟩ = some (.int .i64 0) := (blk_cell BK111.out 2).trans rfl
  have hfs28 := blk_frozen BK111.out 2
  have hns28_0 := NB103_111.out
  have hms28_0 := NB111_103.out
  have hs29 : w25.cell? ⟨gb111, 3, none⟩ = some (.int .i64 0) := (blk_cell BK111.out 3).trans rfl
  have hfs29 := blk_frozen BK111.out 3
  have hns29_0 := NB103_111.out
  have hms29_0 := NB111_103.out
  have hs30 : w25.cell? ⟨gb111, 4, none⟩ = some (.string (⟨#[]⟩ : ByteArray)) := (blk_cell BK111.out 4).trans rfl
  have hfs30 := blk_frozen BK111.out 4
  have hns30_0 := NB103_111.out
  have hms30_0 := NB111_103.out
  have hs31 : w25.cell? ⟨gb111, 5, none⟩ = some (.string (⟨#[]⟩ : ByteArray)) := (blk_cell BK111.out 5).trans rfl
  have hfs31 := blk_frozen BK111.out 5
  have hns31_0 := NB103_111.out
  have hms31_0 := NB111_103.out
  have hs32 : w25.cell? ⟨gb111, 6, none⟩ = some (.bool false) := (blk_cell BK111.out 6).trans rfl
  have hfs32 := blk_frozen BK111.out 6
  have hns32_0 := NB103_111.out
  have hms32_0 := NB111_103.out
  refine skip_ (w1 := ?_) (by rfl) rfl ?_ ?_
  rotate_left
  ·go_simp
   rfl
  refine hK.out _ _ ⟨((cell_far (p := ⟨gb111, _, none⟩) NB103_111.out _).trans (((cell_far (p := ⟨gb111, _, none⟩) NB103_111.out _).trans (((cell_far (p := ⟨gb111, _, none⟩) NB103_111.out _).trans (((cell_far (p := ⟨gb111, _, none⟩) NB103_111.out _).trans (((cell_far (p := ⟨gb111, _, none⟩) NB103_111.out _).trans (((cell_far (p := ⟨gb111, _, none⟩) NB103_111.out _).trans (((cell_far (p := ⟨gb111, _, none⟩) NB103_111.out _).trans (hHeld.1)))))))))))))), ((cell_far (p := ⟨gb111, _, none⟩) NB103_111.out _).trans (((cell_far (p := ⟨gb111, _, none⟩) NB103_111.out _).trans (((cell_far (p := ⟨gb111, _, none⟩) NB103_111.out _).trans (((cell_far (p := ⟨gb111, _, none⟩) NB103_111.out _).trans (((cell_far (p := ⟨gb111, _, none⟩) NB103_111.out _).trans (((cell_far (p := ⟨gb111, _, none⟩) NB103_111.out _).trans (((cell_far (p := ⟨gb111, _, none⟩) NB103_111.out _).trans (hHeld.2.1)))))))))))))), ((cell_far (p := ⟨gb111, _, none⟩) NB103_111.out _).trans (((cell_far (p := ⟨gb111, _, none⟩) NB103_111.out _).trans (((cell_far (p := ⟨gb111, _, none⟩) NB103_111.out _).trans (((cell_far (p := ⟨gb111, _, none⟩) NB103_111.out _).trans (((cell_far (p := ⟨gb111, _, none⟩) NB103_111.out _).trans (((cell_far (p := ⟨gb111, _, none⟩) NB103_111.out _).trans (((cell_far (p := ⟨gb111, _, none⟩) NB103_111.out _).trans (hHeld.2.2.1)))))))))))))), ((cell_far (p := ⟨gb111, _, none⟩) NB103_111.out _).trans (((cell_far (p := ⟨gb111, _, none⟩) NB103_111.out _).trans (((cell_far (p := ⟨gb111, _, none⟩) NB103_111.out _).trans (((cell_far (p := ⟨gb111, _, none⟩) NB103_111.out _).trans (((cell_far (p := ⟨gb111, _, none⟩) NB103_111.out _).trans (((cell_far (p := ⟨gb111, _, none⟩) NB103_111.out _).trans (((cell_far (p := ⟨gb111, _, none⟩) NB103_111.out _).trans (hHeld.2.2.2.1)))))))))))))), ((cell_far (p := ⟨gb111, _, none⟩) NB103_111.out _).trans (((cell_far (p := ⟨gb111, _, none⟩) NB103_111.out _).trans (((cell_far (p := ⟨gb111, _, none⟩) NB103_111.out _).trans (((cell_far (p := ⟨gb111, _, none⟩) NB103_111.out _).trans (((cell_far (p := ⟨gb111, _, none⟩) NB103_111.out _).trans (((cell_far (p := ⟨gb111, _, none⟩) NB103_111.out _).trans (((cell_far (p := ⟨gb111, _, none⟩) NB103_111.out _).trans (hHeld.2.2.2.2.1)))))))))))))), ((cell_far (p := ⟨gb111, _, none⟩) NB103_111.out _).trans (((cell_far (p := ⟨gb111, _, none⟩) NB103_111.out _).trans (((cell_far (p := ⟨gb111, _, none⟩) NB103_111.out _).trans (((cell_far (p := ⟨gb111, _, none⟩) NB103_111.out _).trans (((cell_far (p := ⟨gb111, _, none⟩) NB103_111.out _).trans (((cell_far (p := ⟨gb111, _, none⟩) NB103_111.out _).trans (((cell_far (p := ⟨gb111, _, none⟩) NB103_111.out _).trans (hHeld.2.2.2.2.2.1)))))))))))))), ((cell_far (p := ⟨gb111, _, none⟩) NB103_111.out _).trans (((cell_far (p := ⟨gb111, _, none⟩) NB103_111.out _).trans (((cell_far (p := ⟨gb111, _, none⟩) NB103_111.out _).trans (((cell_far (p := ⟨gb111, _, none⟩) NB103_111.out _).trans (((cell_far (p := ⟨gb111, _, none⟩) NB103_111.out _).trans (((cell_far (p := ⟨gb111, _, none⟩) NB103_111.out _).trans (((cell_far (p := ⟨gb111, _, none⟩) NB103_111.out _).trans (hHeld.2.2.2.2.2.2.1)))))))))))))), ((cell_far (p := ⟨gb111, _, none⟩) NB103_111.out _).trans (((cell_far (p := ⟨gb111, _, none⟩) NB103_111.out _).trans (((cell_far (p := ⟨gb111, _, none⟩) NB103_111.out _).trans (((cell_far (p := ⟨gb111, _, none⟩) NB103_111.out _).trans (((cell_far (p := ⟨gb111, _, none⟩) NB103_111.out _).trans (((cell_far (p := ⟨gb111, _, none⟩) NB103_111.out _).trans (((cell_far (p := ⟨gb111, _, none⟩) NB103_111.out _).trans (hHeld.2.2.2.2.2.2.2.1)))))))))))))), ((cell_far (p := ⟨gb111, _, none⟩) NB103_111.out _).trans (((cell_far (p := ⟨gb111, _, none⟩) NB103_111.out _).trans (((cell_far (p := ⟨gb111, _, none⟩) NB103_111.out _).trans (((cell_far (p := ⟨gb111, _, none⟩) NB103_111.out _).trans (((cell_far (p := ⟨gb111, _, none⟩) NB103_111.out _).trans (((cell_far (p := ⟨gb111, _, none⟩) NB103_111.out _).trans (((cell_far (p := ⟨gb111, _, none⟩) NB103_111.out _).trans (hHeld.2.2.2.2.2.2.2.2))))))))))))))⟩ (fun hHeld => ?_)
  clear hK K
  refine pure_ (i := 12) (N := some 4) (v := ?_) (a' := ?_) #[true, true, true, true, true, true, true, true, true, true, true, true, true] rfl rfl (any_of HT_.out (by kernel_rfl)) (fun _ _ _ h => h) (Or.inl ⟨by rfl, ?_⟩) ?_ ?_
  rotate_left
  ·intro w'
   go_simp
   with_reducible rfl
  rotate_left
  ·simp only [Act.put, List.setIfInBounds_toArray, List.set_cons_zero, List.set_cons_succ, i64_w, i32_w]
   rfl
  refine done_ (done_of HT_.out (by kernel_rfl)) ?_
  have hnb33 := NB103_111.out
  have hnc33 := NB111_103.out
  have n0_ : Aside0 ((((((((w25.setCell ⟨gb111, 0, none⟩ (.int .i64 t104)).setCell ⟨gb111, 1, none⟩ (.int .i64 t105)).setCell ⟨gb111, 2, none⟩ (.int .i64 t106)).setCell ⟨gb111, 3, none⟩ (.int .i64 t107)).setCell ⟨gb111, 4, none⟩ (.string t108)).setCell ⟨gb111, 5, none⟩ (.string t109)).setCell ⟨gb111, 6, none⟩ (.bool t110)).heap[gb103]? = some (.cells #[.int .i64 a0_0, .int .i64 a0_1, .int .i64 a0_2, .int .i64 a0_3, .string a0_4, .string a0_5, .bool a0_6, .slice A0_7 l0_7.length c0_7, .slice A0_8 l0_8.length c0_8] 35 (0, 0))) := ⟨by (with_reducible repeat (first | refine blk_drewN ?_ _ | refine blk_drew ?_ | refine blk_alloc ?_ _)); refine blk_far ?_ NB103_111.out _; (with_reducible repeat (first | refine blk_drewN ?_ _ | refine blk_drew ?_ | refine blk_alloc ?_ _)); refine blk_far ?_ NB103_111.out _; (with_reducible repeat (first | refine blk_drewN ?_ _ | refine blk_drew ?_ | refine blk_alloc ?_ _)); refine blk_far ?_ NB103_111.out _; (with_reducible repeat (first | refine blk_drewN ?_ _ | refine blk_drew ?_ | refine blk_alloc ?_ _)); refine blk_far ?_ NB103_111.out _; (with_reducible repeat (first | refine blk_drewN ?_ _ | refine blk_drew ?_ | refine blk_alloc ?_ _)); refine blk_far ?_ NB103_111.out _; (with_reducible repeat (first | refine blk_drewN ?_ _ | refine blk_drew ?_ | refine blk_alloc ?_ _)); refine blk_far ?_ NB103_111.out _; (with_reducible repeat (first | refine blk_drewN ?_ _ | refine blk_drew ?_ | refine blk_alloc ?_ _)); refine blk_far ?_ NB103_111.out _; (with_reducible repeat (first | refine blk_drewN ?_ _ | refine blk_drew ?_ | refine blk_alloc ?_ _)); exact BK103.out⟩
  have n1_ : Aside0 ((((((((w25.setCell ⟨gb111, 0, none⟩ (.int .i64 t104)).setCell ⟨gb111, 1, none⟩ (.int .i64 t105)).setCell ⟨gb111, 2, none⟩ (.int .i64 t106)).setCell ⟨gb111, 3, none⟩ (.int .i64 t107)).setCell ⟨gb111, 4, none⟩ (.string t108)).setCell ⟨gb111, 5, none⟩ (.string t109)).setCell ⟨gb111, 6, none⟩ (.bool t110)).heap[gb111]? = some (.cells #[.int .i64 t104, .int .i64 t105, .int .i64 t106, .int .i64 t107, .string t108, .string t109, .bool t110] 129 (0, 0))) := ⟨by (with_reducible repeat (first | refine blk_drewN ?_ _ | refine blk_drew ?_ | refine blk_alloc ?_ _)); refine blk_put (cs := #[.int .i64 t104, .int .i64 t105, .int .i64 t106, .int .i64 t107, .string t108, .string t109, .bool false]) ?_ 6 _ rfl; (with_reducible repeat (first | refine blk_drewN ?_ _ | refine blk_drew ?_ | refine blk_alloc ?_ _)); refine blk_put (cs := #[.int .i64 t104, .int .i64 t105, .int .i64 t106, .int .i64 t107, .string t108, .string (⟨#[]⟩ : ByteArray), .bool false]) ?_ 5 _ rfl; (with_reducible repeat (first | refine blk_drewN ?_ _ | refine blk_drew ?_ | refine blk_alloc ?_ _)); refine blk_put (cs := #[.int .i64 t104, .int .i64 t105, .int .i64 t106, .int .i64 t107, .string (⟨#[]⟩ : ByteArray), .string (⟨#[]⟩ : ByteArray), .bool false]) ?_ 4 _ rfl; (with_reducible repeat (first | refine blk_drewN ?_ _ | refine blk_drew ?_ | refine blk_alloc ?_ _)); refine blk_put (cs := #[.int .i64 t104, .int .i64 t105, .int .i64 t106, .int .i64 0, .string (⟨#[]⟩ : ByteArray), .string (⟨#[]⟩ : ByteArray), .bool false]) ?_ 3 _ rfl; (with_reducible repeat (first | refine blk_drewN ?_ _ | refine blk_drew ?_ | refine blk_alloc ?_ _)); refine blk_put (cs := #[.int .i64 t104, .int .i64 t105, .int .i64 0, .int .i64 0, .string (⟨#[]⟩ : ByteArray), .string (⟨#[]⟩ : ByteArray), .bool false]) ?_ 2 _ rfl; (with_reducible repeat (first | refine blk_drewN ?_ _ | refine blk_drew ?_ | refine blk_alloc ?_ _)); refine blk_put (cs := #[.int .i64 t104, .int .i64 0, .int .i64 0, .int .i64 0, .string (⟨#[]⟩ : ByteArray), .string (⟨#[]⟩ : ByteArray), .bool false]) ?_ 1 _ rfl; (with_reducible repeat (first | refine blk_drewN ?_ _ | refine blk_drew ?_ | refine blk_alloc ?_ _)); refine blk_put (cs := #[.int .i64 0, .int .i64 0, .int .i64 0, .int .i64 0, .string (⟨#[]⟩ : ByteArray), .string (⟨#[]⟩ : ByteArray), .bool false]) ?_ 0 _ rfl; (with_reducible repeat (first | refine blk_drewN ?_ _ | refine blk_drew ?_ | refine blk_alloc ?_ _)); exact BK111.out⟩
  have n2_ : Aside0 (Below w.heap.size w (((((((w25.setCell ⟨gb111, 0, none⟩ (.int .i64 t104)).setCell ⟨gb111, 1, none⟩ (.int .i64 t105)).setCell ⟨gb111, 2, none⟩ (.int .i64 t106)).setCell ⟨gb111, 3, none⟩ (.int .i64 t107)).setCell ⟨gb111, 4, none⟩ (.string t108)).setCell ⟨gb111, 5, none⟩ (.string t109)).setCell ⟨gb111, 6, none⟩ (.bool t110))) := ⟨by repeat (first | (with_reducible first | exact HB.out | apply below_alloc | apply pw_below_drewN | apply below_drew1 | refine below_set ?_ GE103.out | refine below_set ?_ GE111.out) | exact HB.out)⟩
  (try clear BK103)
  (try clear BK111)
  (try clear HB)
  generalize (((((((w25.setCell ⟨gb111, 0, none⟩ (.int .i64 t104)).setCell ⟨gb111, 1, none⟩ (.int .i64 t105)).setCell ⟨gb111, 2, none⟩ (.int .i64 t106)).setCell ⟨gb111, 3, none⟩ (.int .i64 t107)).setCell ⟨gb111, 4, none⟩ (.string t108)).setCell ⟨gb111, 5, none⟩ (.string t109)).setCell ⟨gb111, 6, none⟩ (.bool t110)) = w35 at n0_ n1_ n2_ ⊢
  have BK103 := n0_
  have BK111 := n1_
  have HB := n2_
  clear n0_ n1_ n2_
  try clear hs26
  try clear hfs26
  try clear hns26_0
  try clear hms26_0
  try clear hs27
  try clear hfs27
  try clear hns27_0
  try clear hms27_0
  try clear hs28
  try clear hfs28
  try clear hns28_0
  try clear hms28_0
  try clear hs29
  try clear hfs29
  try clear hns29_0
  try clear hms29_0
  try clear hs30
  try clear hfs30
  try clear hns30_0
  try clear hms30_0
  try clear hs31
  try clear hfs31
  try clear hns31_0
  try clear hms31_0
  try clear hs32
  try clear hfs32
  try clear hns32_0
  try clear hms32_0
  try clear hnb33
  try clear hnc33
  try clear hHeld
  try clear hS_
  try clear HT_
  try clear HW_
  have hczz_0 : w35.cell? ⟨gb103, 0, none⟩ = some (.int .i64 a0_0) := (blk_cell BK103.out 0).trans rfl
  have hczz_1 : w35.cell? ⟨gb103, 1, none⟩ = some (.int .i64 a0_1) := (blk_cell BK103.out 1).trans rfl
  have hczz_2 : w35.cell? ⟨gb103, 2, none⟩ = some (.int .i64 a0_2) := (blk_cell BK103.out 2).trans rfl
  have hczz_3 : w35.cell? ⟨gb103, 3, none⟩ = some (.int .i64 a0_3) := (blk_cell BK103.out 3).trans rfl
  have hczz_4 : w35.cell? ⟨gb103, 4, none⟩ = some (.string a0_4) := (blk_cell BK103.out 4).trans rfl
  have hczz_5 : w35.cell? ⟨gb103, 5, none⟩ = some (.string a0_5) := (blk_cell BK103.out 5).trans rfl
  have hczz_6 : w35.cell? ⟨gb103, 6, none⟩ = some (.bool a0_6) := (blk_cell BK103.out 6).trans rfl
  have hczz_7 : w35.cell? ⟨gb103, 7, none⟩ = some (.slice A0_7 l0_7.length c0_7) := (blk_cell BK103.out 7).trans rfl
  have hczz_8 : w35.cell? ⟨gb103, 8, none⟩ = some (.slice A0_8 l0_8.length c0_8) := (blk_cell BK103.out 8).trans rfl
  have hfzz_0 := blk_frozen BK103.out 0
  have hfzz_1 := blk_frozen BK103.out 1
  have hfzz_2 := blk_frozen BK103.out 2
  have hfzz_3 := blk_frozen BK103.out 3
  have hfzz_4 := blk_frozen BK103.out 4
  have hfzz_5 := blk_frozen BK103.out 5
  have hfzz_6 := blk_frozen BK103.out 6
  have hfzz_7 := blk_frozen BK103.out 7
  have hfzz_8 := blk_frozen BK103.out 8
  have hczf_0 : w35.cell? ⟨gb111, 0, none⟩ = some (.int .i64 t104) := (blk_cell BK111.out 0).trans rfl
  have hczf_1 : w35.cell? ⟨gb111, 1, none⟩ = some (.int .i64 t105) := (blk_cell BK111.out 1).trans rfl
  have hczf_2 : w35.cell? ⟨gb111, 2, none⟩ = some (.int .i64 t106) := (blk_cell BK111.out 2).trans rfl
  have hczf_3 : w35.cell? ⟨gb111, 3, none⟩ = some (.int .i64 t107) := (blk_cell BK111.out 3).trans rfl
  have hczf_4 : w35.cell? ⟨gb111, 4, none⟩ = some (.string t108) := (blk_cell BK111.out 4).trans rfl
  have hczf_5 : w35.cell? ⟨gb111, 5, none⟩ = some (.string t109) := (blk_cell BK111.out 5).trans rfl
  have hczf_6 : w35.cell? ⟨gb111, 6, none⟩ = some (.bool t110) := (blk_cell BK111.out 6).trans rfl
  have hfzf_0 := blk_frozen BK111.out 0
  have hfzf_1 := blk_frozen BK111.out 1
  have hfzf_2 := blk_frozen BK111.out 2
  have hfzf_3 := blk_frozen BK111.out 3
  have hfzf_4 := blk_frozen BK111.out 4
  have hfzf_5 := blk_frozen BK111.out 5
  have hfzf_6 := blk_frozen BK111.out 6
  have hNE1 := NB103_111.out
  have hNE2 := NB111_103.out
  have hnn := none_eq l0_7 l0_8 HSM.out.1 HSM.out.2
  rw [hnn]
  clear hnn
  by_cases k1 : a0_0 = 1
  · have HKD := Aside0.mk k1
    have k1b : (a0_0 == 1) = true := beq_iff_eq.mpr k1
    have k1c : (a0_0 != 1) = false := bne_eq_false_iff_eq.mpr k1
    clear k1
    obtain ⟨kj1, A180⟩ : ∃ kj1, record_listed.f kj1 a0_0 a0_1 a0_2 a0_3 a0_4 a0_5 a0_6 l0_7 l0_8 = some (listedB l0_7 l0_8) := ⟨_, listed_f _ _ _ _ _ _ _ _ _ (by have := HSM.out.1; omega) HSM.out.2 _ (Nat.lt_succ_self _)⟩
    cases hl : listedB l0_7 l0_8 with
    | false =>
      rw [hl] at A180
      have A18 := Aside0.mk A180
      clear A180
      have HV : Aside0 (r = 80) := ⟨by rw [HRV2.out, ok1 HKD.out, hl]; rfl⟩
      go_wp2
      have n0_ := Aside0.mk (blk_drew BK103.out)
      have n1_ := Aside0.mk (blk_drew BK111.out)
      have n2_ := Aside0.mk (below_drew1 HB.out)
      clear BK103
      clear BK111
      clear HB
      have BK103 := n0_
      have BK111 := n1_
      have HB := n2_
      clear n0_ n1_ n2_
      refine start_ (n := 12) (S := fun w' => w'.cell? ⟨gb103, 0, none⟩ = some (.int .i64 a0_0) ∧ w'.cell? ⟨gb103, 1, none⟩ = some (.int .i64 a0_1) ∧ w'.cell? ⟨gb103, 2, none⟩ = some (.int .i64 a0_2) ∧ w'.cell? ⟨gb103, 3, none⟩ = some (.int .i64 a0_3) ∧ w'.cell? ⟨gb103, 4, none⟩ = some (.string a0_4) ∧ w'.cell? ⟨gb103, 5, none⟩ = some (.string a0_5) ∧ w'.cell? ⟨gb103, 6, none⟩ = some (.bool a0_6) ∧ w'.cell? ⟨gb103, 7, none⟩ = some (.slice A0_7 l0_7.length c0_7) ∧ w'.cell? ⟨gb103, 8, none⟩ = some (.slice A0_8 l0_8.length c0_8)) (ds := []) #[false, false, false, false, false, false, false, false, false, false, false, false] (by kernel_rfl) rfl rfl ⟨(blk_cell BK103.out 0).trans rfl, (blk_cell BK103.out 1).trans rfl, (blk_cell BK103.out 2).trans rfl, (blk_cell BK103.out 3).trans rfl, (blk_cell BK103.out 4).trans rfl, (blk_cell BK103.out 5).trans rfl, (blk_cell BK103.out 6).trans rfl, (blk_cell BK103.out 7).trans rfl, (blk_cell BK103.out 8).trans rfl⟩ (fun hHeld => ?_); refine with_tabW record_Check.tab7 record_Check.bits7 (fun HT_ HW_ => ?_)
      generalize w35.drew = w91 at BK103 BK111 HB hHeld ⊢
      refine pure_ (i := 0) (N := some 47) (v := ?_) (a' := ?_) #[true, false, false, false, false, false, false, false, false, false, false, false] rfl rfl (any_of HT_.out (by kernel_rfl)) (fun _ _ _ h => h) (Or.inl ⟨by rfl, ?_⟩) ?_ ?_
      rotate_left
      ·intro w'
       go_simp
       with_reducible rfl
      rotate_left
      ·simp only [Act.put, List.setIfInBounds_toArray, List.set_cons_zero, List.set_cons_succ, i64_w, i32_w]
       rfl
      refine take_ (i := 1) (N := some 48) (v := ?_) (a' := ?_) #[true, true, false, false, false, false, false, false, false, false, false, false] rfl rfl (take_ofW HT_.out HW_.out (by kernel_rfl)) (fun _ _ _ h => h) (Or.inl ⟨by rfl, ?_⟩) hHeld ?_ ?_
      rotate_left
      ·rintro w' ⟨s0, s1, s2, s3, s4, s5, s6, s7, s8⟩
       go_simp
       with_reducible rfl
      rotate_left
      ·simp only [Act.put, List.setIfInBounds_toArray, List.set_cons_zero, List.set_cons_succ, i64_w, i32_w]
       rfl
      refine pure_ (i := 9) (N := some 56) (v := ?_) (a' := ?_) #[true, true, false, false, false, false, false, false, false, true, false, false] rfl rfl (any_of HT_.out (by kernel_rfl)) (fun _ _ _ h => h) (Or.inl ⟨by rfl, ?_⟩) ?_ ?_
      rotate_left
      ·intro w'
       go_simp
       with_reducible rfl
      rotate_left
      ·simp only [Act.put, List.setIfInBounds_toArray, List.set_cons_zero, List.set_cons_succ, i64_w, i32_w]
       rfl
      refine take_ (i := 2) (N := some 49) (v := ?_) (a' := ?_) #[true, true, true, false, false, false, false, false, false, true, false, false] rfl rfl (take_ofW HT_.out HW_.out (by kernel_rfl)) (fun _ _ _ h => h) (Or.inl ⟨by rfl, ?_⟩) hHeld ?_ ?_
      rotate_left
      ·rintro w' ⟨s0, s1, s2, s3, s4, s5, s6, s7, s8⟩
       go_simp
       with_reducible rfl
      rotate_left
      ·simp only [Act.put, List.setIfInBounds_toArray, List.set_cons_zero, List.set_cons_succ, i64_w, i32_w]
       rfl
      refine one_ (i := 3) (N := some 50) #[true, true, true, true, false, false, false, false, false, true, false, false] rfl rfl (one_of HT_.out (by kernel_rfl)) (by decide) (fun K hK => ?_)
      refine goes_ Try.func74 (by kernel_rfl) rfl #[.agg #[.int .i64 a0_0, .int .i64 a0_1, .int .i64 a0_2, .int .i64 a0_3, .string a0_4, .string a0_5, .bool a0_6, .slice A0_7 l0_7.length c0_7, .slice A0_8 l0_8.length c0_8]] (by rfl) rfl rfl (by (try simp only [List.map_toArray, List.map_cons, List.map_nil]); first | done | rfl | (simp only [List.length_drop, List.length_take]; rfl)) ?_
      with_reducible refine (record_listed.calls kj1 a0_0 a0_1 a0_2 a0_3 a0_4 a0_5 a0_6 _ _ l0_7 _ _ l0_8 false _ ?side1 ?side2 ?side3 ?side4 A18.out).mono ?_
      (case side1 => repeat (first | exact (Kd.C_below HR0_7.out HB.out) | (with_reducible refine Kd.C_alloc ?_ _) | (with_reducible refine Kd.C_drewN ?_ _) | (with_reducible refine Kd.C_drew ?_)))
      (case side2 => exact HC0_7.out)
      (case side3 => repeat (first | exact (Kd.C_below HR0_8.out HB.out) | (with_reducible refine Kd.C_alloc ?_ _) | (with_reducible refine Kd.C_drewN ?_ _) | (with_reducible refine Kd.C_drew ?_)))
      (case side4 => exact HC0_8.out)
      rintro e w92 ⟨rfl, hb⟩
      refine ⟨_, rfl, ?_⟩
      have n0_ := Aside0.mk (blk_below (g := gb103) (o := .cells #[.int .i64 a0_0, .int .i64 a0_1, .int .i64 a0_2, .int .i64 a0_3, .string a0_4, .string a0_5, .bool a0_6, .slice A0_7 l0_7.length c0_7, .slice A0_8 l0_8.length c0_8] 35 (0, 0)) (by (with_reducible repeat (first | refine blk_drewN ?_ _ | refine blk_drew ?_ | refine blk_alloc ?_ _)); exact BK103.out) hb)
      have n1_ := Aside0.mk (blk_below (g := gb111) (o := .cells #[.int .i64 t104, .int .i64 t105, .int .i64 t106, .int .i64 t107, .string t108, .string t109, .bool t110] 129 (0, 0)) (by (with_reducible repeat (first | refine blk_drewN ?_ _ | refine blk_drew ?_ | refine blk_alloc ?_ _)); exact BK111.out) hb)
      have n2_ := Aside0.mk (below_step (by repeat (first | (with_reducible first | exact HB.out | apply below_alloc | apply pw_below_drewN | apply below_drew1 | refine below_set ?_ GE103.out | refine below_set ?_ GE111.out) | exact HB.out)) hb)
      clear BK103
      clear BK111
      clear HB
      have BK103 := n0_
      have BK111 := n1_
      have HB := n2_
      clear n0_ n1_ n2_
      (try clear hb)
      (try clear hb2)
      (try clear hk)
      (try clear hi)
      refine hK.out _ _ ⟨(blk_cell BK103.out 0).trans rfl, (blk_cell BK103.out 1).trans rfl, (blk_cell BK103.out 2).trans rfl, (blk_cell BK103.out 3).trans rfl, (blk_cell BK103.out 4).trans rfl, (blk_cell BK103.out 5).trans rfl, (blk_cell BK103.out 6).trans rfl, (blk_cell BK103.out 7).trans rfl, (blk_cell BK103.out 8).trans rfl⟩ (fun hHeld => ?_)
      clear hK K
      refine norm_ (a' := ?_) ?_ ?_
      rotate_left
      ·show Act.put _ (some 50) _ = _
       simp only [Act.put, List.setIfInBounds_toArray, List.set_cons_zero, List.set_cons_succ, i64_w, i32_w]
       rfl
      refine pure_ (i := 4) (N := some 51) (v := ?_) (a' := ?_) #[true, true, true, true, true, false, false, false, false, true, false, false] rfl rfl (any_of HT_.out (by kernel_rfl)) (fun _ _ _ h => h) (Or.inl ⟨by rfl, ?_⟩) ?_ ?_
      rotate_left
      ·intro w'
       go_simp
       with_reducible rfl
      rotate_left
      ·simp only [Act.put, List.setIfInBounds_toArray, List.set_cons_zero, List.set_cons_succ, i64_w, i32_w]
       rfl
      refine pure_ (i := 5) (N := some 52) (v := undef) (a' := ?_) #[true, true, true, true, true, true, false, false, false, true, false, false] rfl rfl (any_of HT_.out (by kernel_rfl)) (fun _ _ _ h => h) (Or.inr ⟨by rfl, rfl⟩) ?_ ?_
      rotate_left
      ·simp only [Act.put, List.setIfInBounds_toArray, List.set_cons_zero, List.set_cons_succ, i64_w, i32_w]
       rfl
      refine pure_ (i := 6) (N := some 53) (v := undef) (a' := ?_) #[true, true, true, true, true, true, true, false, false, true, false, false] rfl rfl (any_of HT_.out (by kernel_rfl)) (fun _ _ _ h => h) (Or.inr ⟨by rfl, rfl⟩) ?_ ?_
      rotate_left
      ·simp only [Act.put, List.setIfInBounds_toArray, List.set_cons_zero, List.set_cons_succ, i64_w, i32_w]
       rfl
      refine pure_ (i := 7) (N := some 54) (v := undef) (a' := ?_) #[true, true, true, true, true, true, true, true, false, true, false, false] rfl rfl (any_of HT_.out (by kernel_rfl)) (fun _ _ _ h => h) (Or.inr ⟨by rfl, rfl⟩) ?_ ?_
      rotate_left
      ·simp only [Act.put, List.setIfInBounds_toArray, List.set_cons_zero, List.set_cons_succ, i64_w, i32_w]
       rfl
      refine pure_ (i := 8) (N := some 55) (v := ?_) (a' := ?_) #[true, true, true, true, true, true, true, true, true, true, false, false] rfl rfl (any_of HT_.out (by kernel_rfl)) (fun _ _ _ h => h) (Or.inl ⟨by rfl, ?_⟩) ?_ ?_
      rotate_left
      ·intro w'
       go_simp
       with_reducible rfl
      rotate_left
      ·simp only [Act.put, List.setIfInBounds_toArray, List.set_cons_zero, List.set_cons_succ, i64_w, i32_w]
       rfl
      refine one_ (i := 10) (N := none) #[true, true, true, true, true, true, true, true, true, true, true, false] rfl rfl (one_of HT_.out (by kernel_rfl)) (by decide) (fun K hK => ?_)
      have hs93 : w92.cell? ⟨gb111, 3, none⟩ = some (.int .i64 t107) := (blk_cell BK111.out 3).trans rfl
      have hfs93 := blk_frozen BK111.out 3
      have hns93_0 := NB103_111.out
      have hms93_0 := NB111_103.out
      refine skip_ (w1 := ?_) (by rfl) rfl ?_ ?_
      rotate_left
      ·go_simp
       rfl
      refine hK.out _ _ ⟨((cell_far (p := ⟨gb111, _, none⟩) NB103_111.out _).trans (hHeld.1)), ((cell_far (p := ⟨gb111, _, none⟩) NB103_111.out _).trans (hHeld.2.1)), ((cell_far (p := ⟨gb111, _, none⟩) NB103_111.out _).trans (hHeld.2.2.1)), ((cell_far (p := ⟨gb111, _, none⟩) NB103_111.out _).trans (hHeld.2.2.2.1)), ((cell_far (p := ⟨gb111, _, none⟩) NB103_111.out _).trans (hHeld.2.2.2.2.1)), ((cell_far (p := ⟨gb111, _, none⟩) NB103_111.out _).trans (hHeld.2.2.2.2.2.1)), ((cell_far (p := ⟨gb111, _, none⟩) NB103_111.out _).trans (hHeld.2.2.2.2.2.2.1)), ((cell_far (p := ⟨gb111, _, none⟩) NB103_111.out _).trans (hHeld.2.2.2.2.2.2.2.1)), ((cell_far (p := ⟨gb111, _, none⟩) NB103_111.out _).trans (hHeld.2.2.2.2.2.2.2.2))⟩ (fun hHeld => ?_)
      clear hK K
      refine pure_ (i := 11) (N := some 4) (v := ?_) (a' := ?_) #[true, true, true, true, true, true, true, true, true, true, true, true] rfl rfl (any_of HT_.out (by kernel_rfl)) (fun _ _ _ h => h) (Or.inl ⟨by rfl, ?_⟩) ?_ ?_
      rotate_left
      ·intro w'
       go_simp
       with_reducible rfl
      rotate_left
      ·simp only [Act.put, List.setIfInBounds_toArray, List.set_cons_zero, List.set_cons_succ, i64_w, i32_w]
       rfl
      refine done_ (done_of HT_.out (by kernel_rfl)) ?_
      try go_wp2
      go_ret
      exact ⟨by rw [HV.out]; rfl, by repeat (first | (with_reducible first | exact HB.out | apply below_alloc | apply pw_below_drewN | apply below_drew1 | refine below_set ?_ GE103.out | refine below_set ?_ GE111.out) | exact HB.out)⟩
    | true =>
      rw [hl] at A180
      have A18 := Aside0.mk A180
      clear A180
      by_cases p1 : 0 < a0_1
      · have p1b : decide (0 < a0_1) = true := decide_eq_true p1
        clear p1
        by_cases hXt : bareB a0_4 a0_5 a0_6 = true
        · have czb : (!(t104 == a0_0) || (!(t105 == a0_1) || (!(t106 == a0_2) || (!(t108.toList == a0_4.toList) || (!(t109.toList == a0_5.toList) || (!(t110 == a0_6))))))) = false := by rw [ne1 A16.out, hXt]; rfl
          have HV : Aside0 (r = 0) := ⟨by rw [HRV2.out, ok1 HKD.out, hl, p1b, hXt]; rfl⟩
          clear hXt
          go_wp2
          have n0_ := Aside0.mk (blk_drew BK103.out)
          have n1_ := Aside0.mk (blk_drew BK111.out)
          have n2_ := Aside0.mk (below_drew1 HB.out)
          clear BK103
          clear BK111
          clear HB
          have BK103 := n0_
          have BK111 := n1_
          have HB := n2_
          clear n0_ n1_ n2_
          refine start_ (n := 12) (S := fun w' => w'.cell? ⟨gb103, 0, none⟩ = some (.int .i64 a0_0) ∧ w'.cell? ⟨gb103, 1, none⟩ = some (.int .i64 a0_1) ∧ w'.cell? ⟨gb103, 2, none⟩ = some (.int .i64 a0_2) ∧ w'.cell? ⟨gb103, 3, none⟩ = some (.int .i64 a0_3) ∧ w'.cell? ⟨gb103, 4, none⟩ = some (.string a0_4) ∧ w'.cell? ⟨gb103, 5, none⟩ = some (.string a0_5) ∧ w'.cell? ⟨gb103, 6, none⟩ = some (.bool a0_6) ∧ w'.cell? ⟨gb103, 7, none⟩ = some (.slice A0_7 l0_7.length c0_7) ∧ w'.cell? ⟨gb103, 8, none⟩ = some (.slice A0_8 l0_8.length c0_8)) (ds := []) #[false, false, false, false, false, false, false, false, false, false, false, false] (by kernel_rfl) rfl rfl ⟨(blk_cell BK103.out 0).trans rfl, (blk_cell BK103.out 1).trans rfl, (blk_cell BK103.out 2).trans rfl, (blk_cell BK103.out 3).trans rfl, (blk_cell BK103.out 4).trans rfl, (blk_cell BK103.out 5).trans rfl, (blk_cell BK103.out 6).trans rfl, (blk_cell BK103.out 7).trans rfl, (blk_cell BK103.out 8).trans rfl⟩ (fun hHeld => ?_); refine with_tabW record_Check.tab7 record_Check.bits7 (fun HT_ HW_ => ?_)
          generalize w35.drew = w36 at BK103 BK111 HB hHeld ⊢
          refine pure_ (i := 0) (N := some 47) (v := ?_) (a' := ?_) #[true, false, false, false, false, false, false, false, false, false, false, false] rfl rfl (any_of HT_.out (by kernel_rfl)) (fun _ _ _ h => h) (Or.inl ⟨by rfl, ?_⟩) ?_ ?_
          rotate_left
          ·intro w'
           go_simp
           with_reducible rfl
          rotate_left
          ·simp only [Act.put, List.setIfInBounds_toArray, List.set_cons_zero, List.set_cons_succ, i64_w, i32_w]
           rfl
          refine take_ (i := 1) (N := some 48) (v := ?_) (a' := ?_) #[true, true, false, false, false, false, false, false, false, false, false, false] rfl rfl (take_ofW HT_.out HW_.out (by kernel_rfl)) (fun _ _ _ h => h) (Or.inl ⟨by rfl, ?_⟩) hHeld ?_ ?_
          rotate_left
          ·rintro w' ⟨s0, s1, s2, s3, s4, s5, s6, s7, s8⟩
           go_simp
           with_reducible rfl
          rotate_left
          ·simp only [Act.put, List.setIfInBounds_toArray, List.set_cons_zero, List.set_cons_succ, i64_w, i32_w]
           rfl
          refine pure_ (i := 9) (N := some 56) (v := ?_) (a' := ?_) #[true, true, false, false, false, false, false, false, false, true, false, false] rfl rfl (any_of HT_.out (by kernel_rfl)) (fun _ _ _ h => h) (Or.inl ⟨by rfl, ?_⟩) ?_ ?_
          rotate_left
          ·intro w'
           go_simp
           with_reducible rfl
          rotate_left
          ·simp only [Act.put, List.setIfInBounds_toArray, List.set_cons_zero, List.set_cons_succ, i64_w, i32_w]
           rfl
          refine take_ (i := 2) (N := some 49) (v := ?_) (a' := ?_) #[true, true, true, false, false, false, false, false, false, true, false, false] rfl rfl (take_ofW HT_.out HW_.out (by kernel_rfl)) (fun _ _ _ h => h) (Or.inl ⟨by rfl, ?_⟩) hHeld ?_ ?_
          rotate_left
          ·rintro w' ⟨s0, s1, s2, s3, s4, s5, s6, s7, s8⟩
           go_simp
           with_reducible rfl
          rotate_left
          ·simp only [Act.put, List.setIfInBounds_toArray, List.set_cons_zero, List.set_cons_succ, i64_w, i32_w]
           rfl
          refine one_ (i := 3) (N := some 50) #[true, true, true, true, false, false, false, false, false, true, false, false] rfl rfl (one_of HT_.out (by kernel_rfl)) (by decide) (fun K hK => ?_)
          refine goes_ Try.func74 (by kernel_rfl) rfl #[.agg #[.int .i64 a0_0, .int .i64 a0_1, .int .i64 a0_2, .int .i64 a0_3, .string a0_4, .string a0_5, .bool a0_6, .slice A0_7 l0_7.length c0_7, .slice A0_8 l0_8.length c0_8]] (by rfl) rfl rfl (by (try simp only [List.map_toArray, List.map_cons, List.map_nil]); first | done | rfl | (simp only [List.length_drop, List.length_take]; rfl)) ?_
          with_reducible refine (record_listed.calls kj1 a0_0 a0_1 a0_2 a0_3 a0_4 a0_5 a0_6 _ _ l0_7 _ _ l0_8 true _ ?side1 ?side2 ?side3 ?side4 A18.out).mono ?_
          (case side1 => repeat (first | exact (Kd.C_below HR0_7.out HB.out) | (with_reducible refine Kd.C_alloc ?_ _) | (with_reducible refine Kd.C_drewN ?_ _) | (with_reducible refine Kd.C_drew ?_)))
          (case side2 => exact HC0_7.out)
          (case side3 => repeat (first | exact (Kd.C_below HR0_8.out HB.out) | (with_reducible refine Kd.C_alloc ?_ _) | (with_reducible refine Kd.C_drewN ?_ _) | (with_reducible refine Kd.C_drew ?_)))
          (case side4 => exact HC0_8.out)
          rintro e w37 ⟨rfl, hb⟩
          refine ⟨_, rfl, ?_⟩
          have n0_ := Aside0.mk (blk_below (g := gb103) (o := .cells #[.int .i64 a0_0, .int .i64 a0_1, .int .i64 a0_2, .int .i64 a0_3, .string a0_4, .string a0_5, .bool a0_6, .slice A0_7 l0_7.length c0_7, .slice A0_8 l0_8.length c0_8] 35 (0, 0)) (by (with_reducible repeat (first | refine blk_drewN ?_ _ | refine blk_drew ?_ | refine blk_alloc ?_ _)); exact BK103.out) hb)
          have n1_ := Aside0.mk (blk_below (g := gb111) (o := .cells #[.int .i64 t104, .int .i64 t105, .int .i64 t106, .int .i64 t107, .string t108, .string t109, .bool t110] 129 (0, 0)) (by (with_reducible repeat (first | refine blk_drewN ?_ _ | refine blk_drew ?_ | refine blk_alloc ?_ _)); exact BK111.out) hb)
          have n2_ := Aside0.mk (below_step (by repeat (first | (with_reducible first | exact HB.out | apply below_alloc | apply pw_below_drewN | apply below_drew1 | refine below_set ?_ GE103.out | refine below_set ?_ GE111.out) | exact HB.out)) hb)
          clear BK103
          clear BK111
          clear HB
          have BK103 := n0_
          have BK111 := n1_
          have HB := n2_
          clear n0_ n1_ n2_
          (try clear hb)
          (try clear hb2)
          (try clear hk)
          (try clear hi)
          refine hK.out _ _ ⟨(blk_cell BK103.out 0).trans rfl, (blk_cell BK103.out 1).trans rfl, (blk_cell BK103.out 2).trans rfl, (blk_cell BK103.out 3).trans rfl, (blk_cell BK103.out 4).trans rfl, (blk_cell BK103.out 5).trans rfl, (blk_cell BK103.out 6).trans rfl, (blk_cell BK103.out 7).trans rfl, (blk_cell BK103.out 8).trans rfl⟩ (fun hHeld => ?_)
          clear hK K
          refine norm_ (a' := ?_) ?_ ?_
          rotate_left
          ·show Act.put _ (some 50) _ = _
           simp only [Act.put, List.setIfInBounds_toArray, List.set_cons_zero, List.set_cons_succ, i64_w, i32_w]
           rfl
          refine pure_ (i := 4) (N := some 51) (v := ?_) (a' := ?_) #[true, true, true, true, true, false, false, false, false, true, false, false] rfl rfl (any_of HT_.out (by kernel_rfl)) (fun _ _ _ h => h) (Or.inl ⟨by rfl, ?_⟩) ?_ ?_
          rotate_left
          ·intro w'
           go_simp
           with_reducible rfl
          rotate_left
          ·simp only [Act.put, List.setIfInBounds_toArray, List.set_cons_zero, List.set_cons_succ, i64_w, i32_w]
           rfl
          refine pure_ (i := 5) (N := some 52) (v := ?_) (a' := ?_) #[true, true, true, true, true, true, false, false, false, true, false, false] rfl rfl (any_of HT_.out (by kernel_rfl)) (fun _ _ _ h => h) (Or.inl ⟨by rfl, ?_⟩) ?_ ?_
          rotate_left
          ·intro w'
           go_simp
           with_reducible rfl
          rotate_left
          ·simp only [Act.put, List.setIfInBounds_toArray, List.set_cons_zero, List.set_cons_succ, i64_w, i32_w]
           rfl
          refine take_ (i := 6) (N := some 53) (v := ?_) (a' := ?_) #[true, true, true, true, true, true, true, false, false, true, false, false] rfl rfl (take_ofW HT_.out HW_.out (by kernel_rfl)) (fun _ _ _ h => h) (Or.inl ⟨by rfl, ?_⟩) hHeld ?_ ?_
          rotate_left
          ·rintro w' ⟨s0, s1, s2, s3, s4, s5, s6, s7, s8⟩
           go_simp
           with_reducible rfl
          rotate_left
          ·simp only [Act.put, List.setIfInBounds_toArray, List.set_cons_zero, List.set_cons_succ, i64_w, i32_w]
           rfl
          refine pure_ (i := 7) (N := some 54) (v := ?_) (a' := ?_) #[true, true, true, true, true, true, true, true, false, true, false, false] rfl rfl (any_of HT_.out (by kernel_rfl)) (fun _ _ _ h => h) (Or.inl ⟨by rfl, ?_⟩) ?_ ?_
          rotate_left
          ·intro w'
           go_simp
           with_reducible rfl
          rotate_left
          ·simp only [Act.put, List.setIfInBounds_toArray, List.set_cons_zero, List.set_cons_succ, i64_w, i32_w]
           rfl
          refine pure_ (i := 8) (N := some 55) (v := ?_) (a' := ?_) #[true, true, true, true, true, true, true, true, true, true, false, false] rfl rfl (any_of HT_.out (by kernel_rfl)) (fun _ _ _ h => h) (Or.inl ⟨by rfl, ?_⟩) ?_ ?_
          rotate_left
          ·intro w'
           go_simp
           with_reducible rfl
          rotate_left
          ·simp only [Act.put, List.setIfInBounds_toArray, List.set_cons_zero, List.set_cons_succ, i64_w, i32_w]
           rfl
          refine one_ (i := 10) (N := none) #[true, true, true, true, true, true, true, true, true, true, true, false] rfl rfl (one_of HT_.out (by kernel_rfl)) (by decide) (fun K hK => ?_)
          have hs38 : w37.cell? ⟨gb111, 3, none⟩ = some (.int .i64 t107) := (blk_cell BK111.out 3).trans rfl
          have hfs38 := blk_frozen BK111.out 3
          have hns38_0 := NB103_111.out
          have hms38_0 := NB111_103.out
          refine skip_ (w1 := ?_) (by rfl) rfl ?_ ?_
          rotate_left
          ·go_simp
           rfl
          refine hK.out _ _ ⟨((cell_far (p := ⟨gb111, _, none⟩) NB103_111.out _).trans (hHeld.1)), ((cell_far (p := ⟨gb111, _, none⟩) NB103_111.out _).trans (hHeld.2.1)), ((cell_far (p := ⟨gb111, _, none⟩) NB103_111.out _).trans (hHeld.2.2.1)), ((cell_far (p := ⟨gb111, _, none⟩) NB103_111.out _).trans (hHeld.2.2.2.1)), ((cell_far (p := ⟨gb111, _, none⟩) NB103_111.out _).trans (hHeld.2.2.2.2.1)), ((cell_far (p := ⟨gb111, _, none⟩) NB103_111.out _).trans (hHeld.2.2.2.2.2.1)), ((cell_far (p := ⟨gb111, _, none⟩) NB103_111.out _).trans (hHeld.2.2.2.2.2.2.1)), ((cell_far (p := ⟨gb111, _, none⟩) NB103_111.out _).trans (hHeld.2.2.2.2.2.2.2.1)), ((cell_far (p := ⟨gb111, _, none⟩) NB103_111.out _).trans (hHeld.2.2.2.2.2.2.2.2))⟩ (fun hHeld => ?_)
          clear hK K
          refine pure_ (i := 11) (N := some 4) (v := ?_) (a' := ?_) #[true, true, true, true, true, true, true, true, true, true, true, true] rfl rfl (any_of HT_.out (by kernel_rfl)) (fun _ _ _ h => h) (Or.inl ⟨by rfl, ?_⟩) ?_ ?_
          rotate_left
          ·intro w'
           go_simp
           with_reducible rfl
          rotate_left
          ·simp only [Act.put, List.setIfInBounds_toArray, List.set_cons_zero, List.set_cons_succ, i64_w, i32_w]
           rfl
          refine done_ (done_of HT_.out (by kernel_rfl)) ?_
          have hcz39_0 : w37.cell? ⟨gb111, 0, none⟩ = some (.int .i64 t104) := (blk_cell BK111.out 0).trans rfl
          have hcz39_1 : w37.cell? ⟨gb111, 1, none⟩ = some (.int .i64 t105) := (blk_cell BK111.out 1).trans rfl
          have hcz39_2 : w37.cell? ⟨gb111, 2, none⟩ = some (.int .i64 t106) := (blk_cell BK111.out 2).trans rfl
          have hcz39_3 : w37.cell? ⟨gb111, 3, none⟩ = some (.int .i64 t107) := (blk_cell BK111.out 3).trans rfl
          have hcz39_4 : w37.cell? ⟨gb111, 4, none⟩ = some (.string t108) := (blk_cell BK111.out 4).trans rfl
          have hcz39_5 : w37.cell? ⟨gb111, 5, none⟩ = some (.string t109) := (blk_cell BK111.out 5).trans rfl
          have hcz39_6 : w37.cell? ⟨gb111, 6, none⟩ = some (.bool t110) := (blk_cell BK111.out 6).trans rfl
          have hfz39_0 := blk_frozen BK111.out 0
          have hfz39_1 := blk_frozen BK111.out 1
          have hfz39_2 := blk_frozen BK111.out 2
          have hfz39_3 := blk_frozen BK111.out 3
          have hfz39_4 := blk_frozen BK111.out 4
          have hfz39_5 := blk_frozen BK111.out 5
          have hfz39_6 := blk_frozen BK111.out 6
          have hcz40_0 : w37.cell? ⟨gb103, 0, none⟩ = some (.int .i64 a0_0) := (blk_cell BK103.out 0).trans rfl
          have hcz40_1 : w37.cell? ⟨gb103, 1, none⟩ = some (.int .i64 a0_1) := (blk_cell BK103.out 1).trans rfl
          have hcz40_2 : w37.cell? ⟨gb103, 2, none⟩ = some (.int .i64 a0_2) := (blk_cell BK103.out 2).trans rfl
          have hcz40_3 : w37.cell? ⟨gb103, 3, none⟩ = some (.int .i64 a0_3) := (blk_cell BK103.out 3).trans rfl
          have hcz40_4 : w37.cell? ⟨gb103, 4, none⟩ = some (.string a0_4) := (blk_cell BK103.out 4).trans rfl
          have hcz40_5 : w37.cell? ⟨gb103, 5, none⟩ = some (.string a0_5) := (blk_cell BK103.out 5).trans rfl
          have hcz40_6 : w37.cell? ⟨gb103, 6, none⟩ = some (.bool a0_6) := (blk_cell BK103.out 6).trans rfl
          have hcz40_7 : w37.cell? ⟨gb103, 7, none⟩ = some (.slice A0_7 l0_7.length c0_7) := (blk_cell BK103.out 7).trans rfl
          have hcz40_8 : w37.cell? ⟨gb103, 8, none⟩ = some (.slice A0_8 l0_8.length c0_8) := (blk_cell BK103.out 8).trans rfl
          have hfz40_0 := blk_frozen BK103.out 0
          have hfz40_1 := blk_frozen BK103.out 1
          have hfz40_2 := blk_frozen BK103.out 2
          have hfz40_3 := blk_frozen BK103.out 3
          have hfz40_4 := blk_frozen BK103.out 4
          have hfz40_5 := blk_frozen BK103.out 5
          have hfz40_6 := blk_frozen BK103.out 6
          have hfz40_7 := blk_frozen BK103.out 7
          have hfz40_8 := blk_frozen BK103.out 8
          try go_wp2
          go_ret
          exact ⟨by rw [HV.out]; rfl, by repeat (first | (with_reducible first | exact HB.out | apply below_alloc | apply pw_below_drewN | apply below_drew1 | refine below_set ?_ GE103.out | refine below_set ?_ GE111.out) | exact HB.out)⟩
        · have hXf : bareB a0_4 a0_5 a0_6 = false := by simpa only [Bool.not_eq_true] using hXt
          clear hXt
          have czb : (!(t104 == a0_0) || (!(t105 == a0_1) || (!(t106 == a0_2) || (!(t108.toList == a0_4.toList) || (!(t109.toList == a0_5.toList) || (!(t110 == a0_6))))))) = true := by rw [ne1 A16.out, hXf]; rfl
          have HV : Aside0 (r = 80) := ⟨by rw [HRV2.out, ok1 HKD.out, hl, p1b, hXf]; rfl⟩
          clear hXf
          go_wp2
          have n0_ := Aside0.mk (blk_drew BK103.out)
          have n1_ := Aside0.mk (blk_drew BK111.out)
          have n2_ := Aside0.mk (below_drew1 HB.out)
          clear BK103
          clear BK111
          clear HB
          have BK103 := n0_
          have BK111 := n1_
          have HB := n2_
          clear n0_ n1_ n2_
          refine start_ (n := 12) (S := fun w' => w'.cell? ⟨gb103, 0, none⟩ = some (.int .i64 a0_0) ∧ w'.cell? ⟨gb103, 1, none⟩ = some (.int .i64 a0_1) ∧ w'.cell? ⟨gb103, 2, none⟩ = some (.int .i64 a0_2) ∧ w'.cell? ⟨gb103, 3, none⟩ = some (.int .i64 a0_3) ∧ w'.cell? ⟨gb103, 4, none⟩ = some (.string a0_4) ∧ w'.cell? ⟨gb103, 5, none⟩ = some (.string a0_5) ∧ w'.cell? ⟨gb103, 6, none⟩ = some (.bool a0_6) ∧ w'.cell? ⟨gb103, 7, none⟩ = some (.slice A0_7 l0_7.length c0_7) ∧ w'.cell? ⟨gb103, 8, none⟩ = some (.slice A0_8 l0_8.length c0_8)) (ds := []) #[false, false, false, false, false, false, false, false, false, false, false, false] (by kernel_rfl) rfl rfl ⟨(blk_cell BK103.out 0).trans rfl, (blk_cell BK103.out 1).trans rfl, (blk_cell BK103.out 2).trans rfl, (blk_cell BK103.out 3).trans rfl, (blk_cell BK103.out 4).trans rfl, (blk_cell BK103.out 5).trans rfl, (blk_cell BK103.out 6).trans rfl, (blk_cell BK103.out 7).trans rfl, (blk_cell BK103.out 8).trans rfl⟩ (fun hHeld => ?_); refine with_tabW record_Check.tab7 record_Check.bits7 (fun HT_ HW_ => ?_)
          generalize w35.drew = w36 at BK103 BK111 HB hHeld ⊢
          refine pure_ (i := 0) (N := some 47) (v := ?_) (a' := ?_) #[true, false, false, false, false, false, false, false, false, false, false, false] rfl rfl (any_of HT_.out (by kernel_rfl)) (fun _ _ _ h => h) (Or.inl ⟨by rfl, ?_⟩) ?_ ?_
          rotate_left
          ·intro w'
           go_simp
           with_reducible rfl
          rotate_left
          ·simp only [Act.put, List.setIfInBounds_toArray, List.set_cons_zero, List.set_cons_succ, i64_w, i32_w]
           rfl
          refine take_ (i := 1) (N := some 48) (v := ?_) (a' := ?_) #[true, true, false, false, false, false, false, false, false, false, false, false] rfl rfl (take_ofW HT_.out HW_.out (by kernel_rfl)) (fun _ _ _ h => h) (Or.inl ⟨by rfl, ?_⟩) hHeld ?_ ?_
          rotate_left
          ·rintro w' ⟨s0, s1, s2, s3, s4, s5, s6, s7, s8⟩
           go_simp
           with_reducible rfl
          rotate_left
          ·simp only [Act.put, List.setIfInBounds_toArray, List.set_cons_zero, List.set_cons_succ, i64_w, i32_w]
           rfl
          refine pure_ (i := 9) (N := some 56) (v := ?_) (a' := ?_) #[true, true, false, false, false, false, false, false, false, true, false, false] rfl rfl (any_of HT_.out (by kernel_rfl)) (fun _ _ _ h => h) (Or.inl ⟨by rfl, ?_⟩) ?_ ?_
          rotate_left
          ·intro w'
           go_simp
           with_reducible rfl
          rotate_left
          ·simp only [Act.put, List.setIfInBounds_toArray, List.set_cons_zero, List.set_cons_succ, i64_w, i32_w]
           rfl
          refine take_ (i := 2) (N := some 49) (v := ?_) (a' := ?_) #[true, true, true, false, false, false, false, false, false, true, false, false] rfl rfl (take_ofW HT_.out HW_.out (by kernel_rfl)) (fun _ _ _ h => h) (Or.inl ⟨by rfl, ?_⟩) hHeld ?_ ?_
          rotate_left
          ·rintro w' ⟨s0, s1, s2, s3, s4, s5, s6, s7, s8⟩
           go_simp
           with_reducible rfl
          rotate_left
          ·simp only [Act.put, List.setIfInBounds_toArray, List.set_cons_zero, List.set_cons_succ, i64_w, i32_w]
           rfl
          refine one_ (i := 3) (N := some 50) #[true, true, true, true, false, false, false, false, false, true, false, false] rfl rfl (one_of HT_.out (by kernel_rfl)) (by decide) (fun K hK => ?_)
          refine goes_ Try.func74 (by kernel_rfl) rfl #[.agg #[.int .i64 a0_0, .int .i64 a0_1, .int .i64 a0_2, .int .i64 a0_3, .string a0_4, .string a0_5, .bool a0_6, .slice A0_7 l0_7.length c0_7, .slice A0_8 l0_8.length c0_8]] (by rfl) rfl rfl (by (try simp only [List.map_toArray, List.map_cons, List.map_nil]); first | done | rfl | (simp only [List.length_drop, List.length_take]; rfl)) ?_
          with_reducible refine (record_listed.calls kj1 a0_0 a0_1 a0_2 a0_3 a0_4 a0_5 a0_6 _ _ l0_7 _ _ l0_8 true _ ?side1 ?side2 ?side3 ?side4 A18.out).mono ?_
          (case side1 => repeat (first | exact (Kd.C_below HR0_7.out HB.out) | (with_reducible refine Kd.C_alloc ?_ _) | (with_reducible refine Kd.C_drewN ?_ _) | (with_reducible refine Kd.C_drew ?_)))
          (case side2 => exact HC0_7.out)
          (case side3 => repeat (first | exact (Kd.C_below HR0_8.out HB.out) | (with_reducible refine Kd.C_alloc ?_ _) | (with_reducible refine Kd.C_drewN ?_ _) | (with_reducible refine Kd.C_drew ?_)))
          (case side4 => exact HC0_8.out)
          rintro e w37 ⟨rfl, hb⟩
          refine ⟨_, rfl, ?_⟩
          have n0_ := Aside0.mk (blk_below (g := gb103) (o := .cells #[.int .i64 a0_0, .int .i64 a0_1, .int .i64 a0_2, .int .i64 a0_3, .string a0_4, .string a0_5, .bool a0_6, .slice A0_7 l0_7.length c0_7, .slice A0_8 l0_8.length c0_8] 35 (0, 0)) (by (with_reducible repeat (first | refine blk_drewN ?_ _ | refine blk_drew ?_ | refine blk_alloc ?_ _)); exact BK103.out) hb)
          have n1_ := Aside0.mk (blk_below (g := gb111) (o := .cells #[.int .i64 t104, .int .i64 t105, .int .i64 t106, .int .i64 t107, .string t108, .string t109, .bool t110] 129 (0, 0)) (by (with_reducible repeat (first | refine blk_drewN ?_ _ | refine blk_drew ?_ | refine blk_alloc ?_ _)); exact BK111.out) hb)
          have n2_ := Aside0.mk (below_step (by repeat (first | (with_reducible first | exact HB.out | apply below_alloc | apply pw_below_drewN | apply below_drew1 | refine below_set ?_ GE103.out | refine below_set ?_ GE111.out) | exact HB.out)) hb)
          clear BK103
          clear BK111
          clear HB
          have BK103 := n0_
          have BK111 := n1_
          have HB := n2_
          clear n0_ n1_ n2_
          (try clear hb)
          (try clear hb2)
          (try clear hk)
          (try clear hi)
          refine hK.out _ _ ⟨(blk_cell BK103.out 0).trans rfl, (blk_cell BK103.out 1).trans rfl, (blk_cell BK103.out 2).trans rfl, (blk_cell BK103.out 3).trans rfl, (blk_cell BK103.out 4).trans rfl, (blk_cell BK103.out 5).trans rfl, (blk_cell BK103.out 6).trans rfl, (blk_cell BK103.out 7).trans rfl, (blk_cell BK103.out 8).trans rfl⟩ (fun hHeld => ?_)
          clear hK K
          refine norm_ (a' := ?_) ?_ ?_
          rotate_left
          ·show Act.put _ (some 50) _ = _
           simp only [Act.put, List.setIfInBounds_toArray, List.set_cons_zero, List.set_cons_succ, i64_w, i32_w]
           rfl
          refine pure_ (i := 4) (N := some 51) (v := ?_) (a' := ?_) #[true, true, true, true, true, false, false, false, false, true, false, false] rfl rfl (any_of HT_.out (by kernel_rfl)) (fun _ _ _ h => h) (Or.inl ⟨by rfl, ?_⟩) ?_ ?_
          rotate_left
          ·intro w'
           go_simp
           with_reducible rfl
          rotate_left
          ·simp only [Act.put, List.setIfInBounds_toArray, List.set_cons_zero, List.set_cons_succ, i64_w, i32_w]
           rfl
          refine pure_ (i := 5) (N := some 52) (v := ?_) (a' := ?_) #[true, true, true, true, true, true, false, false, false, true, false, false] rfl rfl (any_of HT_.out (by kernel_rfl)) (fun _ _ _ h => h) (Or.inl ⟨by rfl, ?_⟩) ?_ ?_
          rotate_left
          ·intro w'
           go_simp
           with_reducible rfl
          rotate_left
          ·simp only [Act.put, List.setIfInBounds_toArray, List.set_cons_zero, List.set_cons_succ, i64_w, i32_w]
           rfl
          refine take_ (i := 6) (N := some 53) (v := ?_) (a' := ?_) #[true, true, true, true, true, true, true, false, false, true, false, false] rfl rfl (take_ofW HT_.out HW_.out (by kernel_rfl)) (fun _ _ _ h => h) (Or.inl ⟨by rfl, ?_⟩) hHeld ?_ ?_
          rotate_left
          ·rintro w' ⟨s0, s1, s2, s3, s4, s5, s6, s7, s8⟩
           go_simp
           with_reducible rfl
          rotate_left
          ·simp only [Act.put, List.setIfInBounds_toArray, List.set_cons_zero, List.set_cons_succ, i64_w, i32_w]
           rfl
          refine pure_ (i := 7) (N := some 54) (v := ?_) (a' := ?_) #[true, true, true, true, true, true, true, true, false, true, false, false] rfl rfl (any_of HT_.out (by kernel_rfl)) (fun _ _ _ h => h) (Or.inl ⟨by rfl, ?_⟩) ?_ ?_
          rotate_left
          ·intro w'
           go_simp
           with_reducible rfl
          rotate_left
          ·simp only [Act.put, List.setIfInBounds_toArray, List.set_cons_zero, List.set_cons_succ, i64_w, i32_w]
           rfl
          refine pure_ (i := 8) (N := some 55) (v := ?_) (a' := ?_) #[true, true, true, true, true, true, true, true, true, true, false, false] rfl rfl (any_of HT_.out (by kernel_rfl)) (fun _ _ _ h => h) (Or.inl ⟨by rfl, ?_⟩) ?_ ?_
          rotate_left
          ·intro w'
           go_simp
           with_reducible rfl
          rotate_left
          ·simp only [Act.put, List.setIfInBounds_toArray, List.set_cons_zero, List.set_cons_succ, i64_w, i32_w]
           rfl
          refine one_ (i := 10) (N := none) #[true, true, true, true, true, true, true, true, true, true, true, false] rfl rfl (one_of HT_.out (by kernel_rfl)) (by decide) (fun K hK => ?_)
          have hs38 : w37.cell? ⟨gb111, 3, none⟩ = some (.int .i64 t107) := (blk_cell BK111.out 3).trans rfl
          have hfs38 := blk_frozen BK111.out 3
          have hns38_0 := NB103_111.out
          have hms38_0 := NB111_103.out
          refine skip_ (w1 := ?_) (by rfl) rfl ?_ ?_
          rotate_left
          ·go_simp
           rfl
          refine hK.out _ _ ⟨((cell_far (p := ⟨gb111, _, none⟩) NB103_111.out _).trans (hHeld.1)), ((cell_far (p := ⟨gb111, _, none⟩) NB103_111.out _).trans (hHeld.2.1)), ((cell_far (p := ⟨gb111, _, none⟩) NB103_111.out _).trans (hHeld.2.2.1)), ((cell_far (p := ⟨gb111, _, none⟩) NB103_111.out _).trans (hHeld.2.2.2.1)), ((cell_far (p := ⟨gb111, _, none⟩) NB103_111.out _).trans (hHeld.2.2.2.2.1)), ((cell_far (p := ⟨gb111, _, none⟩) NB103_111.out _).trans (hHeld.2.2.2.2.2.1)), ((cell_far (p := ⟨gb111, _, none⟩) NB103_111.out _).trans (hHeld.2.2.2.2.2.2.1)), ((cell_far (p := ⟨gb111, _, none⟩) NB103_111.out _).trans (hHeld.2.2.2.2.2.2.2.1)), ((cell_far (p := ⟨gb111, _, none⟩) NB103_111.out _).trans (hHeld.2.2.2.2.2.2.2.2))⟩ (fun hHeld => ?_)
          clear hK K
          refine pure_ (i := 11) (N := some 4) (v := ?_) (a' := ?_) #[true, true, true, true, true, true, true, true, true, true, true, true] rfl rfl (any_of HT_.out (by kernel_rfl)) (fun _ _ _ h => h) (Or.inl ⟨by rfl, ?_⟩) ?_ ?_
          rotate_left
          ·intro w'
           go_simp
           with_reducible rfl
          rotate_left
          ·simp only [Act.put, List.setIfInBounds_toArray, List.set_cons_zero, List.set_cons_succ, i64_w, i32_w]
           rfl
          refine done_ (done_of HT_.out (by kernel_rfl)) ?_
          have hcz39_0 : w37.cell? ⟨gb111, 0, none⟩ = some (.int .i64 t104) := (blk_cell BK111.out 0).trans rfl
          have hcz39_1 : w37.cell? ⟨gb111, 1, none⟩ = some (.int .i64 t105) := (blk_cell BK111.out 1).trans rfl
          have hcz39_2 : w37.cell? ⟨gb111, 2, none⟩ = some (.int .i64 t106) := (blk_cell BK111.out 2).trans rfl
          have hcz39_3 : w37.cell? ⟨gb111, 3, none⟩ = some (.int .i64 t107) := (blk_cell BK111.out 3).trans rfl
          have hcz39_4 : w37.cell? ⟨gb111, 4, none⟩ = some (.string t108) := (blk_cell BK111.out 4).trans rfl
          have hcz39_5 : w37.cell? ⟨gb111, 5, none⟩ = some (.string t109) := (blk_cell BK111.out 5).trans rfl
          have hcz39_6 : w37.cell? ⟨gb111, 6, none⟩ = some (.bool t110) := (blk_cell BK111.out 6).trans rfl
          have hfz39_0 := blk_frozen BK111.out 0
          have hfz39_1 := blk_frozen BK111.out 1
          have hfz39_2 := blk_frozen BK111.out 2
          have hfz39_3 := blk_frozen BK111.out 3
          have hfz39_4 := blk_frozen BK111.out 4
          have hfz39_5 := blk_frozen BK111.out 5
          have hfz39_6 := blk_frozen BK111.out 6
          have hcz40_0 : w37.cell? ⟨gb103, 0, none⟩ = some (.int .i64 a0_0) := (blk_cell BK103.out 0).trans rfl
          have hcz40_1 : w37.cell? ⟨gb103, 1, none⟩ = some (.int .i64 a0_1) := (blk_cell BK103.out 1).trans rfl
          have hcz40_2 : w37.cell? ⟨gb103, 2, none⟩ = some (.int .i64 a0_2) := (blk_cell BK103.out 2).trans rfl
          have hcz40_3 : w37.cell? ⟨gb103, 3, none⟩ = some (.int .i64 a0_3) := (blk_cell BK103.out 3).trans rfl
          have hcz40_4 : w37.cell? ⟨gb103, 4, none⟩ = some (.string a0_4) := (blk_cell BK103.out 4).trans rfl
          have hcz40_5 : w37.cell? ⟨gb103, 5, none⟩ = some (.string a0_5) := (blk_cell BK103.out 5).trans rfl
          have hcz40_6 : w37.cell? ⟨gb103, 6, none⟩ = some (.bool a0_6) := (blk_cell BK103.out 6).trans rfl
          have hcz40_7 : w37.cell? ⟨gb103, 7, none⟩ = some (.slice A0_7 l0_7.length c0_7) := (blk_cell BK103.out 7).trans rfl
          have hcz40_8 : w37.cell? ⟨gb103, 8, none⟩ = some (.slice A0_8 l0_8.length c0_8) := (blk_cell BK103.out 8).trans rfl
          have hfz40_0 := blk_frozen BK103.out 0
          have hfz40_1 := blk_frozen BK103.out 1
          have hfz40_2 := blk_frozen BK103.out 2
          have hfz40_3 := blk_frozen BK103.out 3
          have hfz40_4 := blk_frozen BK103.out 4
          have hfz40_5 := blk_frozen BK103.out 5
          have hfz40_6 := blk_frozen BK103.out 6
          have hfz40_7 := blk_frozen BK103.out 7
          have hfz40_8 := blk_frozen BK103.out 8
          try go_wp2
          go_ret
          exact ⟨by rw [HV.out]; rfl, by repeat (first | (with_reducible first | exact HB.out | apply below_alloc | apply pw_below_drewN | apply below_drew1 | refine below_set ?_ GE103.out | refine below_set ?_ GE111.out) | exact HB.out)⟩
      · have p1b : decide (0 < a0_1) = false := decide_eq_false p1
        clear p1
        have HV : Aside0 (r = 80) := ⟨by rw [HRV2.out, ok1 HKD.out, hl, p1b]; rfl⟩
        go_wp2
        have n0_ := Aside0.mk (blk_drew BK103.out)
        have n1_ := Aside0.mk (blk_drew BK111.out)
        have n2_ := Aside0.mk (below_drew1 HB.out)
        clear BK103
        clear BK111
        clear HB
        have BK103 := n0_
        have BK111 := n1_
        have HB := n2_
        clear n0_ n1_ n2_
        refine start_ (n := 12) (S := fun w' => w'.cell? ⟨gb103, 0, none⟩ = some (.int .i64 a0_0) ∧ w'.cell? ⟨gb103, 1, none⟩ = some (.int .i64 a0_1) ∧ w'.cell? ⟨gb103, 2, none⟩ = some (.int .i64 a0_2) ∧ w'.cell? ⟨gb103, 3, none⟩ = some (.int .i64 a0_3) ∧ w'.cell? ⟨gb103, 4, none⟩ = some (.string a0_4) ∧ w'.cell? ⟨gb103, 5, none⟩ = some (.string a0_5) ∧ w'.cell? ⟨gb103, 6, none⟩ = some (.bool a0_6) ∧ w'.cell? ⟨gb103, 7, none⟩ = some (.slice A0_7 l0_7.length c0_7) ∧ w'.cell? ⟨gb103, 8, none⟩ = some (.slice A0_8 l0_8.length c0_8)) (ds := []) #[false, false, false, false, false, false, false, false, false, false, false, false] (by kernel_rfl) rfl rfl ⟨(blk_cell BK103.out 0).trans rfl, (blk_cell BK103.out 1).trans rfl, (blk_cell BK103.out 2).trans rfl, (blk_cell BK103.out 3).trans rfl, (blk_cell BK103.out 4).trans rfl, (blk_cell BK103.out 5).trans rfl, (blk_cell BK103.out 6).trans rfl, (blk_cell BK103.out 7).trans rfl, (blk_cell BK103.out 8).trans rfl⟩ (fun hHeld => ?_); refine with_tabW record_Check.tab7 record_Check.bits7 (fun HT_ HW_ => ?_)
        generalize w35.drew = w36 at BK103 BK111 HB hHeld ⊢
        refine pure_ (i := 0) (N := some 47) (v := ?_) (a' := ?_) #[true, false, false, false, false, false, false, false, false, false, false, false] rfl rfl (any_of HT_.out (by kernel_rfl)) (fun _ _ _ h => h) (Or.inl ⟨by rfl, ?_⟩) ?_ ?_
        rotate_left
        ·intro w'
         go_simp
         with_reducible rfl
        rotate_left
        ·simp only [Act.put, List.setIfInBounds_toArray, List.set_cons_zero, List.set_cons_succ, i64_w, i32_w]
         rfl
        refine take_ (i := 1) (N := some 48) (v := ?_) (a' := ?_) #[true, true, false, false, false, false, false, false, false, false, false, false] rfl rfl (take_ofW HT_.out HW_.out (by kernel_rfl)) (fun _ _ _ h => h) (Or.inl ⟨by rfl, ?_⟩) hHeld ?_ ?_
        rotate_left
        ·rintro w' ⟨s0, s1, s2, s3, s4, s5, s6, s7, s8⟩
         go_simp
         with_reducible rfl
        rotate_left
        ·simp only [Act.put, List.setIfInBounds_toArray, List.set_cons_zero, List.set_cons_succ, i64_w, i32_w]
         rfl
        refine pure_ (i := 9) (N := some 56) (v := ?_) (a' := ?_) #[true, true, false, false, false, false, false, false, false, true, false, false] rfl rfl (any_of HT_.out (by kernel_rfl)) (fun _ _ _ h => h) (Or.inl ⟨by rfl, ?_⟩) ?_ ?_
        rotate_left
        ·intro w'
         go_simp
         with_reducible rfl
        rotate_left
        ·simp only [Act.put, List.setIfInBounds_toArray, List.set_cons_zero, List.set_cons_succ, i64_w, i32_w]
         rfl
        refine take_ (i := 2) (N := some 49) (v := ?_) (a' := ?_) #[true, true, true, false, false, false, false, false, false, true, false, false] rfl rfl (take_ofW HT_.out HW_.out (by kernel_rfl)) (fun _ _ _ h => h) (Or.inl ⟨by rfl, ?_⟩) hHeld ?_ ?_
        rotate_left
        ·rintro w' ⟨s0, s1, s2, s3, s4, s5, s6, s7, s8⟩
         go_simp
         with_reducible rfl
        rotate_left
        ·simp only [Act.put, List.setIfInBounds_toArray, List.set_cons_zero, List.set_cons_succ, i64_w, i32_w]
         rfl
        refine one_ (i := 3) (N := some 50) #[true, true, true, true, false, false, false, false, false, true, false, false] rfl rfl (one_of HT_.out (by kernel_rfl)) (by decide) (fun K hK => ?_)
        refine goes_ Try.func74 (by kernel_rfl) rfl #[.agg #[.int .i64 a0_0, .int .i64 a0_1, .int .i64 a0_2, .int .i64 a0_3, .string a0_4, .string a0_5, .bool a0_6, .slice A0_7 l0_7.length c0_7, .slice A0_8 l0_8.length c0_8]] (by rfl) rfl rfl (by (try simp only [List.map_toArray, List.map_cons, List.map_nil]); first | done | rfl | (simp only [List.length_drop, List.length_take]; rfl)) ?_
        with_reducible refine (record_listed.calls kj1 a0_0 a0_1 a0_2 a0_3 a0_4 a0_5 a0_6 _ _ l0_7 _ _ l0_8 true _ ?side1 ?side2 ?side3 ?side4 A18.out).mono ?_
        (case side1 => repeat (first | exact (Kd.C_below HR0_7.out HB.out) | (with_reducible refine Kd.C_alloc ?_ _) | (with_reducible refine Kd.C_drewN ?_ _) | (with_reducible refine Kd.C_drew ?_)))
        (case side2 => exact HC0_7.out)
        (case side3 => repeat (first | exact (Kd.C_below HR0_8.out HB.out) | (with_reducible refine Kd.C_alloc ?_ _) | (with_reducible refine Kd.C_drewN ?_ _) | (with_reducible refine Kd.C_drew ?_)))
        (case side4 => exact HC0_8.out)
        rintro e w37 ⟨rfl, hb⟩
        refine ⟨_, rfl, ?_⟩
        have n0_ := Aside0.mk (blk_below (g := gb103) (o := .cells #[.int .i64 a0_0, .int .i64 a0_1, .int .i64 a0_2, .int .i64 a0_3, .string a0_4, .string a0_5, .bool a0_6, .slice A0_7 l0_7.length c0_7, .slice A0_8 l0_8.length c0_8] 35 (0, 0)) (by (with_reducible repeat (first | refine blk_drewN ?_ _ | refine blk_drew ?_ | refine blk_alloc ?_ _)); exact BK103.out) hb)
        have n1_ := Aside0.mk (blk_below (g := gb111) (o := .cells #[.int .i64 t104, .int .i64 t105, .int .i64 t106, .int .i64 t107, .string t108, .string t109, .bool t110] 129 (0, 0)) (by (with_reducible repeat (first | refine blk_drewN ?_ _ | refine blk_drew ?_ | refine blk_alloc ?_ _)); exact BK111.out) hb)
        have n2_ := Aside0.mk (below_step (by repeat (first | (with_reducible first | exact HB.out | apply below_alloc | apply pw_below_drewN | apply below_drew1 | refine below_set ?_ GE103.out | refine below_set ?_ GE111.out) | exact HB.out)) hb)
        clear BK103
        clear BK111
        clear HB
        have BK103 := n0_
        have BK111 := n1_
        have HB := n2_
        clear n0_ n1_ n2_
        (try clear hb)
        (try clear hb2)
        (try clear hk)
        (try clear hi)
        refine hK.out _ _ ⟨(blk_cell BK103.out 0).trans rfl, (blk_cell BK103.out 1).trans rfl, (blk_cell BK103.out 2).trans rfl, (blk_cell BK103.out 3).trans rfl, (blk_cell BK103.out 4).trans rfl, (blk_cell BK103.out 5).trans rfl, (blk_cell BK103.out 6).trans rfl, (blk_cell BK103.out 7).trans rfl, (blk_cell BK103.out 8).trans rfl⟩ (fun hHeld => ?_)
        clear hK K
        refine norm_ (a' := ?_) ?_ ?_
        rotate_left
        ·show Act.put _ (some 50) _ = _
         simp only [Act.put, List.setIfInBounds_toArray, List.set_cons_zero, List.set_cons_succ, i64_w, i32_w]
         rfl
        refine pure_ (i := 4) (N := some 51) (v := ?_) (a' := ?_) #[true, true, true, true, true, false, false, false, false, true, false, false] rfl rfl (any_of HT_.out (by kernel_rfl)) (fun _ _ _ h => h) (Or.inl ⟨by rfl, ?_⟩) ?_ ?_
        rotate_left
        ·intro w'
         go_simp
         with_reducible rfl
        rotate_left
        ·simp only [Act.put, List.setIfInBounds_toArray, List.set_cons_zero, List.set_cons_succ, i64_w, i32_w]
         rfl
        refine pure_ (i := 5) (N := some 52) (v := ?_) (a' := ?_) #[true, true, true, true, true, true, false, false, false, true, false, false] rfl rfl (any_of HT_.out (by kernel_rfl)) (fun _ _ _ h => h) (Or.inl ⟨by rfl, ?_⟩) ?_ ?_
        rotate_left
        ·intro w'
         go_simp
         with_reducible rfl
        rotate_left
        ·simp only [Act.put, List.setIfInBounds_toArray, List.set_cons_zero, List.set_cons_succ, i64_w, i32_w]
         rfl
        refine take_ (i := 6) (N := some 53) (v := ?_) (a' := ?_) #[true, true, true, true, true, true, true, false, false, true, false, false] rfl rfl (take_ofW HT_.out HW_.out (by kernel_rfl)) (fun _ _ _ h => h) (Or.inl ⟨by rfl, ?_⟩) hHeld ?_ ?_
        rotate_left
        ·rintro w' ⟨s0, s1, s2, s3, s4, s5, s6, s7, s8⟩
         go_simp
         with_reducible rfl
        rotate_left
        ·simp only [Act.put, List.setIfInBounds_toArray, List.set_cons_zero, List.set_cons_succ, i64_w, i32_w]
         rfl
        refine pure_ (i := 7) (N := some 54) (v := ?_) (a' := ?_) #[true, true, true, true, true, true, true, true, false, true, false, false] rfl rfl (any_of HT_.out (by kernel_rfl)) (fun _ _ _ h => h) (Or.inl ⟨by rfl, ?_⟩) ?_ ?_
        rotate_left
        ·intro w'
         go_simp
         with_reducible rfl
        rotate_left
        ·simp only [Act.put, List.setIfInBounds_toArray, List.set_cons_zero, List.set_cons_succ, i64_w, i32_w]
         rfl
        refine pure_ (i := 8) (N := some 55) (v := ?_) (a' := ?_) #[true, true, true, true, true, true, true, true, true, true, false, false] rfl rfl (any_of HT_.out (by kernel_rfl)) (fun _ _ _ h => h) (Or.inl ⟨by rfl, ?_⟩) ?_ ?_
        rotate_left
        ·intro w'
         go_simp
         with_reducible rfl
        rotate_left
        ·simp only [Act.put, List.setIfInBounds_toArray, List.set_cons_zero, List.set_cons_succ, i64_w, i32_w]
         rfl
        refine one_ (i := 10) (N := none) #[true, true, true, true, true, true, true, true, true, true, true, false] rfl rfl (one_of HT_.out (by kernel_rfl)) (by decide) (fun K hK => ?_)
        have hs38 : w37.cell? ⟨gb111, 3, none⟩ = some (.int .i64 t107) := (blk_cell BK111.out 3).trans rfl
        have hfs38 := blk_frozen BK111.out 3
        have hns38_0 := NB103_111.out
        have hms38_0 := NB111_103.out
        refine skip_ (w1 := ?_) (by rfl) rfl ?_ ?_
        rotate_left
        ·go_simp
         rfl
        refine hK.out _ _ ⟨((cell_far (p := ⟨gb111, _, none⟩) NB103_111.out _).trans (hHeld.1)), ((cell_far (p := ⟨gb111, _, none⟩) NB103_111.out _).trans (hHeld.2.1)), ((cell_far (p := ⟨gb111, _, none⟩) NB103_111.out _).trans (hHeld.2.2.1)), ((cell_far (p := ⟨gb111, _, none⟩) NB103_111.out _).trans (hHeld.2.2.2.1)), ((cell_far (p := ⟨gb111, _, none⟩) NB103_111.out _).trans (hHeld.2.2.2.2.1)), ((cell_far (p := ⟨gb111, _, none⟩) NB103_111.out _).trans (hHeld.2.2.2.2.2.1)), ((cell_far (p := ⟨gb111, _, none⟩) NB103_111.out _).trans (hHeld.2.2.2.2.2.2.1)), ((cell_far (p := ⟨gb111, _, none⟩) NB103_111.out _).trans (hHeld.2.2.2.2.2.2.2.1)), ((cell_far (p := ⟨gb111, _, none⟩) NB103_111.out _).trans (hHeld.2.2.2.2.2.2.2.2))⟩ (fun hHeld => ?_)
        clear hK K
        refine pure_ (i := 11) (N := some 4) (v := ?_) (a' := ?_) #[true, true, true, true, true, true, true, true, true, true, true, true] rfl rfl (any_of HT_.out (by kernel_rfl)) (fun _ _ _ h => h) (Or.inl ⟨by rfl, ?_⟩) ?_ ?_
        rotate_left
        ·intro w'
         go_simp
         with_reducible rfl
        rotate_left
        ·simp only [Act.put, List.setIfInBounds_toArray, List.set_cons_zero, List.set_cons_succ, i64_w, i32_w]
         rfl
        refine done_ (done_of HT_.out (by kernel_rfl)) ?_
        have hcz39_0 : w37.cell? ⟨gb111, 0, none⟩ = some (.int .i64 t104) := (blk_cell BK111.out 0).trans rfl
        have hcz39_1 : w37.cell? ⟨gb111, 1, none⟩ = some (.int .i64 t105) := (blk_cell BK111.out 1).trans rfl
        have hcz39_2 : w37.cell? ⟨gb111, 2, none⟩ = some (.int .i64 t106) := (blk_cell BK111.out 2).trans rfl
        have hcz39_3 : w37.cell? ⟨gb111, 3, none⟩ = some (.int .i64 t107) := (blk_cell BK111.out 3).trans rfl
        have hcz39_4 : w37.cell? ⟨gb111, 4, none⟩ = some (.string t108) := (blk_cell BK111.out 4).trans rfl
        have hcz39_5 : w37.cell? ⟨gb111, 5, none⟩ = some (.string t109) := (blk_cell BK111.out 5).trans rfl
        have hcz39_6 : w37.cell? ⟨gb111, 6, none⟩ = some (.bool t110) := (blk_cell BK111.out 6).trans rfl
        have hfz39_0 := blk_frozen BK111.out 0
        have hfz39_1 := blk_frozen BK111.out 1
        have hfz39_2 := blk_frozen BK111.out 2
        have hfz39_3 := blk_frozen BK111.out 3
        have hfz39_4 := blk_frozen BK111.out 4
        have hfz39_5 := blk_frozen BK111.out 5
        have hfz39_6 := blk_frozen BK111.out 6
        have hcz40_0 : w37.cell? ⟨gb103, 0, none⟩ = some (.int .i64 a0_0) := (blk_cell BK103.out 0).trans rfl
        have hcz40_1 : w37.cell? ⟨gb103, 1, none⟩ = some (.int .i64 a0_1) := (blk_cell BK103.out 1).trans rfl
        have hcz40_2 : w37.cell? ⟨gb103, 2, none⟩ = some (.int .i64 a0_2) := (blk_cell BK103.out 2).trans rfl
        have hcz40_3 : w37.cell? ⟨gb103, 3, none⟩ = some (.int .i64 a0_3) := (blk_cell BK103.out 3).trans rfl
        have hcz40_4 : w37.cell? ⟨gb103, 4, none⟩ = some (.string a0_4) := (blk_cell BK103.out 4).trans rfl
        have hcz40_5 : w37.cell? ⟨gb103, 5, none⟩ = some (.string a0_5) := (blk_cell BK103.out 5).trans rfl
        have hcz40_6 : w37.cell? ⟨gb103, 6, none⟩ = some (.bool a0_6) := (blk_cell BK103.out 6).trans rfl
        have hcz40_7 : w37.cell? ⟨gb103, 7, none⟩ = some (.slice A0_7 l0_7.length c0_7) := (blk_cell BK103.out 7).trans rfl
        have hcz40_8 : w37.cell? ⟨gb103, 8, none⟩ = some (.slice A0_8 l0_8.length c0_8) := (blk_cell BK103.out 8).trans rfl
        have hfz40_0 := blk_frozen BK103.out 0
        have hfz40_1 := blk_frozen BK103.out 1
        have hfz40_2 := blk_frozen BK103.out 2
        have hfz40_3 := blk_frozen BK103.out 3
        have hfz40_4 := blk_frozen BK103.out 4
        have hfz40_5 := blk_frozen BK103.out 5
        have hfz40_6 := blk_frozen BK103.out 6
        have hfz40_7 := blk_frozen BK103.out 7
        have hfz40_8 := blk_frozen BK103.out 8
        try go_wp2
        go_ret
        exact ⟨by rw [HV.out]; rfl, by repeat (first | (with_reducible first | exact HB.out | apply below_alloc | apply pw_below_drewN | apply below_drew1 | refine below_set ?_ GE103.out | refine below_set ?_ GE111.out) | exact HB.out)⟩
  have k1b : (a0_0 == 1) = false := beq_eq_false_iff_ne.mpr k1
  have k1c : (a0_0 != 1) = true := bne_iff_ne.mpr k1
  by_cases k2 : a0_0 = 2
  · have HKD := Aside0.mk k2
    have k2b : (a0_0 == 2) = true := beq_iff_eq.mpr k2
    have k2c : (a0_0 != 2) = false := bne_eq_false_iff_eq.mpr k2
    clear k2
    cases hno : noneB l0_7 l0_8 with
    | false =>
      have HV : Aside0 (r = 80) := ⟨by rw [HRV2.out, ok2 HKD.out, hno]; rfl⟩
      go_wp2
      try go_wp2
      go_ret
      exact ⟨by rw [HV.out]; rfl, by repeat (first | (with_reducible first | exact HB.out | apply below_alloc | apply pw_below_drewN | apply below_drew1 | refine below_set ?_ GE103.out | refine below_set ?_ GE111.out) | exact HB.out)⟩
    | true =>
      by_cases p1 : 0 < a0_1
      · have p1b : decide (0 < a0_1) = true := decide_eq_true p1
        clear p1
        by_cases hXt : (a0_3 == 0 && bareB a0_4 a0_5 a0_6) = true
        · have czb : (!(t104 == a0_0) || (!(t105 == a0_1) || (!(t106 == a0_2) || (!(t107 == a0_3) || (!(t108.toList == a0_4.toList) || (!(t109.toList == a0_5.toList) || (!(t110 == a0_6)))))))) = false := by rw [ne2 A16.out, hXt]; rfl
          have HV : Aside0 (r = 0) := ⟨by rw [HRV2.out, ok2 HKD.out, hno, p1b, hXt]; rfl⟩
          clear hXt
          go_wp2
          try go_wp2
          go_ret
          exact ⟨by rw [HV.out]; rfl, by repeat (first | (with_reducible first | exact HB.out | apply below_alloc | apply pw_below_drewN | apply below_drew1 | refine below_set ?_ GE103.out | refine below_set ?_ GE111.out) | exact HB.out)⟩
        · have hXf : (a0_3 == 0 && bareB a0_4 a0_5 a0_6) = false := by simpa only [Bool.not_eq_true] using hXt
          clear hXt
          have czb : (!(t104 == a0_0) || (!(t105 == a0_1) || (!(t106 == a0_2) || (!(t107 == a0_3) || (!(t108.toList == a0_4.toList) || (!(t109.toList == a0_5.toList) || (!(t110 == a0_6)))))))) = true := by rw [ne2 A16.out, hXf]; rfl
          have HV : Aside0 (r = 80) := ⟨by rw [HRV2.out, ok2 HKD.out, hno, p1b, hXf]; rfl⟩
          clear hXf
          go_wp2
          try go_wp2
          go_ret
          exact ⟨by rw [HV.out]; rfl, by repeat (first | (with_reducible first | exact HB.out | apply below_alloc | apply pw_below_drewN | apply below_drew1 | refine below_set ?_ GE103.out | refine below_set ?_ GE111.out) | exact HB.out)⟩
      · have p1b : decide (0 < a0_1) = false := decide_eq_false p1
        clear p1
        have HV : Aside0 (r = 80) := ⟨by rw [HRV2.out, ok2 HKD.out, hno, p1b]; rfl⟩
        go_wp2
        try go_wp2
        go_ret
        exact ⟨by rw [HV.out]; rfl, by repeat (first | (with_reducible first | exact HB.out | apply below_alloc | apply pw_below_drewN | apply below_drew1 | refine below_set ?_ GE103.out | refine below_set ?_ GE111.out) | exact HB.out)⟩
  have k2b : (a0_0 == 2) = false := beq_eq_false_iff_ne.mpr k2
  have k2c : (a0_0 != 2) = true := bne_iff_ne.mpr k2
  by_cases k5 : a0_0 = 5
  · have HKD := Aside0.mk k5
    have k5b : (a0_0 == 5) = true := beq_iff_eq.mpr k5
    have k5c : (a0_0 != 5) = false := bne_eq_false_iff_eq.mpr k5
    clear k5
    cases hno : noneB l0_7 l0_8 with
    | false =>
      have HV : Aside0 (r = 80) := ⟨by rw [HRV2.out, ok5 HKD.out, hno]; rfl⟩
      go_wp2
      try go_wp2
      go_ret
      exact ⟨by rw [HV.out]; rfl, by repeat (first | (with_reducible first | exact HB.out | apply below_alloc | apply pw_below_drewN | apply below_drew1 | refine below_set ?_ GE103.out | refine below_set ?_ GE111.out) | exact HB.out)⟩
    | true =>
      by_cases p1 : 0 < a0_1
      · have p1b : decide (0 < a0_1) = true := decide_eq_true p1
        clear p1
        by_cases p2 : 0 < a0_2
        · have p2b : decide (0 < a0_2) = true := decide_eq_true p2
          clear p2
          by_cases hXt : (a0_3 == 0 && bareB a0_4 a0_5 a0_6) = true
          · have czb : (!(t104 == a0_0) || (!(t105 == a0_1) || (!(t106 == a0_2) || (!(t107 == a0_3) || (!(t108.toList == a0_4.toList) || (!(t109.toList == a0_5.toList) || (!(t110 == a0_6)))))))) = false := by rw [ne5 A16.out, hXt]; rfl
            have HV : Aside0 (r = 0) := ⟨by rw [HRV2.out, ok5 HKD.out, hno, p1b, p2b, hXt]; rfl⟩
            clear hXt
            go_wp2
            try go_wp2
            go_ret
            exact ⟨by rw [HV.out]; rfl, by repeat (first | (with_reducible first | exact HB.out | apply below_alloc | apply pw_below_drewN | apply below_drew1 | refine below_set ?_ GE103.out | refine below_set ?_ GE111.out) | exact HB.out)⟩
          · have hXf : (a0_3 == 0 && bareB a0_4 a0_5 a0_6) = false := by simpa only [Bool.not_eq_true] using hXt
            clear hXt
            have czb : (!(t104 == a0_0) || (!(t105 == a0_1) || (!(t106 == a0_2) || (!(t107 == a0_3) || (!(t108.toList == a0_4.toList) || (!(t109.toList == a0_5.toList) || (!(t110 == a0_6)))))))) = true := by rw [ne5 A16.out, hXf]; rfl
            have HV : Aside0 (r = 80) := ⟨by rw [HRV2.out, ok5 HKD.out, hno, p1b, p2b, hXf]; rfl⟩
            clear hXf
            go_wp2
            try go_wp2
            go_ret
            exact ⟨by rw [HV.out]; rfl, by repeat (first | (with_reducible first | exact HB.out | apply below_alloc | apply pw_below_drewN | apply below_drew1 | refine below_set ?_ GE103.out | refine below_set ?_ GE111.out) | exact HB.out)⟩
        · have p2b : decide (0 < a0_2) = false := decide_eq_false p2
          clear p2
          have HV : Aside0 (r = 80) := ⟨by rw [HRV2.out, ok5 HKD.out, hno, p1b, p2b]; rfl⟩
          go_wp2
          try go_wp2
          go_ret
          exact ⟨by rw [HV.out]; rfl, by repeat (first | (with_reducible first | exact HB.out | apply below_alloc | apply pw_below_drewN | apply below_drew1 | refine below_set ?_ GE103.out | refine below_set ?_ GE111.out) | exact HB.out)⟩
      · have p1b : decide (0 < a0_1) = false := decide_eq_false p1
        clear p1
        have HV : Aside0 (r = 80) := ⟨by rw [HRV2.out, ok5 HKD.out, hno, p1b]; rfl⟩
        go_wp2
        try go_wp2
        go_ret
        exact ⟨by rw [HV.out]; rfl, by repeat (first | (with_reducible first | exact HB.out | apply below_alloc | apply pw_below_drewN | apply below_drew1 | refine below_set ?_ GE103.out | refine below_set ?_ GE111.out) | exact HB.out)⟩
  have k5b : (a0_0 == 5) = false := beq_eq_false_iff_ne.mpr k5
  have k5c : (a0_0 != 5) = true := bne_iff_ne.mpr k5
  by_cases k6 : a0_0 = 6
  · have HKD := Aside0.mk k6
    have k6b : (a0_0 == 6) = true := beq_iff_eq.mpr k6
    have k6c : (a0_0 != 6) = false := bne_eq_false_iff_eq.mpr k6
    clear k6
    cases hno : noneB l0_7 l0_8 with
    | false =>
      have HV : Aside0 (r = 80) := ⟨by rw [HRV2.out, ok6 HKD.out, hno]; rfl⟩
      go_wp2
      have n0_ := Aside0.mk (blk_drew BK103.out)
      have n1_ := Aside0.mk (blk_drew BK111.out)
      have n2_ := Aside0.mk (below_drew1 HB.out)
      clear BK103
      clear BK111
      clear HB
      have BK103 := n0_
      have BK111 := n1_
      have HB := n2_
      clear n0_ n1_ n2_
      refine start_ (n := 9) (S := fun w' => True) (ds := []) #[false, false, false, false, false, false, false, false, false] (by kernel_rfl) rfl rfl trivial (fun hHeld => ?_); refine with_tabW record_Check.tab13 record_Check.bits13 (fun HT_ HW_ => ?_)
      generalize w35.drew = w294 at BK103 BK111 HB hHeld ⊢
      refine pure_ (i := 0) (N := some 80) (v := ?_) (a' := ?_) #[true, false, false, false, false, false, false, false, false] rfl rfl (any_of HT_.out (by kernel_rfl)) (fun _ _ _ h => h) (Or.inl ⟨by rfl, ?_⟩) ?_ ?_
      rotate_left
      ·intro w'
       go_simp
       with_reducible rfl
      rotate_left
      ·simp only [Act.put, List.setIfInBounds_toArray, List.set_cons_zero, List.set_cons_succ, i64_w, i32_w]
       rfl
      refine pure_ (i := 1) (N := some 81) (v := ?_) (a' := ?_) #[true, true, false, false, false, false, false, false, false] rfl rfl (any_of HT_.out (by kernel_rfl)) (fun _ _ _ h => h) (Or.inl ⟨by rfl, ?_⟩) ?_ ?_
      rotate_left
      ·intro w'
       go_simp
       with_reducible rfl
      rotate_left
      ·simp only [Act.put, List.setIfInBounds_toArray, List.set_cons_zero, List.set_cons_succ, i64_w, i32_w]
       rfl
      refine pure_ (i := 2) (N := some 82) (v := undef) (a' := ?_) #[true, true, true, false, false, false, false, false, false] rfl rfl (any_of HT_.out (by kernel_rfl)) (fun _ _ _ h => h) (Or.inr ⟨by rfl, rfl⟩) ?_ ?_
      rotate_left
      ·simp only [Act.put, List.setIfInBounds_toArray, List.set_cons_zero, List.set_cons_succ, i64_w, i32_w]
       rfl
      refine pure_ (i := 3) (N := some 83) (v := undef) (a' := ?_) #[true, true, true, true, false, false, false, false, false] rfl rfl (any_of HT_.out (by kernel_rfl)) (fun _ _ _ h => h) (Or.inr ⟨by rfl, rfl⟩) ?_ ?_
      rotate_left
      ·simp only [Act.put, List.setIfInBounds_toArray, List.set_cons_zero, List.set_cons_succ, i64_w, i32_w]
       rfl
      refine pure_ (i := 4) (N := some 84) (v := undef) (a' := ?_) #[true, true, true, true, true, false, false, false, false] rfl rfl (any_of HT_.out (by kernel_rfl)) (fun _ _ _ h => h) (Or.inr ⟨by rfl, rfl⟩) ?_ ?_
      rotate_left
      ·simp only [Act.put, List.setIfInBounds_toArray, List.set_cons_zero, List.set_cons_succ, i64_w, i32_w]
       rfl
      refine pure_ (i := 5) (N := some 85) (v := ?_) (a' := ?_) #[true, true, true, true, true, true, false, false, false] rfl rfl (any_of HT_.out (by kernel_rfl)) (fun _ _ _ h => h) (Or.inl ⟨by rfl, ?_⟩) ?_ ?_
      rotate_left
      ·intro w'
       go_simp
       with_reducible rfl
      rotate_left
      ·simp only [Act.put, List.setIfInBounds_toArray, List.set_cons_zero, List.set_cons_succ, i64_w, i32_w]
       rfl
      refine pure_ (i := 6) (N := some 86) (v := ?_) (a' := ?_) #[true, true, true, true, true, true, true, false, false] rfl rfl (any_of HT_.out (by kernel_rfl)) (fun _ _ _ h => h) (Or.inl ⟨by rfl, ?_⟩) ?_ ?_
      rotate_left
      ·intro w'
       go_simp
       with_reducible rfl
      rotate_left
      ·simp only [Act.put, List.setIfInBounds_toArray, List.set_cons_zero, List.set_cons_succ, i64_w, i32_w]
       rfl
      refine one_ (i := 7) (N := none) #[true, true, true, true, true, true, true, true, false] rfl rfl (one_of HT_.out (by kernel_rfl)) (by decide) (fun K hK => ?_)
      have hs295 : w294.cell? ⟨gb111, 2, none⟩ = some (.int .i64 t106) := (blk_cell BK111.out 2).trans rfl
      have hfs295 := blk_frozen BK111.out 2
      have hns295_0 := NB103_111.out
      have hms295_0 := NB111_103.out
      refine skip_ (w1 := ?_) (by rfl) rfl ?_ ?_
      rotate_left
      ·go_simp
       rfl
      refine hK.out _ _ trivial (fun hHeld => ?_)
      clear hK K
      refine pure_ (i := 8) (N := some 4) (v := ?_) (a' := ?_) #[true, true, true, true, true, true, true, true, true] rfl rfl (any_of HT_.out (by kernel_rfl)) (fun _ _ _ h => h) (Or.inl ⟨by rfl, ?_⟩) ?_ ?_
      rotate_left
      ·intro w'
       go_simp
       with_reducible rfl
      rotate_left
      ·simp only [Act.put, List.setIfInBounds_toArray, List.set_cons_zero, List.set_cons_succ, i64_w, i32_w]
       rfl
      refine done_ (done_of HT_.out (by kernel_rfl)) ?_
      try go_wp2
      go_ret
      exact ⟨by rw [HV.out]; rfl, by repeat (first | (with_reducible first | exact HB.out | apply below_alloc | apply pw_below_drewN | apply below_drew1 | refine below_set ?_ GE103.out | refine below_set ?_ GE111.out) | exact HB.out)⟩
    | true =>
      by_cases p1 : 0 < a0_1
      · have p1b : decide (0 < a0_1) = true := decide_eq_true p1
        clear p1
        by_cases hXt : (a0_2 == 0 && (a0_3 == 0 && bareB a0_4 a0_5 a0_6)) = true
        · have czb : (!(t104 == a0_0) || (!(t105 == a0_1) || (!(0 == a0_2) || (!(t107 == a0_3) || (!(t108.toList == a0_4.toList) || (!(t109.toList == a0_5.toList) || (!(t110 == a0_6)))))))) = false := by rw [ne6 A16.out, hXt]; rfl
          have HV : Aside0 (r = 0) := ⟨by rw [HRV2.out, ok6 HKD.out, hno, p1b, hXt]; rfl⟩
          clear hXt
          go_wp2
          have n0_ := Aside0.mk (blk_drew BK103.out)
          have n1_ := Aside0.mk (blk_drew BK111.out)
          have n2_ := Aside0.mk (below_drew1 HB.out)
          clear BK103
          clear BK111
          clear HB
          have BK103 := n0_
          have BK111 := n1_
          have HB := n2_
          clear n0_ n1_ n2_
          refine start_ (n := 9) (S := fun w' => w'.cell? ⟨gb103, 0, none⟩ = some (.int .i64 a0_0) ∧ w'.cell? ⟨gb103, 1, none⟩ = some (.int .i64 a0_1) ∧ w'.cell? ⟨gb103, 2, none⟩ = some (.int .i64 a0_2) ∧ w'.cell? ⟨gb103, 3, none⟩ = some (.int .i64 a0_3) ∧ w'.cell? ⟨gb103, 4, none⟩ = some (.string a0_4) ∧ w'.cell? ⟨gb103, 5, none⟩ = some (.string a0_5) ∧ w'.cell? ⟨gb103, 6, none⟩ = some (.bool a0_6) ∧ w'.cell? ⟨gb103, 7, none⟩ = some (.slice A0_7 l0_7.length c0_7) ∧ w'.cell? ⟨gb103, 8, none⟩ = some (.slice A0_8 l0_8.length c0_8)) (ds := []) #[false, false, false, false, false, false, false, false, false] (by kernel_rfl) rfl rfl ⟨(blk_cell BK103.out 0).trans rfl, (blk_cell BK103.out 1).trans rfl, (blk_cell BK103.out 2).trans rfl, (blk_cell BK103.out 3).trans rfl, (blk_cell BK103.out 4).trans rfl, (blk_cell BK103.out 5).trans rfl, (blk_cell BK103.out 6).trans rfl, (blk_cell BK103.out 7).trans rfl, (blk_cell BK103.out 8).trans rfl⟩ (fun hHeld => ?_); refine with_tabW record_Check.tab13 record_Check.bits13 (fun HT_ HW_ => ?_)
          generalize w35.drew = w242 at BK103 BK111 HB hHeld ⊢
          refine pure_ (i := 0) (N := some 80) (v := ?_) (a' := ?_) #[true, false, false, false, false, false, false, false, false] rfl rfl (any_of HT_.out (by kernel_rfl)) (fun _ _ _ h => h) (Or.inl ⟨by rfl, ?_⟩) ?_ ?_
          rotate_left
          ·intro w'
           go_simp
           with_reducible rfl
          rotate_left
          ·simp only [Act.put, List.setIfInBounds_toArray, List.set_cons_zero, List.set_cons_succ, i64_w, i32_w]
           rfl
          refine pure_ (i := 1) (N := some 81) (v := ?_) (a' := ?_) #[true, true, false, false, false, false, false, false, false] rfl rfl (any_of HT_.out (by kernel_rfl)) (fun _ _ _ h => h) (Or.inl ⟨by rfl, ?_⟩) ?_ ?_
          rotate_left
          ·intro w'
           go_simp
           with_reducible rfl
          rotate_left
          ·simp only [Act.put, List.setIfInBounds_toArray, List.set_cons_zero, List.set_cons_succ, i64_w, i32_w]
           rfl
          refine pure_ (i := 2) (N := some 82) (v := ?_) (a' := ?_) #[true, true, true, false, false, false, false, false, false] rfl rfl (any_of HT_.out (by kernel_rfl)) (fun _ _ _ h => h) (Or.inl ⟨by rfl, ?_⟩) ?_ ?_
          rotate_left
          ·intro w'
           go_simp
           with_reducible rfl
          rotate_left
          ·simp only [Act.put, List.setIfInBounds_toArray, List.set_cons_zero, List.set_cons_succ, i64_w, i32_w]
           rfl
          refine pure_ (i := 6) (N := some 86) (v := ?_) (a' := ?_) #[true, true, true, false, false, false, true, false, false] rfl rfl (any_of HT_.out (by kernel_rfl)) (fun _ _ _ h => h) (Or.inl ⟨by rfl, ?_⟩) ?_ ?_
          rotate_left
          ·intro w'
           go_simp
           with_reducible rfl
          rotate_left
          ·simp only [Act.put, List.setIfInBounds_toArray, List.set_cons_zero, List.set_cons_succ, i64_w, i32_w]
           rfl
          refine take_ (i := 3) (N := some 83) (v := ?_) (a' := ?_) #[true, true, true, true, false, false, true, false, false] rfl rfl (take_ofW HT_.out HW_.out (by kernel_rfl)) (fun _ _ _ h => h) (Or.inl ⟨by rfl, ?_⟩) hHeld ?_ ?_
          rotate_left
          ·rintro w' ⟨s0, s1, s2, s3, s4, s5, s6, s7, s8⟩
           go_simp
           with_reducible rfl
          rotate_left
          ·simp only [Act.put, List.setIfInBounds_toArray, List.set_cons_zero, List.set_cons_succ, i64_w, i32_w]
           rfl
          refine pure_ (i := 4) (N := some 84) (v := ?_) (a' := ?_) #[true, true, true, true, true, false, true, false, false] rfl rfl (any_of HT_.out (by kernel_rfl)) (fun _ _ _ h => h) (Or.inl ⟨by rfl, ?_⟩) ?_ ?_
          rotate_left
          ·intro w'
           go_simp
           with_reducible rfl
          rotate_left
          ·simp only [Act.put, List.setIfInBounds_toArray, List.set_cons_zero, List.set_cons_succ, i64_w, i32_w]
           rfl
          refine pure_ (i := 5) (N := some 85) (v := ?_) (a' := ?_) #[true, true, true, true, true, true, true, false, false] rfl rfl (any_of HT_.out (by kernel_rfl)) (fun _ _ _ h => h) (Or.inl ⟨by rfl, ?_⟩) ?_ ?_
          rotate_left
          ·intro w'
           go_simp
           with_reducible rfl
          rotate_left
          ·simp only [Act.put, List.setIfInBounds_toArray, List.set_cons_zero, List.set_cons_succ, i64_w, i32_w]
           rfl
          refine one_ (i := 7) (N := none) #[true, true, true, true, true, true, true, true, false] rfl rfl (one_of HT_.out (by kernel_rfl)) (by decide) (fun K hK => ?_)
          have hs243 : w242.cell? ⟨gb111, 2, none⟩ = some (.int .i64 t106) := (blk_cell BK111.out 2).trans rfl
          have hfs243 := blk_frozen BK111.out 2
          have hns243_0 := NB103_111.out
          have hms243_0 := NB111_103.out
          refine skip_ (w1 := ?_) (by rfl) rfl ?_ ?_
          rotate_left
          ·go_simp
           rfl
          refine hK.out _ _ ⟨((cell_far (p := ⟨gb111, _, none⟩) NB103_111.out _).trans (hHeld.1)), ((cell_far (p := ⟨gb111, _, none⟩) NB103_111.out _).trans (hHeld.2.1)), ((cell_far (p := ⟨gb111, _, none⟩) NB103_111.out _).trans (hHeld.2.2.1)), ((cell_far (p := ⟨gb111, _, none⟩) NB103_111.out _).trans (hHeld.2.2.2.1)), ((cell_far (p := ⟨gb111, _, none⟩) NB103_111.out _).trans (hHeld.2.2.2.2.1)), ((cell_far (p := ⟨gb111, _, none⟩) NB103_111.out _).trans (hHeld.2.2.2.2.2.1)), ((cell_far (p := ⟨gb111, _, none⟩) NB103_111.out _).trans (hHeld.2.2.2.2.2.2.1)), ((cell_far (p := ⟨gb111, _, none⟩) NB103_111.out _).trans (hHeld.2.2.2.2.2.2.2.1)), ((cell_far (p := ⟨gb111, _, none⟩) NB103_111.out _).trans (hHeld.2.2.2.2.2.2.2.2))⟩ (fun hHeld => ?_)
          clear hK K
          refine pure_ (i := 8) (N := some 4) (v := ?_) (a' := ?_) #[true, true, true, true, true, true, true, true, true] rfl rfl (any_of HT_.out (by kernel_rfl)) (fun _ _ _ h => h) (Or.inl ⟨by rfl, ?_⟩) ?_ ?_
          rotate_left
          ·intro w'
           go_simp
           with_reducible rfl
          rotate_left
          ·simp only [Act.put, List.setIfInBounds_toArray, List.set_cons_zero, List.set_cons_succ, i64_w, i32_w]
           rfl
          refine done_ (done_of HT_.out (by kernel_rfl)) ?_
          have hcz244_0 : w242.cell? ⟨gb111, 0, none⟩ = some (.int .i64 t104) := (blk_cell BK111.out 0).trans rfl
          have hcz244_1 : w242.cell? ⟨gb111, 1, none⟩ = some (.int .i64 t105) := (blk_cell BK111.out 1).trans rfl
          have hcz244_2 : w242.cell? ⟨gb111, 2, none⟩ = some (.int .i64 t106) := (blk_cell BK111.out 2).trans rfl
          have hcz244_3 : w242.cell? ⟨gb111, 3, none⟩ = some (.int .i64 t107) := (blk_cell BK111.out 3).trans rfl
          have hcz244_4 : w242.cell? ⟨gb111, 4, none⟩ = some (.string t108) := (blk_cell BK111.out 4).trans rfl
          have hcz244_5 : w242.cell? ⟨gb111, 5, none⟩ = some (.string t109) := (blk_cell BK111.out 5).trans rfl
          have hcz244_6 : w242.cell? ⟨gb111, 6, none⟩ = some (.bool t110) := (blk_cell BK111.out 6).trans rfl
          have hfz244_0 := blk_frozen BK111.out 0
          have hfz244_1 := blk_frozen BK111.out 1
          have hfz244_2 := blk_frozen BK111.out 2
          have hfz244_3 := blk_frozen BK111.out 3
          have hfz244_4 := blk_frozen BK111.out 4
          have hfz244_5 := blk_frozen BK111.out 5
          have hfz244_6 := blk_frozen BK111.out 6
          have hcz245_0 : w242.cell? ⟨gb103, 0, none⟩ = some (.int .i64 a0_0) := (blk_cell BK103.out 0).trans rfl
          have hcz245_1 : w242.cell? ⟨gb103, 1, none⟩ = some (.int .i64 a0_1) := (blk_cell BK103.out 1).trans rfl
          have hcz245_2 : w242.cell? ⟨gb103, 2, none⟩ = some (.int .i64 a0_2) := (blk_cell BK103.out 2).trans rfl
          have hcz245_3 : w242.cell? ⟨gb103, 3, none⟩ = some (.int .i64 a0_3) := (blk_cell BK103.out 3).trans rfl
          have hcz245_4 : w242.cell? ⟨gb103, 4, none⟩ = some (.string a0_4) := (blk_cell BK103.out 4).trans rfl
          have hcz245_5 : w242.cell? ⟨gb103, 5, none⟩ = some (.string a0_5) := (blk_cell BK103.out 5).trans rfl
          have hcz245_6 : w242.cell? ⟨gb103, 6, none⟩ = some (.bool a0_6) := (blk_cell BK103.out 6).trans rfl
          have hcz245_7 : w242.cell? ⟨gb103, 7, none⟩ = some (.slice A0_7 l0_7.length c0_7) := (blk_cell BK103.out 7).trans rfl
          have hcz245_8 : w242.cell? ⟨gb103, 8, none⟩ = some (.slice A0_8 l0_8.length c0_8) := (blk_cell BK103.out 8).trans rfl
          have hfz245_0 := blk_frozen BK103.out 0
          have hfz245_1 := blk_frozen BK103.out 1
          have hfz245_2 := blk_frozen BK103.out 2
          have hfz245_3 := blk_frozen BK103.out 3
          have hfz245_4 := blk_frozen BK103.out 4
          have hfz245_5 := blk_frozen BK103.out 5
          have hfz245_6 := blk_frozen BK103.out 6
          have hfz245_7 := blk_frozen BK103.out 7
          have hfz245_8 := blk_frozen BK103.out 8
          try go_wp2
          go_ret
          exact ⟨by rw [HV.out]; rfl, by repeat (first | (with_reducible first | exact HB.out | apply below_alloc | apply pw_below_drewN | apply below_drew1 | refine below_set ?_ GE103.out | refine below_set ?_ GE111.out) | exact HB.out)⟩
        · have hXf : (a0_2 == 0 && (a0_3 == 0 && bareB a0_4 a0_5 a0_6)) = false := by simpa only [Bool.not_eq_true] using hXt
          clear hXt
          have czb : (!(t104 == a0_0) || (!(t105 == a0_1) || (!(0 == a0_2) || (!(t107 == a0_3) || (!(t108.toList == a0_4.toList) || (!(t109.toList == a0_5.toList) || (!(t110 == a0_6)))))))) = true := by rw [ne6 A16.out, hXf]; rfl
          have HV : Aside0 (r = 80) := ⟨by rw [HRV2.out, ok6 HKD.out, hno, p1b, hXf]; rfl⟩
          clear hXf
          go_wp2
          have n0_ := Aside0.mk (blk_drew BK103.out)
          have n1_ := Aside0.mk (blk_drew BK111.out)
          have n2_ := Aside0.mk (below_drew1 HB.out)
          clear BK103
          clear BK111
          clear HB
          have BK103 := n0_
          have BK111 := n1_
          have HB := n2_
          clear n0_ n1_ n2_
          refine start_ (n := 9) (S := fun w' => w'.cell? ⟨gb103, 0, none⟩ = some (.int .i64 a0_0) ∧ w'.cell? ⟨gb103, 1, none⟩ = some (.int .i64 a0_1) ∧ w'.cell? ⟨gb103, 2, none⟩ = some (.int .i64 a0_2) ∧ w'.cell? ⟨gb103, 3, none⟩ = some (.int .i64 a0_3) ∧ w'.cell? ⟨gb103, 4, none⟩ = some (.string a0_4) ∧ w'.cell? ⟨gb103, 5, none⟩ = some (.string a0_5) ∧ w'.cell? ⟨gb103, 6, none⟩ = some (.bool a0_6) ∧ w'.cell? ⟨gb103, 7, none⟩ = some (.slice A0_7 l0_7.length c0_7) ∧ w'.cell? ⟨gb103, 8, none⟩ = some (.slice A0_8 l0_8.length c0_8)) (ds := []) #[false, false, false, false, false, false, false, false, false] (by kernel_rfl) rfl rfl ⟨(blk_cell BK103.out 0).trans rfl, (blk_cell BK103.out 1).trans rfl, (blk_cell BK103.out 2).trans rfl, (blk_cell BK103.out 3).trans rfl, (blk_cell BK103.out 4).trans rfl, (blk_cell BK103.out 5).trans rfl, (blk_cell BK103.out 6).trans rfl, (blk_cell BK103.out 7).trans rfl, (blk_cell BK103.out 8).trans rfl⟩ (fun hHeld => ?_); refine with_tabW record_Check.tab13 record_Check.bits13 (fun HT_ HW_ => ?_)
          generalize w35.drew = w242 at BK103 BK111 HB hHeld ⊢
          refine pure_ (i := 0) (N := some 80) (v := ?_) (a' := ?_) #[true, false, false, false, false, false, false, false, false] rfl rfl (any_of HT_.out (by kernel_rfl)) (fun _ _ _ h => h) (Or.inl ⟨by rfl, ?_⟩) ?_ ?_
          rotate_left
          ·intro w'
           go_simp
           with_reducible rfl
          rotate_left
          ·simp only [Act.put, List.setIfInBounds_toArray, List.set_cons_zero, List.set_cons_succ, i64_w, i32_w]
           rfl
          refine pure_ (i := 1) (N := some 81) (v := ?_) (a' := ?_) #[true, true, false, false, false, false, false, false, false] rfl rfl (any_of HT_.out (by kernel_rfl)) (fun _ _ _ h => h) (Or.inl ⟨by rfl, ?_⟩) ?_ ?_
          rotate_left
          ·intro w'
           go_simp
           with_reducible rfl
          rotate_left
          ·simp only [Act.put, List.setIfInBounds_toArray, List.set_cons_zero, List.set_cons_succ, i64_w, i32_w]
           rfl
          refine pure_ (i := 2) (N := some 82) (v := ?_) (a' := ?_) #[true, true, true, false, false, false, false, false, false] rfl rfl (any_of HT_.out (by kernel_rfl)) (fun _ _ _ h => h) (Or.inl ⟨by rfl, ?_⟩) ?_ ?_
          rotate_left
          ·intro w'
           go_simp
           with_reducible rfl
          rotate_left
          ·simp only [Act.put, List.setIfInBounds_toArray, List.set_cons_zero, List.set_cons_succ, i64_w, i32_w]
           rfl
          refine pure_ (i := 6) (N := some 86) (v := ?_) (a' := ?_) #[true, true, true, false, false, false, true, false, false] rfl rfl (any_of HT_.out (by kernel_rfl)) (fun _ _ _ h => h) (Or.inl ⟨by rfl, ?_⟩) ?_ ?_
          rotate_left
          ·intro w'
           go_simp
           with_reducible rfl
          rotate_left
          ·simp only [Act.put, List.setIfInBounds_toArray, List.set_cons_zero, List.set_cons_succ, i64_w, i32_w]
           rfl
          refine take_ (i := 3) (N := some 83) (v := ?_) (a' := ?_) #[true, true, true, true, false, false, true, false, false] rfl rfl (take_ofW HT_.out HW_.out (by kernel_rfl)) (fun _ _ _ h => h) (Or.inl ⟨by rfl, ?_⟩) hHeld ?_ ?_
          rotate_left
          ·rintro w' ⟨s0, s1, s2, s3, s4, s5, s6, s7, s8⟩
           go_simp
           with_reducible rfl
          rotate_left
          ·simp only [Act.put, List.setIfInBounds_toArray, List.set_cons_zero, List.set_cons_succ, i64_w, i32_w]
           rfl
          refine pure_ (i := 4) (N := some 84) (v := ?_) (a' := ?_) #[true, true, true, true, true, false, true, false, false] rfl rfl (any_of HT_.out (by kernel_rfl)) (fun _ _ _ h => h) (Or.inl ⟨by rfl, ?_⟩) ?_ ?_
          rotate_left
          ·intro w'
           go_simp
           with_reducible rfl
          rotate_left
          ·simp only [Act.put, List.setIfInBounds_toArray, List.set_cons_zero, List.set_cons_succ, i64_w, i32_w]
           rfl
          refine pure_ (i := 5) (N := some 85) (v := ?_) (a' := ?_) #[true, true, true, true, true, true, true, false, false] rfl rfl (any_of HT_.out (by kernel_rfl)) (fun _ _ _ h => h) (Or.inl ⟨by rfl, ?_⟩) ?_ ?_
          rotate_left
          ·intro w'
           go_simp
           with_reducible rfl
          rotate_left
          ·simp only [Act.put, List.setIfInBounds_toArray, List.set_cons_zero, List.set_cons_succ, i64_w, i32_w]
           rfl
          refine one_ (i := 7) (N := none) #[true, true, true, true, true, true, true, true, false] rfl rfl (one_of HT_.out (by kernel_rfl)) (by decide) (fun K hK => ?_)
          have hs243 : w242.cell? ⟨gb111, 2, none⟩ = some (.int .i64 t106) := (blk_cell BK111.out 2).trans rfl
          have hfs243 := blk_frozen BK111.out 2
          have hns243_0 := NB103_111.out
          have hms243_0 := NB111_103.out
          refine skip_ (w1 := ?_) (by rfl) rfl ?_ ?_
          rotate_left
          ·go_simp
           rfl
          refine hK.out _ _ ⟨((cell_far (p := ⟨gb111, _, none⟩) NB103_111.out _).trans (hHeld.1)), ((cell_far (p := ⟨gb111, _, none⟩) NB103_111.out _).trans (hHeld.2.1)), ((cell_far (p := ⟨gb111, _, none⟩) NB103_111.out _).trans (hHeld.2.2.1)), ((cell_far (p := ⟨gb111, _, none⟩) NB103_111.out _).trans (hHeld.2.2.2.1)), ((cell_far (p := ⟨gb111, _, none⟩) NB103_111.out _).trans (hHeld.2.2.2.2.1)), ((cell_far (p := ⟨gb111, _, none⟩) NB103_111.out _).trans (hHeld.2.2.2.2.2.1)), ((cell_far (p := ⟨gb111, _, none⟩) NB103_111.out _).trans (hHeld.2.2.2.2.2.2.1)), ((cell_far (p := ⟨gb111, _, none⟩) NB103_111.out _).trans (hHeld.2.2.2.2.2.2.2.1)), ((cell_far (p := ⟨gb111, _, none⟩) NB103_111.out _).trans (hHeld.2.2.2.2.2.2.2.2))⟩ (fun hHeld => ?_)
          clear hK K
          refine pure_ (i := 8) (N := some 4) (v := ?_) (a' := ?_) #[true, true, true, true, true, true, true, true, true] rfl rfl (any_of HT_.out (by kernel_rfl)) (fun _ _ _ h => h) (Or.inl ⟨by rfl, ?_⟩) ?_ ?_
          rotate_left
          ·intro w'
           go_simp
           with_reducible rfl
          rotate_left
          ·simp only [Act.put, List.setIfInBounds_toArray, List.set_cons_zero, List.set_cons_succ, i64_w, i32_w]
           rfl
          refine done_ (done_of HT_.out (by kernel_rfl)) ?_
          have hcz244_0 : w242.cell? ⟨gb111, 0, none⟩ = some (.int .i64 t104) := (blk_cell BK111.out 0).trans rfl
          have hcz244_1 : w242.cell? ⟨gb111, 1, none⟩ = some (.int .i64 t105) := (blk_cell BK111.out 1).trans rfl
          have hcz244_2 : w242.cell? ⟨gb111, 2, none⟩ = some (.int .i64 t106) := (blk_cell BK111.out 2).trans rfl
          have hcz244_3 : w242.cell? ⟨gb111, 3, none⟩ = some (.int .i64 t107) := (blk_cell BK111.out 3).trans rfl
          have hcz244_4 : w242.cell? ⟨gb111, 4, none⟩ = some (.string t108) := (blk_cell BK111.out 4).trans rfl
          have hcz244_5 : w242.cell? ⟨gb111, 5, none⟩ = some (.string t109) := (blk_cell BK111.out 5).trans rfl
          have hcz244_6 : w242.cell? ⟨gb111, 6, none⟩ = some (.bool t110) := (blk_cell BK111.out 6).trans rfl
          have hfz244_0 := blk_frozen BK111.out 0
          have hfz244_1 := blk_frozen BK111.out 1
          have hfz244_2 := blk_frozen BK111.out 2
          have hfz244_3 := blk_frozen BK111.out 3
          have hfz244_4 := blk_frozen BK111.out 4
          have hfz244_5 := blk_frozen BK111.out 5
          have hfz244_6 := blk_frozen BK111.out 6
          have hcz245_0 : w242.cell? ⟨gb103, 0, none⟩ = some (.int .i64 a0_0) := (blk_cell BK103.out 0).trans rfl
          have hcz245_1 : w242.cell? ⟨gb103, 1, none⟩ = some (.int .i64 a0_1) := (blk_cell BK103.out 1).trans rfl
          have hcz245_2 : w242.cell? ⟨gb103, 2, none⟩ = some (.int .i64 a0_2) := (blk_cell BK103.out 2).trans rfl
          have hcz245_3 : w242.cell? ⟨gb103, 3, none⟩ = some (.int .i64 a0_3) := (blk_cell BK103.out 3).trans rfl
          have hcz245_4 : w242.cell? ⟨gb103, 4, none⟩ = some (.string a0_4) := (blk_cell BK103.out 4).trans rfl
          have hcz245_5 : w242.cell? ⟨gb103, 5, none⟩ = some (.string a0_5) := (blk_cell BK103.out 5).trans rfl
          have hcz245_6 : w242.cell? ⟨gb103, 6, none⟩ = some (.bool a0_6) := (blk_cell BK103.out 6).trans rfl
          have hcz245_7 : w242.cell? ⟨gb103, 7, none⟩ = some (.slice A0_7 l0_7.length c0_7) := (blk_cell BK103.out 7).trans rfl
          have hcz245_8 : w242.cell? ⟨gb103, 8, none⟩ = some (.slice A0_8 l0_8.length c0_8) := (blk_cell BK103.out 8).trans rfl
          have hfz245_0 := blk_frozen BK103.out 0
          have hfz245_1 := blk_frozen BK103.out 1
          have hfz245_2 := blk_frozen BK103.out 2
          have hfz245_3 := blk_frozen BK103.out 3
          have hfz245_4 := blk_frozen BK103.out 4
          have hfz245_5 := blk_frozen BK103.out 5
          have hfz245_6 := blk_frozen BK103.out 6
          have hfz245_7 := blk_frozen BK103.out 7
          have hfz245_8 := blk_frozen BK103.out 8
          try go_wp2
          go_ret
          exact ⟨by rw [HV.out]; rfl, by repeat (first | (with_reducible first | exact HB.out | apply below_alloc | apply pw_below_drewN | apply below_drew1 | refine below_set ?_ GE103.out | refine below_set ?_ GE111.out) | exact HB.out)⟩
      · have p1b : decide (0 < a0_1) = false := decide_eq_false p1
        clear p1
        have HV : Aside0 (r = 80) := ⟨by rw [HRV2.out, ok6 HKD.out, hno, p1b]; rfl⟩
        go_wp2
        have n0_ := Aside0.mk (blk_drew BK103.out)
        have n1_ := Aside0.mk (blk_drew BK111.out)
        have n2_ := Aside0.mk (below_drew1 HB.out)
        clear BK103
        clear BK111
        clear HB
        have BK103 := n0_
        have BK111 := n1_
        have HB := n2_
        clear n0_ n1_ n2_
        refine start_ (n := 9) (S := fun w' => w'.cell? ⟨gb103, 0, none⟩ = some (.int .i64 a0_0) ∧ w'.cell? ⟨gb103, 1, none⟩ = some (.int .i64 a0_1) ∧ w'.cell? ⟨gb103, 2, none⟩ = some (.int .i64 a0_2) ∧ w'.cell? ⟨gb103, 3, none⟩ = some (.int .i64 a0_3) ∧ w'.cell? ⟨gb103, 4, none⟩ = some (.string a0_4) ∧ w'.cell? ⟨gb103, 5, none⟩ = some (.string a0_5) ∧ w'.cell? ⟨gb103, 6, none⟩ = some (.bool a0_6) ∧ w'.cell? ⟨gb103, 7, none⟩ = some (.slice A0_7 l0_7.length c0_7) ∧ w'.cell? ⟨gb103, 8, none⟩ = some (.slice A0_8 l0_8.length c0_8)) (ds := []) #[false, false, false, false, false, false, false, false, false] (by kernel_rfl) rfl rfl ⟨(blk_cell BK103.out 0).trans rfl, (blk_cell BK103.out 1).trans rfl, (blk_cell BK103.out 2).trans rfl, (blk_cell BK103.out 3).trans rfl, (blk_cell BK103.out 4).trans rfl, (blk_cell BK103.out 5).trans rfl, (blk_cell BK103.out 6).trans rfl, (blk_cell BK103.out 7).trans rfl, (blk_cell BK103.out 8).trans rfl⟩ (fun hHeld => ?_); refine with_tabW record_Check.tab13 record_Check.bits13 (fun HT_ HW_ => ?_)
        generalize w35.drew = w242 at BK103 BK111 HB hHeld ⊢
        refine pure_ (i := 0) (N := some 80) (v := ?_) (a' := ?_) #[true, false, false, false, false, false, false, false, false] rfl rfl (any_of HT_.out (by kernel_rfl)) (fun _ _ _ h => h) (Or.inl ⟨by rfl, ?_⟩) ?_ ?_
        rotate_left
        ·intro w'
         go_simp
         with_reducible rfl
        rotate_left
        ·simp only [Act.put, List.setIfInBounds_toArray, List.set_cons_zero, List.set_cons_succ, i64_w, i32_w]
         rfl
        refine pure_ (i := 1) (N := some 81) (v := ?_) (a' := ?_) #[true, true, false, false, false, false, false, false, false] rfl rfl (any_of HT_.out (by kernel_rfl)) (fun _ _ _ h => h) (Or.inl ⟨by rfl, ?_⟩) ?_ ?_
        rotate_left
        ·intro w'
         go_simp
         with_reducible rfl
        rotate_left
        ·simp only [Act.put, List.setIfInBounds_toArray, List.set_cons_zero, List.set_cons_succ, i64_w, i32_w]
         rfl
        refine pure_ (i := 2) (N := some 82) (v := ?_) (a' := ?_) #[true, true, true, false, false, false, false, false, false] rfl rfl (any_of HT_.out (by kernel_rfl)) (fun _ _ _ h => h) (Or.inl ⟨by rfl, ?_⟩) ?_ ?_
        rotate_left
        ·intro w'
         go_simp
         with_reducible rfl
        rotate_left
        ·simp only [Act.put, List.setIfInBounds_toArray, List.set_cons_zero, List.set_cons_succ, i64_w, i32_w]
         rfl
        refine pure_ (i := 6) (N := some 86) (v := ?_) (a' := ?_) #[true, true, true, false, false, false, true, false, false] rfl rfl (any_of HT_.out (by kernel_rfl)) (fun _ _ _ h => h) (Or.inl ⟨by rfl, ?_⟩) ?_ ?_
        rotate_left
        ·intro w'
         go_simp
         with_reducible rfl
        rotate_left
        ·simp only [Act.put, List.setIfInBounds_toArray, List.set_cons_zero, List.set_cons_succ, i64_w, i32_w]
         rfl
        refine take_ (i := 3) (N := some 83) (v := ?_) (a' := ?_) #[true, true, true, true, false, false, true, false, false] rfl rfl (take_ofW HT_.out HW_.out (by kernel_rfl)) (fun _ _ _ h => h) (Or.inl ⟨by rfl, ?_⟩) hHeld ?_ ?_
        rotate_left
        ·rintro w' ⟨s0, s1, s2, s3, s4, s5, s6, s7, s8⟩
         go_simp
         with_reducible rfl
        rotate_left
        ·simp only [Act.put, List.setIfInBounds_toArray, List.set_cons_zero, List.set_cons_succ, i64_w, i32_w]
         rfl
        refine pure_ (i := 4) (N := some 84) (v := ?_) (a' := ?_) #[true, true, true, true, true, false, true, false, false] rfl rfl (any_of HT_.out (by kernel_rfl)) (fun _ _ _ h => h) (Or.inl ⟨by rfl, ?_⟩) ?_ ?_
        rotate_left
        ·intro w'
         go_simp
         with_reducible rfl
        rotate_left
        ·simp only [Act.put, List.setIfInBounds_toArray, List.set_cons_zero, List.set_cons_succ, i64_w, i32_w]
         rfl
        refine pure_ (i := 5) (N := some 85) (v := ?_) (a' := ?_) #[true, true, true, true, true, true, true, false, false] rfl rfl (any_of HT_.out (by kernel_rfl)) (fun _ _ _ h => h) (Or.inl ⟨by rfl, ?_⟩) ?_ ?_
        rotate_left
        ·intro w'
         go_simp
         with_reducible rfl
        rotate_left
        ·simp only [Act.put, List.setIfInBounds_toArray, List.set_cons_zero, List.set_cons_succ, i64_w, i32_w]
         rfl
        refine one_ (i := 7) (N := none) #[true, true, true, true, true, true, true, true, false] rfl rfl (one_of HT_.out (by kernel_rfl)) (by decide) (fun K hK => ?_)
        have hs243 : w242.cell? ⟨gb111, 2, none⟩ = some (.int .i64 t106) := (blk_cell BK111.out 2).trans rfl
        have hfs243 := blk_frozen BK111.out 2
        have hns243_0 := NB103_111.out
        have hms243_0 := NB111_103.out
        refine skip_ (w1 := ?_) (by rfl) rfl ?_ ?_
        rotate_left
        ·go_simp
         rfl
        refine hK.out _ _ ⟨((cell_far (p := ⟨gb111, _, none⟩) NB103_111.out _).trans (hHeld.1)), ((cell_far (p := ⟨gb111, _, none⟩) NB103_111.out _).trans (hHeld.2.1)), ((cell_far (p := ⟨gb111, _, none⟩) NB103_111.out _).trans (hHeld.2.2.1)), ((cell_far (p := ⟨gb111, _, none⟩) NB103_111.out _).trans (hHeld.2.2.2.1)), ((cell_far (p := ⟨gb111, _, none⟩) NB103_111.out _).trans (hHeld.2.2.2.2.1)), ((cell_far (p := ⟨gb111, _, none⟩) NB103_111.out _).trans (hHeld.2.2.2.2.2.1)), ((cell_far (p := ⟨gb111, _, none⟩) NB103_111.out _).trans (hHeld.2.2.2.2.2.2.1)), ((cell_far (p := ⟨gb111, _, none⟩) NB103_111.out _).trans (hHeld.2.2.2.2.2.2.2.1)), ((cell_far (p := ⟨gb111, _, none⟩) NB103_111.out _).trans (hHeld.2.2.2.2.2.2.2.2))⟩ (fun hHeld => ?_)
        clear hK K
        refine pure_ (i := 8) (N := some 4) (v := ?_) (a' := ?_) #[true, true, true, true, true, true, true, true, true] rfl rfl (any_of HT_.out (by kernel_rfl)) (fun _ _ _ h => h) (Or.inl ⟨by rfl, ?_⟩) ?_ ?_
        rotate_left
        ·intro w'
         go_simp
         with_reducible rfl
        rotate_left
        ·simp only [Act.put, List.setIfInBounds_toArray, List.set_cons_zero, List.set_cons_succ, i64_w, i32_w]
         rfl
        refine done_ (done_of HT_.out (by kernel_rfl)) ?_
        have hcz244_0 : w242.cell? ⟨gb111, 0, none⟩ = some (.int .i64 t104) := (blk_cell BK111.out 0).trans rfl
        have hcz244_1 : w242.cell? ⟨gb111, 1, none⟩ = some (.int .i64 t105) := (blk_cell BK111.out 1).trans rfl
        have hcz244_2 : w242.cell? ⟨gb111, 2, none⟩ = some (.int .i64 t106) := (blk_cell BK111.out 2).trans rfl
        have hcz244_3 : w242.cell? ⟨gb111, 3, none⟩ = some (.int .i64 t107) := (blk_cell BK111.out 3).trans rfl
        have hcz244_4 : w242.cell? ⟨gb111, 4, none⟩ = some (.string t108) := (blk_cell BK111.out 4).trans rfl
        have hcz244_5 : w242.cell? ⟨gb111, 5, none⟩ = some (.string t109) := (blk_cell BK111.out 5).trans rfl
        have hcz244_6 : w242.cell? ⟨gb111, 6, none⟩ = some (.bool t110) := (blk_cell BK111.out 6).trans rfl
        have hfz244_0 := blk_frozen BK111.out 0
        have hfz244_1 := blk_frozen BK111.out 1
        have hfz244_2 := blk_frozen BK111.out 2
        have hfz244_3 := blk_frozen BK111.out 3
        have hfz244_4 := blk_frozen BK111.out 4
        have hfz244_5 := blk_frozen BK111.out 5
        have hfz244_6 := blk_frozen BK111.out 6
        have hcz245_0 : w242.cell? ⟨gb103, 0, none⟩ = some (.int .i64 a0_0) := (blk_cell BK103.out 0).trans rfl
        have hcz245_1 : w242.cell? ⟨gb103, 1, none⟩ = some (.int .i64 a0_1) := (blk_cell BK103.out 1).trans rfl
        have hcz245_2 : w242.cell? ⟨gb103, 2, none⟩ = some (.int .i64 a0_2) := (blk_cell BK103.out 2).trans rfl
        have hcz245_3 : w242.cell? ⟨gb103, 3, none⟩ = some (.int .i64 a0_3) := (blk_cell BK103.out 3).trans rfl
        have hcz245_4 : w242.cell? ⟨gb103, 4, none⟩ = some (.string a0_4) := (blk_cell BK103.out 4).trans rfl
        have hcz245_5 : w242.cell? ⟨gb103, 5, none⟩ = some (.string a0_5) := (blk_cell BK103.out 5).trans rfl
        have hcz245_6 : w242.cell? ⟨gb103, 6, none⟩ = some (.bool a0_6) := (blk_cell BK103.out 6).trans rfl
        have hcz245_7 : w242.cell? ⟨gb103, 7, none⟩ = some (.slice A0_7 l0_7.length c0_7) := (blk_cell BK103.out 7).trans rfl
        have hcz245_8 : w242.cell? ⟨gb103, 8, none⟩ = some (.slice A0_8 l0_8.length c0_8) := (blk_cell BK103.out 8).trans rfl
        have hfz245_0 := blk_frozen BK103.out 0
        have hfz245_1 := blk_frozen BK103.out 1
        have hfz245_2 := blk_frozen BK103.out 2
        have hfz245_3 := blk_frozen BK103.out 3
        have hfz245_4 := blk_frozen BK103.out 4
        have hfz245_5 := blk_frozen BK103.out 5
        have hfz245_6 := blk_frozen BK103.out 6
        have hfz245_7 := blk_frozen BK103.out 7
        have hfz245_8 := blk_frozen BK103.out 8
        try go_wp2
        go_ret
        exact ⟨by rw [HV.out]; rfl, by repeat (first | (with_reducible first | exact HB.out | apply below_alloc | apply pw_below_drewN | apply below_drew1 | refine below_set ?_ GE103.out | refine below_set ?_ GE111.out) | exact HB.out)⟩
  have k6b : (a0_0 == 6) = false := beq_eq_false_iff_ne.mpr k6
  have k6c : (a0_0 != 6) = true := bne_iff_ne.mpr k6
  by_cases k3 : a0_0 = 3
  · have HKD := Aside0.mk k3
    have k3b : (a0_0 == 3) = true := beq_iff_eq.mpr k3
    have k3c : (a0_0 != 3) = false := bne_eq_false_iff_eq.mpr k3
    clear k3
    cases hno : noneB l0_7 l0_8 with
    | false =>
      have HV : Aside0 (r = 80) := ⟨by rw [HRV2.out, ok3 HKD.out, hno]; rfl⟩
      go_wp2
      try go_wp2
      go_ret
      exact ⟨by rw [HV.out]; rfl, by repeat (first | (with_reducible first | exact HB.out | apply below_alloc | apply pw_below_drewN | apply below_drew1 | refine below_set ?_ GE103.out | refine below_set ?_ GE111.out) | exact HB.out)⟩
    | true =>
      by_cases p2 : 0 < a0_2
      · have p2b : decide (0 < a0_2) = true := decide_eq_true p2
        clear p2
        obtain ⟨t142, A2990⟩ : ∃ t142, letter_Key.f a0_4 = some t142 := ⟨_, key_f a0_4⟩
        have hk4 : keyB a0_4 = t142 := by have h := A2990; rw [key_f] at h; injection h
        have A299 := Aside0.mk A2990
        clear A2990
        have HK4 := Aside0.mk hk4
        clear hk4
        cases t142 with
        | true =>
          by_cases p5 : a0_5.size ≤ 2052
          · have p5b : decide (a0_5.size ≤ 2052) = true := decide_eq_true p5
            have p5c : decide ((a0_5.size : Int) ≤ 2052) = true := decide_eq_true (by omega)
            clear p5
            cases hd6 : a0_6 with
            | false =>
              subst hd6
              by_cases hXt : (a0_1 == 0 && a0_3 == 0) = true
              · have czb : (!(0 == a0_1) || (!(0 == a0_3))) = false := by rw [ne3 A16.out, hXt]; rfl
                have HV : Aside0 (r = 0) := ⟨by rw [HRV2.out, ok3 HKD.out, hno, p2b, HK4.out, p5b, show (!(false && !a0_5.toList.isEmpty)) = true from rfl, hXt]; rfl⟩
                clear hXt
                go_wp2_with (first | (go_at_call 75; (with_reducible refine (letter_Key.calls a0_4 true _ A299.out).mono ?_); rintro e w' ⟨rfl, ⟨nd, rfl⟩⟩))
                go_ret
                exact ⟨by rw [HV.out]; rfl, by repeat (first | (with_reducible first | exact HB.out | apply below_alloc | apply pw_below_drewN | apply below_drew1 | refine below_set ?_ GE103.out | refine below_set ?_ GE111.out) | exact HB.out)⟩
              · have hXf : (a0_1 == 0 && a0_3 == 0) = false := by simpa only [Bool.not_eq_true] using hXt
                clear hXt
                have czb : (!(0 == a0_1) || (!(0 == a0_3))) = true := by rw [ne3 A16.out, hXf]; rfl
                have HV : Aside0 (r = 80) := ⟨by rw [HRV2.out, ok3 HKD.out, hno, p2b, HK4.out, p5b, show (!(false && !a0_5.toList.isEmpty)) = true from rfl, hXf]; rfl⟩
                clear hXf
                go_wp2_with (first | (go_at_call 75; (with_reducible refine (letter_Key.calls a0_4 true _ A299.out).mono ?_); rintro e w' ⟨rfl, ⟨nd, rfl⟩⟩))
                go_ret
                exact ⟨by rw [HV.out]; rfl, by repeat (first | (with_reducible first | exact HB.out | apply below_alloc | apply pw_below_drewN | apply below_drew1 | refine below_set ?_ GE103.out | refine below_set ?_ GE111.out) | exact HB.out)⟩
            | true =>
              subst hd6
              by_cases p6 : a0_5.toList = ([] : List UInt8)
              · have p6b : (a0_5.toList == ([] : List UInt8)) = true := beq_iff_eq.mpr p6
                have p6c : (a0_5.toList != ([] : List UInt8)) = false := bne_eq_false_iff_eq.mpr p6
                have p6d : (!(true && !a0_5.toList.isEmpty)) = true := by rw [p6]; rfl
                clear p6
                by_cases hXt : (a0_1 == 0 && a0_3 == 0) = true
                · have czb : (!(0 == a0_1) || (!(0 == a0_3))) = false := by rw [ne3 A16.out, hXt]; rfl
                  have HV : Aside0 (r = 0) := ⟨by rw [HRV2.out, ok3 HKD.out, hno, p2b, HK4.out, p5b, p6d, hXt]; rfl⟩
                  clear hXt
                  go_wp2_with (first | (go_at_call 75; (with_reducible refine (letter_Key.calls a0_4 true _ A299.out).mono ?_); rintro e w' ⟨rfl, ⟨nd, rfl⟩⟩))
                  go_ret
                  exact ⟨by rw [HV.out]; rfl, by repeat (first | (with_reducible first | exact HB.out | apply below_alloc | apply pw_below_drewN | apply below_drew1 | refine below_set ?_ GE103.out | refine below_set ?_ GE111.out) | exact HB.out)⟩
                · have hXf : (a0_1 == 0 && a0_3 == 0) = false := by simpa only [Bool.not_eq_true] using hXt
                  clear hXt
                  have czb : (!(0 == a0_1) || (!(0 == a0_3))) = true := by rw [ne3 A16.out, hXf]; rfl
                  have HV : Aside0 (r = 80) := ⟨by rw [HRV2.out, ok3 HKD.out, hno, p2b, HK4.out, p5b, p6d, hXf]; rfl⟩
                  clear hXf
                  go_wp2_with (first | (go_at_call 75; (with_reducible refine (letter_Key.calls a0_4 true _ A299.out).mono ?_); rintro e w' ⟨rfl, ⟨nd, rfl⟩⟩))
                  go_ret
                  exact ⟨by rw [HV.out]; rfl, by repeat (first | (with_reducible first | exact HB.out | apply below_alloc | apply pw_below_drewN | apply below_drew1 | refine below_set ?_ GE103.out | refine below_set ?_ GE111.out) | exact HB.out)⟩
              · have p6b : (a0_5.toList == ([] : List UInt8)) = false := beq_eq_false_iff_ne.mpr p6
                have p6c : (a0_5.toList != ([] : List UInt8)) = true := bne_iff_ne.mpr p6
                have p6d : (!(true && !a0_5.toList.isEmpty)) = false := by simp [p6]
                clear p6
                have HV : Aside0 (r = 80) := ⟨by rw [HRV2.out, ok3 HKD.out, hno, p2b, HK4.out, p5b, p6d]; rfl⟩
                go_wp2_with (first | (go_at_call 75; (with_reducible refine (letter_Key.calls a0_4 true _ A299.out).mono ?_); rintro e w' ⟨rfl, ⟨nd, rfl⟩⟩))
                go_ret
                exact ⟨by rw [HV.out]; rfl, by repeat (first | (with_reducible first | exact HB.out | apply below_alloc | apply pw_below_drewN | apply below_drew1 | refine below_set ?_ GE103.out | refine below_set ?_ GE111.out) | exact HB.out)⟩
          · have p5b : decide (a0_5.size ≤ 2052) = false := decide_eq_false p5
            have p5c : decide ((a0_5.size : Int) ≤ 2052) = false := decide_eq_false (by omega)
            clear p5
            have HV : Aside0 (r = 80) := ⟨by rw [HRV2.out, ok3 HKD.out, hno, p2b, HK4.out, p5b]; rfl⟩
            go_wp2_with (first | (go_at_call 75; (with_reducible refine (letter_Key.calls a0_4 true _ A299.out).mono ?_); rintro e w' ⟨rfl, ⟨nd, rfl⟩⟩))
            go_ret
            exact ⟨by rw [HV.out]; rfl, by repeat (first | (with_reducible first | exact HB.out | apply below_alloc | apply pw_below_drewN | apply below_drew1 | refine below_set ?_ GE103.out | refine below_set ?_ GE111.out) | exact HB.out)⟩
        | false =>
          have HV : Aside0 (r = 80) := ⟨by rw [HRV2.out, ok3 HKD.out, hno, p2b, HK4.out]; rfl⟩
          go_wp2_with (first | (go_at_call 75; (with_reducible refine (letter_Key.calls a0_4 false _ A299.out).mono ?_); rintro e w' ⟨rfl, ⟨nd, rfl⟩⟩))
          go_ret
          exact ⟨by rw [HV.out]; rfl, by repeat (first | (with_reducible first | exact HB.out | apply below_alloc | apply pw_below_drewN | apply below_drew1 | refine below_set ?_ GE103.out | refine below_set ?_ GE111.out) | exact HB.out)⟩
      · have p2b : decide (0 < a0_2) = false := decide_eq_false p2
        clear p2
        have HV : Aside0 (r = 80) := ⟨by rw [HRV2.out, ok3 HKD.out, hno, p2b]; rfl⟩
        go_wp2
        try go_wp2
        go_ret
        exact ⟨by rw [HV.out]; rfl, by repeat (first | (with_reducible first | exact HB.out | apply below_alloc | apply pw_below_drewN | apply below_drew1 | refine below_set ?_ GE103.out | refine below_set ?_ GE111.out) | exact HB.out)⟩
  have k3b : (a0_0 == 3) = false := beq_eq_false_iff_ne.mpr k3
  have k3c : (a0_0 != 3) = true := bne_iff_ne.mpr k3
  by_cases k4 : a0_0 = 4
  · have HKD := Aside0.mk k4
    have k4b : (a0_0 == 4) = true := beq_iff_eq.mpr k4
    have k4c : (a0_0 != 4) = false := bne_eq_false_iff_eq.mpr k4
    clear k4
    cases hno : noneB l0_7 l0_8 with
    | false =>
      have HV : Aside0 (r = 80) := ⟨by rw [HRV2.out, ok4 HKD.out, hno]; rfl⟩
      go_wp2
      try go_wp2
      go_ret
      exact ⟨by rw [HV.out]; rfl, by repeat (first | (with_reducible first | exact HB.out | apply below_alloc | apply pw_below_drewN | apply below_drew1 | refine below_set ?_ GE103.out | refine below_set ?_ GE111.out) | exact HB.out)⟩
    | true =>
      by_cases hXt : (a0_1 == 0 && (a0_3 == 0 && bareB a0_4 a0_5 a0_6)) = true
      · have czb : (!(t104 == a0_0) || (!(0 == a0_1) || (!(t106 == a0_2) || (!(t107 == a0_3) || (!(t108.toList == a0_4.toList) || (!(t109.toList == a0_5.toList) || (!(t110 == a0_6)))))))) = false := by rw [ne4 A16.out, hXt]; rfl
        have HV : Aside0 (r = 0) := ⟨by rw [HRV2.out, ok4 HKD.out, hno, hXt]; rfl⟩
        clear hXt
        go_wp2
        try go_wp2
        go_ret
        exact ⟨by rw [HV.out]; rfl, by repeat (first | (with_reducible first | exact HB.out | apply below_alloc | apply pw_below_drewN | apply below_drew1 | refine below_set ?_ GE103.out | refine below_set ?_ GE111.out) | exact HB.out)⟩
      · have hXf : (a0_1 == 0 && (a0_3 == 0 && bareB a0_4 a0_5 a0_6)) = false := by simpa only [Bool.not_eq_true] using hXt
        clear hXt
        have czb : (!(t104 == a0_0) || (!(0 == a0_1) || (!(t106 == a0_2) || (!(t107 == a0_3) || (!(t108.toList == a0_4.toList) || (!(t109.toList == a0_5.toList) || (!(t110 == a0_6)))))))) = true := by rw [ne4 A16.out, hXf]; rfl
        have HV : Aside0 (r = 80) := ⟨by rw [HRV2.out, ok4 HKD.out, hno, hXf]; rfl⟩
        clear hXf
        go_wp2
        try go_wp2
        go_ret
        exact ⟨by rw [HV.out]; rfl, by repeat (first | (with_reducible first | exact HB.out | apply below_alloc | apply pw_below_drewN | apply below_drew1 | refine below_set ?_ GE103.out | refine below_set ?_ GE111.out) | exact HB.out)⟩
  have k4b : (a0_0 == 4) = false := beq_eq_false_iff_ne.mpr k4
  have k4c : (a0_0 != 4) = true := bne_iff_ne.mpr k4
  by_cases k7 : a0_0 = 7
  · have HKD := Aside0.mk k7
    have k7b : (a0_0 == 7) = true := beq_iff_eq.mpr k7
    have k7c : (a0_0 != 7) = false := bne_eq_false_iff_eq.mpr k7
    clear k7
    cases hno : noneB l0_7 l0_8 with
    | false =>
      have HV : Aside0 (r = 80) := ⟨by rw [HRV2.out, ok7 HKD.out, hno]; rfl⟩
      go_wp2
      have n0_ := Aside0.mk (blk_drew BK103.out)
      have n1_ := Aside0.mk (blk_drew BK111.out)
      have n2_ := Aside0.mk (below_drew1 HB.out)
      clear BK103
      clear BK111
      clear HB
      have BK103 := n0_
      have BK111 := n1_
      have HB := n2_
      clear n0_ n1_ n2_
      refine start_ (n := 9) (S := fun w' => True) (ds := []) #[false, false, false, false, false, false, false, false, false] (by kernel_rfl) rfl rfl trivial (fun hHeld => ?_); refine with_tabW record_Check.tab20 record_Check.bits20 (fun HT_ HW_ => ?_)
      generalize w35.drew = w547 at BK103 BK111 HB hHeld ⊢
      refine pure_ (i := 0) (N := some 132) (v := ?_) (a' := ?_) #[true, false, false, false, false, false, false, false, false] rfl rfl (any_of HT_.out (by kernel_rfl)) (fun _ _ _ h => h) (Or.inl ⟨by rfl, ?_⟩) ?_ ?_
      rotate_left
      ·intro w'
       go_simp
       with_reducible rfl
      rotate_left
      ·simp only [Act.put, List.setIfInBounds_toArray, List.set_cons_zero, List.set_cons_succ, i64_w, i32_w]
       rfl
      refine pure_ (i := 1) (N := some 133) (v := ?_) (a' := ?_) #[true, true, false, false, false, false, false, false, false] rfl rfl (any_of HT_.out (by kernel_rfl)) (fun _ _ _ h => h) (Or.inl ⟨by rfl, ?_⟩) ?_ ?_
      rotate_left
      ·intro w'
       go_simp
       with_reducible rfl
      rotate_left
      ·simp only [Act.put, List.setIfInBounds_toArray, List.set_cons_zero, List.set_cons_succ, i64_w, i32_w]
       rfl
      refine pure_ (i := 2) (N := some 134) (v := undef) (a' := ?_) #[true, true, true, false, false, false, false, false, false] rfl rfl (any_of HT_.out (by kernel_rfl)) (fun _ _ _ h => h) (Or.inr ⟨by rfl, rfl⟩) ?_ ?_
      rotate_left
      ·simp only [Act.put, List.setIfInBounds_toArray, List.set_cons_zero, List.set_cons_succ, i64_w, i32_w]
       rfl
      refine pure_ (i := 3) (N := some 135) (v := undef) (a' := ?_) #[true, true, true, true, false, false, false, false, false] rfl rfl (any_of HT_.out (by kernel_rfl)) (fun _ _ _ h => h) (Or.inr ⟨by rfl, rfl⟩) ?_ ?_
      rotate_left
      ·simp only [Act.put, List.setIfInBounds_toArray, List.set_cons_zero, List.set_cons_succ, i64_w, i32_w]
       rfl
      refine pure_ (i := 4) (N := some 136) (v := undef) (a' := ?_) #[true, true, true, true, true, false, false, false, false] rfl rfl (any_of HT_.out (by kernel_rfl)) (fun _ _ _ h => h) (Or.inr ⟨by rfl, rfl⟩) ?_ ?_
      rotate_left
      ·simp only [Act.put, List.setIfInBounds_toArray, List.set_cons_zero, List.set_cons_succ, i64_w, i32_w]
       rfl
      refine pure_ (i := 5) (N := some 137) (v := ?_) (a' := ?_) #[true, true, true, true, true, true, false, false, false] rfl rfl (any_of HT_.out (by kernel_rfl)) (fun _ _ _ h => h) (Or.inl ⟨by rfl, ?_⟩) ?_ ?_
      rotate_left
      ·intro w'
       go_simp
       with_reducible rfl
      rotate_left
      ·simp only [Act.put, List.setIfInBounds_toArray, List.set_cons_zero, List.set_cons_succ, i64_w, i32_w]
       rfl
      refine pure_ (i := 6) (N := some 138) (v := ?_) (a' := ?_) #[true, true, true, true, true, true, true, false, false] rfl rfl (any_of HT_.out (by kernel_rfl)) (fun _ _ _ h => h) (Or.inl ⟨by rfl, ?_⟩) ?_ ?_
      rotate_left
      ·intro w'
       go_simp
       with_reducible rfl
      rotate_left
      ·simp only [Act.put, List.setIfInBounds_toArray, List.set_cons_zero, List.set_cons_succ, i64_w, i32_w]
       rfl
      refine one_ (i := 7) (N := none) #[true, true, true, true, true, true, true, true, false] rfl rfl (one_of HT_.out (by kernel_rfl)) (by decide) (fun K hK => ?_)
      have hs548 : w547.cell? ⟨gb111, 1, none⟩ = some (.int .i64 t105) := (blk_cell BK111.out 1).trans rfl
      have hfs548 := blk_frozen BK111.out 1
      have hns548_0 := NB103_111.out
      have hms548_0 := NB111_103.out
      refine skip_ (w1 := ?_) (by rfl) rfl ?_ ?_
      rotate_left
      ·go_simp
       rfl
      refine hK.out _ _ trivial (fun hHeld => ?_)
      clear hK K
      refine pure_ (i := 8) (N := some 4) (v := ?_) (a' := ?_) #[true, true, true, true, true, true, true, true, true] rfl rfl (any_of HT_.out (by kernel_rfl)) (fun _ _ _ h => h) (Or.inl ⟨by rfl, ?_⟩) ?_ ?_
      rotate_left
      ·intro w'
       go_simp
       with_reducible rfl
      rotate_left
      ·simp only [Act.put, List.setIfInBounds_toArray, List.set_cons_zero, List.set_cons_succ, i64_w, i32_w]
       rfl
      refine done_ (done_of HT_.out (by kernel_rfl)) ?_
      try go_wp2
      go_ret
      exact ⟨by rw [HV.out]; rfl, by repeat (first | (with_reducible first | exact HB.out | apply below_alloc | apply pw_below_drewN | apply below_drew1 | refine below_set ?_ GE103.out | refine below_set ?_ GE111.out) | exact HB.out)⟩
    | true =>
      by_cases p2 : 0 < a0_2
      · have p2b : decide (0 < a0_2) = true := decide_eq_true p2
        clear p2
        by_cases hXt : (a0_1 == 0 && (a0_3 == 0 && bareB a0_4 a0_5 a0_6)) = true
        · have czb : (!(t104 == a0_0) || (!(0 == a0_1) || (!(t106 == a0_2) || (!(t107 == a0_3) || (!(t108.toList == a0_4.toList) || (!(t109.toList == a0_5.toList) || (!(t110 == a0_6)))))))) = false := by rw [ne7 A16.out, hXt]; rfl
          have HV : Aside0 (r = 0) := ⟨by rw [HRV2.out, ok7 HKD.out, hno, p2b, hXt]; rfl⟩
          clear hXt
          go_wp2
          have n0_ := Aside0.mk (blk_drew BK103.out)
          have n1_ := Aside0.mk (blk_drew BK111.out)
          have n2_ := Aside0.mk (below_drew1 HB.out)
          clear BK103
          clear BK111
          clear HB
          have BK103 := n0_
          have BK111 := n1_
          have HB := n2_
          clear n0_ n1_ n2_
          refine start_ (n := 9) (S := fun w' => w'.cell? ⟨gb103, 0, none⟩ = some (.int .i64 a0_0) ∧ w'.cell? ⟨gb103, 1, none⟩ = some (.int .i64 a0_1) ∧ w'.cell? ⟨gb103, 2, none⟩ = some (.int .i64 a0_2) ∧ w'.cell? ⟨gb103, 3, none⟩ = some (.int .i64 a0_3) ∧ w'.cell? ⟨gb103, 4, none⟩ = some (.string a0_4) ∧ w'.cell? ⟨gb103, 5, none⟩ = some (.string a0_5) ∧ w'.cell? ⟨gb103, 6, none⟩ = some (.bool a0_6) ∧ w'.cell? ⟨gb103, 7, none⟩ = some (.slice A0_7 l0_7.length c0_7) ∧ w'.cell? ⟨gb103, 8, none⟩ = some (.slice A0_8 l0_8.length c0_8)) (ds := []) #[false, false, false, false, false, false, false, false, false] (by kernel_rfl) rfl rfl ⟨(blk_cell BK103.out 0).trans rfl, (blk_cell BK103.out 1).trans rfl, (blk_cell BK103.out 2).trans rfl, (blk_cell BK103.out 3).trans rfl, (blk_cell BK103.out 4).trans rfl, (blk_cell BK103.out 5).trans rfl, (blk_cell BK103.out 6).trans rfl, (blk_cell BK103.out 7).trans rfl, (blk_cell BK103.out 8).trans rfl⟩ (fun hHeld => ?_); refine with_tabW record_Check.tab20 record_Check.bits20 (fun HT_ HW_ => ?_)
          generalize w35.drew = w495 at BK103 BK111 HB hHeld ⊢
          refine pure_ (i := 0) (N := some 132) (v := ?_) (a' := ?_) #[true, false, false, false, false, false, false, false, false] rfl rfl (any_of HT_.out (by kernel_rfl)) (fun _ _ _ h => h) (Or.inl ⟨by rfl, ?_⟩) ?_ ?_
          rotate_left
          ·intro w'
           go_simp
           with_reducible rfl
          rotate_left
          ·simp only [Act.put, List.setIfInBounds_toArray, List.set_cons_zero, List.set_cons_succ, i64_w, i32_w]
           rfl
          refine pure_ (i := 1) (N := some 133) (v := ?_) (a' := ?_) #[true, true, false, false, false, false, false, false, false] rfl rfl (any_of HT_.out (by kernel_rfl)) (fun _ _ _ h => h) (Or.inl ⟨by rfl, ?_⟩) ?_ ?_
          rotate_left
          ·intro w'
           go_simp
           with_reducible rfl
          rotate_left
          ·simp only [Act.put, List.setIfInBounds_toArray, List.set_cons_zero, List.set_cons_succ, i64_w, i32_w]
           rfl
          refine pure_ (i := 2) (N := some 134) (v := ?_) (a' := ?_) #[true, true, true, false, false, false, false, false, false] rfl rfl (any_of HT_.out (by kernel_rfl)) (fun _ _ _ h => h) (Or.inl ⟨by rfl, ?_⟩) ?_ ?_
          rotate_left
          ·intro w'
           go_simp
           with_reducible rfl
          rotate_left
          ·simp only [Act.put, List.setIfInBounds_toArray, List.set_cons_zero, List.set_cons_succ, i64_w, i32_w]
           rfl
          refine pure_ (i := 6) (N := some 138) (v := ?_) (a' := ?_) #[true, true, true, false, false, false, true, false, false] rfl rfl (any_of HT_.out (by kernel_rfl)) (fun _ _ _ h => h) (Or.inl ⟨by rfl, ?_⟩) ?_ ?_
          rotate_left
          ·intro w'
           go_simp
           with_reducible rfl
          rotate_left
          ·simp only [Act.put, List.setIfInBounds_toArray, List.set_cons_zero, List.set_cons_succ, i64_w, i32_w]
           rfl
          refine take_ (i := 3) (N := some 135) (v := ?_) (a' := ?_) #[true, true, true, true, false, false, true, false, false] rfl rfl (take_ofW HT_.out HW_.out (by kernel_rfl)) (fun _ _ _ h => h) (Or.inl ⟨by rfl, ?_⟩) hHeld ?_ ?_
          rotate_left
          ·rintro w' ⟨s0, s1, s2, s3, s4, s5, s6, s7, s8⟩
           go_simp
           with_reducible rfl
          rotate_left
          ·simp only [Act.put, List.setIfInBounds_toArray, List.set_cons_zero, List.set_cons_succ, i64_w, i32_w]
           rfl
          refine pure_ (i := 4) (N := some 136) (v := ?_) (a' := ?_) #[true, true, true, true, true, false, true, false, false] rfl rfl (any_of HT_.out (by kernel_rfl)) (fun _ _ _ h => h) (Or.inl ⟨by rfl, ?_⟩) ?_ ?_
          rotate_left
          ·intro w'
           go_simp
           with_reducible rfl
          rotate_left
          ·simp only [Act.put, List.setIfInBounds_toArray, List.set_cons_zero, List.set_cons_succ, i64_w, i32_w]
           rfl
          refine pure_ (i := 5) (N := some 137) (v := ?_) (a' := ?_) #[true, true, true, true, true, true, true, false, false] rfl rfl (any_of HT_.out (by kernel_rfl)) (fun _ _ _ h => h) (Or.inl ⟨by rfl, ?_⟩) ?_ ?_
          rotate_left
          ·intro w'
           go_simp
           with_reducible rfl
          rotate_left
          ·simp only [Act.put, List.setIfInBounds_toArray, List.set_cons_zero, List.set_cons_succ, i64_w, i32_w]
           rfl
          refine one_ (i := 7) (N := none) #[true, true, true, true, true, true, true, true, false] rfl rfl (one_of HT_.out (by kernel_rfl)) (by decide) (fun K hK => ?_)
          have hs496 : w495.cell? ⟨gb111, 1, none⟩ = some (.int .i64 t105) := (blk_cell BK111.out 1).trans rfl
          have hfs496 := blk_frozen BK111.out 1
          have hns496_0 := NB103_111.out
          have hms496_0 := NB111_103.out
          refine skip_ (w1 := ?_) (by rfl) rfl ?_ ?_
          rotate_left
          ·go_simp
           rfl
          refine hK.out _ _ ⟨((cell_far (p := ⟨gb111, _, none⟩) NB103_111.out _).trans (hHeld.1)), ((cell_far (p := ⟨gb111, _, none⟩) NB103_111.out _).trans (hHeld.2.1)), ((cell_far (p := ⟨gb111, _, none⟩) NB103_111.out _).trans (hHeld.2.2.1)), ((cell_far (p := ⟨gb111, _, none⟩) NB103_111.out _).trans (hHeld.2.2.2.1)), ((cell_far (p := ⟨gb111, _, none⟩) NB103_111.out _).trans (hHeld.2.2.2.2.1)), ((cell_far (p := ⟨gb111, _, none⟩) NB103_111.out _).trans (hHeld.2.2.2.2.2.1)), ((cell_far (p := ⟨gb111, _, none⟩) NB103_111.out _).trans (hHeld.2.2.2.2.2.2.1)), ((cell_far (p := ⟨gb111, _, none⟩) NB103_111.out _).trans (hHeld.2.2.2.2.2.2.2.1)), ((cell_far (p := ⟨gb111, _, none⟩) NB103_111.out _).trans (hHeld.2.2.2.2.2.2.2.2))⟩ (fun hHeld => ?_)
          clear hK K
          refine pure_ (i := 8) (N := some 4) (v := ?_) (a' := ?_) #[true, true, true, true, true, true, true, true, true] rfl rfl (any_of HT_.out (by kernel_rfl)) (fun _ _ _ h => h) (Or.inl ⟨by rfl, ?_⟩) ?_ ?_
          rotate_left
          ·intro w'
           go_simp
           with_reducible rfl
          rotate_left
          ·simp only [Act.put, List.setIfInBounds_toArray, List.set_cons_zero, List.set_cons_succ, i64_w, i32_w]
           rfl
          refine done_ (done_of HT_.out (by kernel_rfl)) ?_
          have hcz497_0 : w495.cell? ⟨gb111, 0, none⟩ = some (.int .i64 t104) := (blk_cell BK111.out 0).trans rfl
          have hcz497_1 : w495.cell? ⟨gb111, 1, none⟩ = some (.int .i64 t105) := (blk_cell BK111.out 1).trans rfl
          have hcz497_2 : w495.cell? ⟨gb111, 2, none⟩ = some (.int .i64 t106) := (blk_cell BK111.out 2).trans rfl
          have hcz497_3 : w495.cell? ⟨gb111, 3, none⟩ = some (.int .i64 t107) := (blk_cell BK111.out 3).trans rfl
          have hcz497_4 : w495.cell? ⟨gb111, 4, none⟩ = some (.string t108) := (blk_cell BK111.out 4).trans rfl
          have hcz497_5 : w495.cell? ⟨gb111, 5, none⟩ = some (.string t109) := (blk_cell BK111.out 5).trans rfl
          have hcz497_6 : w495.cell? ⟨gb111, 6, none⟩ = some (.bool t110) := (blk_cell BK111.out 6).trans rfl
          have hfz497_0 := blk_frozen BK111.out 0
          have hfz497_1 := blk_frozen BK111.out 1
          have hfz497_2 := blk_frozen BK111.out 2
          have hfz497_3 := blk_frozen BK111.out 3
          have hfz497_4 := blk_frozen BK111.out 4
          have hfz497_5 := blk_frozen BK111.out 5
          have hfz497_6 := blk_frozen BK111.out 6
          have hcz498_0 : w495.cell? ⟨gb103, 0, none⟩ = some (.int .i64 a0_0) := (blk_cell BK103.out 0).trans rfl
          have hcz498_1 : w495.cell? ⟨gb103, 1, none⟩ = some (.int .i64 a0_1) := (blk_cell BK103.out 1).trans rfl
          have hcz498_2 : w495.cell? ⟨gb103, 2, none⟩ = some (.int .i64 a0_2) := (blk_cell BK103.out 2).trans rfl
          have hcz498_3 : w495.cell? ⟨gb103, 3, none⟩ = some (.int .i64 a0_3) := (blk_cell BK103.out 3).trans rfl
          have hcz498_4 : w495.cell? ⟨gb103, 4, none⟩ = some (.string a0_4) := (blk_cell BK103.out 4).trans rfl
          have hcz498_5 : w495.cell? ⟨gb103, 5, none⟩ = some (.string a0_5) := (blk_cell BK103.out 5).trans rfl
          have hcz498_6 : w495.cell? ⟨gb103, 6, none⟩ = some (.bool a0_6) := (blk_cell BK103.out 6).trans rfl
          have hcz498_7 : w495.cell? ⟨gb103, 7, none⟩ = some (.slice A0_7 l0_7.length c0_7) := (blk_cell BK103.out 7).trans rfl
          have hcz498_8 : w495.cell? ⟨gb103, 8, none⟩ = some (.slice A0_8 l0_8.length c0_8) := (blk_cell BK103.out 8).trans rfl
          have hfz498_0 := blk_frozen BK103.out 0
          have hfz498_1 := blk_frozen BK103.out 1
          have hfz498_2 := blk_frozen BK103.out 2
          have hfz498_3 := blk_frozen BK103.out 3
          have hfz498_4 := blk_frozen BK103.out 4
          have hfz498_5 := blk_frozen BK103.out 5
          have hfz498_6 := blk_frozen BK103.out 6
          have hfz498_7 := blk_frozen BK103.out 7
          have hfz498_8 := blk_frozen BK103.out 8
          try go_wp2
          go_ret
          exact ⟨by rw [HV.out]; rfl, by repeat (first | (with_reducible first | exact HB.out | apply below_alloc | apply pw_below_drewN | apply below_drew1 | refine below_set ?_ GE103.out | refine below_set ?_ GE111.out) | exact HB.out)⟩
        · have hXf : (a0_1 == 0 && (a0_3 == 0 && bareB a0_4 a0_5 a0_6)) = false := by simpa only [Bool.not_eq_true] using hXt
          clear hXt
          have czb : (!(t104 == a0_0) || (!(0 == a0_1) || (!(t106 == a0_2) || (!(t107 == a0_3) || (!(t108.toList == a0_4.toList) || (!(t109.toList == a0_5.toList) || (!(t110 == a0_6)))))))) = true := by rw [ne7 A16.out, hXf]; rfl
          have HV : Aside0 (r = 80) := ⟨by rw [HRV2.out, ok7 HKD.out, hno, p2b, hXf]; rfl⟩
          clear hXf
          go_wp2
          have n0_ := Aside0.mk (blk_drew BK103.out)
          have n1_ := Aside0.mk (blk_drew BK111.out)
          have n2_ := Aside0.mk (below_drew1 HB.out)
          clear BK103
          clear BK111
          clear HB
          have BK103 := n0_
          have BK111 := n1_
          have HB := n2_
          clear n0_ n1_ n2_
          refine start_ (n := 9) (S := fun w' => w'.cell? ⟨gb103, 0, none⟩ = some (.int .i64 a0_0) ∧ w'.cell? ⟨gb103, 1, none⟩ = some (.int .i64 a0_1) ∧ w'.cell? ⟨gb103, 2, none⟩ = some (.int .i64 a0_2) ∧ w'.cell? ⟨gb103, 3, none⟩ = some (.int .i64 a0_3) ∧ w'.cell? ⟨gb103, 4, none⟩ = some (.string a0_4) ∧ w'.cell? ⟨gb103, 5, none⟩ = some (.string a0_5) ∧ w'.cell? ⟨gb103, 6, none⟩ = some (.bool a0_6) ∧ w'.cell? ⟨gb103, 7, none⟩ = some (.slice A0_7 l0_7.length c0_7) ∧ w'.cell? ⟨gb103, 8, none⟩ = some (.slice A0_8 l0_8.length c0_8)) (ds := []) #[false, false, false, false, false, false, false, false, false] (by kernel_rfl) rfl rfl ⟨(blk_cell BK103.out 0).trans rfl, (blk_cell BK103.out 1).trans rfl, (blk_cell BK103.out 2).trans rfl, (blk_cell BK103.out 3).trans rfl, (blk_cell BK103.out 4).trans rfl, (blk_cell BK103.out 5).trans rfl, (blk_cell BK103.out 6).trans rfl, (blk_cell BK103.out 7).trans rfl, (blk_cell BK103.out 8).trans rfl⟩ (fun hHeld => ?_); refine with_tabW record_Check.tab20 record_Check.bits20 (fun HT_ HW_ => ?_)
          generalize w35.drew = w495 at BK103 BK111 HB hHeld ⊢
          refine pure_ (i := 0) (N := some 132) (v := ?_) (a' := ?_) #[true, false, false, false, false, false, false, false, false] rfl rfl (any_of HT_.out (by kernel_rfl)) (fun _ _ _ h => h) (Or.inl ⟨by rfl, ?_⟩) ?_ ?_
          rotate_left
          ·intro w'
           go_simp
           with_reducible rfl
          rotate_left
          ·simp only [Act.put, List.setIfInBounds_toArray, List.set_cons_zero, List.set_cons_succ, i64_w, i32_w]
           rfl
          refine pure_ (i := 1) (N := some 133) (v := ?_) (a' := ?_) #[true, true, false, false, false, false, false, false, false] rfl rfl (any_of HT_.out (by kernel_rfl)) (fun _ _ _ h => h) (Or.inl ⟨by rfl, ?_⟩) ?_ ?_
          rotate_left
          ·intro w'
           go_simp
           with_reducible rfl
          rotate_left
          ·simp only [Act.put, List.setIfInBounds_toArray, List.set_cons_zero, List.set_cons_succ, i64_w, i32_w]
           rfl
          refine pure_ (i := 2) (N := some 134) (v := ?_) (a' := ?_) #[true, true, true, false, false, false, false, false, false] rfl rfl (any_of HT_.out (by kernel_rfl)) (fun _ _ _ h => h) (Or.inl ⟨by rfl, ?_⟩) ?_ ?_
          rotate_left
          ·intro w'
           go_simp
           with_reducible rfl
          rotate_left
          ·simp only [Act.put, List.setIfInBounds_toArray, List.set_cons_zero, List.set_cons_succ, i64_w, i32_w]
           rfl
          refine pure_ (i := 6) (N := some 138) (v := ?_) (a' := ?_) #[true, true, true, false, false, false, true, false, false] rfl rfl (any_of HT_.out (by kernel_rfl)) (fun _ _ _ h => h) (Or.inl ⟨by rfl, ?_⟩) ?_ ?_
          rotate_left
          ·intro w'
           go_simp
           with_reducible rfl
          rotate_left
          ·simp only [Act.put, List.setIfInBounds_toArray, List.set_cons_zero, List.set_cons_succ, i64_w, i32_w]
           rfl
          refine take_ (i := 3) (N := some 135) (v := ?_) (a' := ?_) #[true, true, true, true, false, false, true, false, false] rfl rfl (take_ofW HT_.out HW_.out (by kernel_rfl)) (fun _ _ _ h => h) (Or.inl ⟨by rfl, ?_⟩) hHeld ?_ ?_
          rotate_left
          ·rintro w' ⟨s0, s1, s2, s3, s4, s5, s6, s7, s8⟩
           go_simp
           with_reducible rfl
          rotate_left
          ·simp only [Act.put, List.setIfInBounds_toArray, List.set_cons_zero, List.set_cons_succ, i64_w, i32_w]
           rfl
          refine pure_ (i := 4) (N := some 136) (v := ?_) (a' := ?_) #[true, true, true, true, true, false, true, false, false] rfl rfl (any_of HT_.out (by kernel_rfl)) (fun _ _ _ h => h) (Or.inl ⟨by rfl, ?_⟩) ?_ ?_
          rotate_left
          ·intro w'
           go_simp
           with_reducible rfl
          rotate_left
          ·simp only [Act.put, List.setIfInBounds_toArray, List.set_cons_zero, List.set_cons_succ, i64_w, i32_w]
           rfl
          refine pure_ (i := 5) (N := some 137) (v := ?_) (a' := ?_) #[true, true, true, true, true, true, true, false, false] rfl rfl (any_of HT_.out (by kernel_rfl)) (fun _ _ _ h => h) (Or.inl ⟨by rfl, ?_⟩) ?_ ?_
          rotate_left
          ·intro w'
           go_simp
           with_reducible rfl
          rotate_left
          ·simp only [Act.put, List.setIfInBounds_toArray, List.set_cons_zero, List.set_cons_succ, i64_w, i32_w]
           rfl
          refine one_ (i := 7) (N := none) #[true, true, true, true, true, true, true, true, false] rfl rfl (one_of HT_.out (by kernel_rfl)) (by decide) (fun K hK => ?_)
          have hs496 : w495.cell? ⟨gb111, 1, none⟩ = some (.int .i64 t105) := (blk_cell BK111.out 1).trans rfl
          have hfs496 := blk_frozen BK111.out 1
          have hns496_0 := NB103_111.out
          have hms496_0 := NB111_103.out
          refine skip_ (w1 := ?_) (by rfl) rfl ?_ ?_
          rotate_left
          ·go_simp
           rfl
          refine hK.out _ _ ⟨((cell_far (p := ⟨gb111, _, none⟩) NB103_111.out _).trans (hHeld.1)), ((cell_far (p := ⟨gb111, _, none⟩) NB103_111.out _).trans (hHeld.2.1)), ((cell_far (p := ⟨gb111, _, none⟩) NB103_111.out _).trans (hHeld.2.2.1)), ((cell_far (p := ⟨gb111, _, none⟩) NB103_111.out _).trans (hHeld.2.2.2.1)), ((cell_far (p := ⟨gb111, _, none⟩) NB103_111.out _).trans (hHeld.2.2.2.2.1)), ((cell_far (p := ⟨gb111, _, none⟩) NB103_111.out _).trans (hHeld.2.2.2.2.2.1)), ((cell_far (p := ⟨gb111, _, none⟩) NB103_111.out _).trans (hHeld.2.2.2.2.2.2.1)), ((cell_far (p := ⟨gb111, _, none⟩) NB103_111.out _).trans (hHeld.2.2.2.2.2.2.2.1)), ((cell_far (p := ⟨gb111, _, none⟩) NB103_111.out _).trans (hHeld.2.2.2.2.2.2.2.2))⟩ (fun hHeld => ?_)
          clear hK K
          refine pure_ (i := 8) (N := some 4) (v := ?_) (a' := ?_) #[true, true, true, true, true, true, true, true, true] rfl rfl (any_of HT_.out (by kernel_rfl)) (fun _ _ _ h => h) (Or.inl ⟨by rfl, ?_⟩) ?_ ?_
          rotate_left
          ·intro w'
           go_simp
           with_reducible rfl
          rotate_left
          ·simp only [Act.put, List.setIfInBounds_toArray, List.set_cons_zero, List.set_cons_succ, i64_w, i32_w]
           rfl
          refine done_ (done_of HT_.out (by kernel_rfl)) ?_
          have hcz497_0 : w495.cell? ⟨gb111, 0, none⟩ = some (.int .i64 t104) := (blk_cell BK111.out 0).trans rfl
          have hcz497_1 : w495.cell? ⟨gb111, 1, none⟩ = some (.int .i64 t105) := (blk_cell BK111.out 1).trans rfl
          have hcz497_2 : w495.cell? ⟨gb111, 2, none⟩ = some (.int .i64 t106) := (blk_cell BK111.out 2).trans rfl
          have hcz497_3 : w495.cell? ⟨gb111, 3, none⟩ = some (.int .i64 t107) := (blk_cell BK111.out 3).trans rfl
          have hcz497_4 : w495.cell? ⟨gb111, 4, none⟩ = some (.string t108) := (blk_cell BK111.out 4).trans rfl
          have hcz497_5 : w495.cell? ⟨gb111, 5, none⟩ = some (.string t109) := (blk_cell BK111.out 5).trans rfl
          have hcz497_6 : w495.cell? ⟨gb111, 6, none⟩ = some (.bool t110) := (blk_cell BK111.out 6).trans rfl
          have hfz497_0 := blk_frozen BK111.out 0
          have hfz497_1 := blk_frozen BK111.out 1
          have hfz497_2 := blk_frozen BK111.out 2
          have hfz497_3 := blk_frozen BK111.out 3
          have hfz497_4 := blk_frozen BK111.out 4
          have hfz497_5 := blk_frozen BK111.out 5
          have hfz497_6 := blk_frozen BK111.out 6
          have hcz498_0 : w495.cell? ⟨gb103, 0, none⟩ = some (.int .i64 a0_0) := (blk_cell BK103.out 0).trans rfl
          have hcz498_1 : w495.cell? ⟨gb103, 1, none⟩ = some (.int .i64 a0_1) := (blk_cell BK103.out 1).trans rfl
          have hcz498_2 : w495.cell? ⟨gb103, 2, none⟩ = some (.int .i64 a0_2) := (blk_cell BK103.out 2).trans rfl
          have hcz498_3 : w495.cell? ⟨gb103, 3, none⟩ = some (.int .i64 a0_3) := (blk_cell BK103.out 3).trans rfl
          have hcz498_4 : w495.cell? ⟨gb103, 4, none⟩ = some (.string a0_4) := (blk_cell BK103.out 4).trans rfl
          have hcz498_5 : w495.cell? ⟨gb103, 5, none⟩ = some (.string a0_5) := (blk_cell BK103.out 5).trans rfl
          have hcz498_6 : w495.cell? ⟨gb103, 6, none⟩ = some (.bool a0_6) := (blk_cell BK103.out 6).trans rfl
          have hcz498_7 : w495.cell? ⟨gb103, 7, none⟩ = some (.slice A0_7 l0_7.length c0_7) := (blk_cell BK103.out 7).trans rfl
          have hcz498_8 : w495.cell? ⟨gb103, 8, none⟩ = some (.slice A0_8 l0_8.length c0_8) := (blk_cell BK103.out 8).trans rfl
          have hfz498_0 := blk_frozen BK103.out 0
          have hfz498_1 := blk_frozen BK103.out 1
          have hfz498_2 := blk_frozen BK103.out 2
          have hfz498_3 := blk_frozen BK103.out 3
          have hfz498_4 := blk_frozen BK103.out 4
          have hfz498_5 := blk_frozen BK103.out 5
          have hfz498_6 := blk_frozen BK103.out 6
          have hfz498_7 := blk_frozen BK103.out 7
          have hfz498_8 := blk_frozen BK103.out 8
          try go_wp2
          go_ret
          exact ⟨by rw [HV.out]; rfl, by repeat (first | (with_reducible first | exact HB.out | apply below_alloc | apply pw_below_drewN | apply below_drew1 | refine below_set ?_ GE103.out | refine below_set ?_ GE111.out) | exact HB.out)⟩
      · have p2b : decide (0 < a0_2) = false := decide_eq_false p2
        clear p2
        have HV : Aside0 (r = 80) := ⟨by rw [HRV2.out, ok7 HKD.out, hno, p2b]; rfl⟩
        go_wp2
        have n0_ := Aside0.mk (blk_drew BK103.out)
        have n1_ := Aside0.mk (blk_drew BK111.out)
        have n2_ := Aside0.mk (below_drew1 HB.out)
        clear BK103
        clear BK111
        clear HB
        have BK103 := n0_
        have BK111 := n1_
        have HB := n2_
        clear n0_ n1_ n2_
        refine start_ (n := 9) (S := fun w' => w'.cell? ⟨gb103, 0, none⟩ = some (.int .i64 a0_0) ∧ w'.cell? ⟨gb103, 1, none⟩ = some (.int .i64 a0_1) ∧ w'.cell? ⟨gb103, 2, none⟩ = some (.int .i64 a0_2) ∧ w'.cell? ⟨gb103, 3, none⟩ = some (.int .i64 a0_3) ∧ w'.cell? ⟨gb103, 4, none⟩ = some (.string a0_4) ∧ w'.cell? ⟨gb103, 5, none⟩ = some (.string a0_5) ∧ w'.cell? ⟨gb103, 6, none⟩ = some (.bool a0_6) ∧ w'.cell? ⟨gb103, 7, none⟩ = some (.slice A0_7 l0_7.length c0_7) ∧ w'.cell? ⟨gb103, 8, none⟩ = some (.slice A0_8 l0_8.length c0_8)) (ds := []) #[false, false, false, false, false, false, false, false, false] (by kernel_rfl) rfl rfl ⟨(blk_cell BK103.out 0).trans rfl, (blk_cell BK103.out 1).trans rfl, (blk_cell BK103.out 2).trans rfl, (blk_cell BK103.out 3).trans rfl, (blk_cell BK103.out 4).trans rfl, (blk_cell BK103.out 5).trans rfl, (blk_cell BK103.out 6).trans rfl, (blk_cell BK103.out 7).trans rfl, (blk_cell BK103.out 8).trans rfl⟩ (fun hHeld => ?_); refine with_tabW record_Check.tab20 record_Check.bits20 (fun HT_ HW_ => ?_)
        generalize w35.drew = w495 at BK103 BK111 HB hHeld ⊢
        refine pure_ (i := 0) (N := some 132) (v := ?_) (a' := ?_) #[true, false, false, false, false, false, false, false, false] rfl rfl (any_of HT_.out (by kernel_rfl)) (fun _ _ _ h => h) (Or.inl ⟨by rfl, ?_⟩) ?_ ?_
        rotate_left
        ·intro w'
         go_simp
         with_reducible rfl
        rotate_left
        ·simp only [Act.put, List.setIfInBounds_toArray, List.set_cons_zero, List.set_cons_succ, i64_w, i32_w]
         rfl
        refine pure_ (i := 1) (N := some 133) (v := ?_) (a' := ?_) #[true, true, false, false, false, false, false, false, false] rfl rfl (any_of HT_.out (by kernel_rfl)) (fun _ _ _ h => h) (Or.inl ⟨by rfl, ?_⟩) ?_ ?_
        rotate_left
        ·intro w'
         go_simp
         with_reducible rfl
        rotate_left
        ·simp only [Act.put, List.setIfInBounds_toArray, List.set_cons_zero, List.set_cons_succ, i64_w, i32_w]
         rfl
        refine pure_ (i := 2) (N := some 134) (v := ?_) (a' := ?_) #[true, true, true, false, false, false, false, false, false] rfl rfl (any_of HT_.out (by kernel_rfl)) (fun _ _ _ h => h) (Or.inl ⟨by rfl, ?_⟩) ?_ ?_
        rotate_left
        ·intro w'
         go_simp
         with_reducible rfl
        rotate_left
        ·simp only [Act.put, List.setIfInBounds_toArray, List.set_cons_zero, List.set_cons_succ, i64_w, i32_w]
         rfl
        refine pure_ (i := 6) (N := some 138) (v := ?_) (a' := ?_) #[true, true, true, false, false, false, true, false, false] rfl rfl (any_of HT_.out (by kernel_rfl)) (fun _ _ _ h => h) (Or.inl ⟨by rfl, ?_⟩) ?_ ?_
        rotate_left
        ·intro w'
         go_simp
         with_reducible rfl
        rotate_left
        ·simp only [Act.put, List.setIfInBounds_toArray, List.set_cons_zero, List.set_cons_succ, i64_w, i32_w]
         rfl
        refine take_ (i := 3) (N := some 135) (v := ?_) (a' := ?_) #[true, true, true, true, false, false, true, false, false] rfl rfl (take_ofW HT_.out HW_.out (by kernel_rfl)) (fun _ _ _ h => h) (Or.inl ⟨by rfl, ?_⟩) hHeld ?_ ?_
        rotate_left
        ·rintro w' ⟨s0, s1, s2, s3, s4, s5, s6, s7, s8⟩
         go_simp
         with_reducible rfl
        rotate_left
        ·simp only [Act.put, List.setIfInBounds_toArray, List.set_cons_zero, List.set_cons_succ, i64_w, i32_w]
         rfl
        refine pure_ (i := 4) (N := some 136) (v := ?_) (a' := ?_) #[true, true, true, true, true, false, true, false, false] rfl rfl (any_of HT_.out (by kernel_rfl)) (fun _ _ _ h => h) (Or.inl ⟨by rfl, ?_⟩) ?_ ?_
        rotate_left
        ·intro w'
         go_simp
         with_reducible rfl
        rotate_left
        ·simp only [Act.put, List.setIfInBounds_toArray, List.set_cons_zero, List.set_cons_succ, i64_w, i32_w]
         rfl
        refine pure_ (i := 5) (N := some 137) (v := ?_) (a' := ?_) #[true, true, true, true, true, true, true, false, false] rfl rfl (any_of HT_.out (by kernel_rfl)) (fun _ _ _ h => h) (Or.inl ⟨by rfl, ?_⟩) ?_ ?_
        rotate_left
        ·intro w'
         go_simp
         with_reducible rfl
        rotate_left
        ·simp only [Act.put, List.setIfInBounds_toArray, List.set_cons_zero, List.set_cons_succ, i64_w, i32_w]
         rfl
        refine one_ (i := 7) (N := none) #[true, true, true, true, true, true, true, true, false] rfl rfl (one_of HT_.out (by kernel_rfl)) (by decide) (fun K hK => ?_)
        have hs496 : w495.cell? ⟨gb111, 1, none⟩ = some (.int .i64 t105) := (blk_cell BK111.out 1).trans rfl
        have hfs496 := blk_frozen BK111.out 1
        have hns496_0 := NB103_111.out
        have hms496_0 := NB111_103.out
        refine skip_ (w1 := ?_) (by rfl) rfl ?_ ?_
        rotate_left
        ·go_simp
         rfl
        refine hK.out _ _ ⟨((cell_far (p := ⟨gb111, _, none⟩) NB103_111.out _).trans (hHeld.1)), ((cell_far (p := ⟨gb111, _, none⟩) NB103_111.out _).trans (hHeld.2.1)), ((cell_far (p := ⟨gb111, _, none⟩) NB103_111.out _).trans (hHeld.2.2.1)), ((cell_far (p := ⟨gb111, _, none⟩) NB103_111.out _).trans (hHeld.2.2.2.1)), ((cell_far (p := ⟨gb111, _, none⟩) NB103_111.out _).trans (hHeld.2.2.2.2.1)), ((cell_far (p := ⟨gb111, _, none⟩) NB103_111.out _).trans (hHeld.2.2.2.2.2.1)), ((cell_far (p := ⟨gb111, _, none⟩) NB103_111.out _).trans (hHeld.2.2.2.2.2.2.1)), ((cell_far (p := ⟨gb111, _, none⟩) NB103_111.out _).trans (hHeld.2.2.2.2.2.2.2.1)), ((cell_far (p := ⟨gb111, _, none⟩) NB103_111.out _).trans (hHeld.2.2.2.2.2.2.2.2))⟩ (fun hHeld => ?_)
        clear hK K
        refine pure_ (i := 8) (N := some 4) (v := ?_) (a' := ?_) #[true, true, true, true, true, true, true, true, true] rfl rfl (any_of HT_.out (by kernel_rfl)) (fun _ _ _ h => h) (Or.inl ⟨by rfl, ?_⟩) ?_ ?_
        rotate_left
        ·intro w'
         go_simp
         with_reducible rfl
        rotate_left
        ·simp only [Act.put, List.setIfInBounds_toArray, List.set_cons_zero, List.set_cons_succ, i64_w, i32_w]
         rfl
        refine done_ (done_of HT_.out (by kernel_rfl)) ?_
        have hcz497_0 : w495.cell? ⟨gb111, 0, none⟩ = some (.int .i64 t104) := (blk_cell BK111.out 0).trans rfl
        have hcz497_1 : w495.cell? ⟨gb111, 1, none⟩ = some (.int .i64 t105) := (blk_cell BK111.out 1).trans rfl
        have hcz497_2 : w495.cell? ⟨gb111, 2, none⟩ = some (.int .i64 t106) := (blk_cell BK111.out 2).trans rfl
        have hcz497_3 : w495.cell? ⟨gb111, 3, none⟩ = some (.int .i64 t107) := (blk_cell BK111.out 3).trans rfl
        have hcz497_4 : w495.cell? ⟨gb111, 4, none⟩ = some (.string t108) := (blk_cell BK111.out 4).trans rfl
        have hcz497_5 : w495.cell? ⟨gb111, 5, none⟩ = some (.string t109) := (blk_cell BK111.out 5).trans rfl
        have hcz497_6 : w495.cell? ⟨gb111, 6, none⟩ = some (.bool t110) := (blk_cell BK111.out 6).trans rfl
        have hfz497_0 := blk_frozen BK111.out 0
        have hfz497_1 := blk_frozen BK111.out 1
        have hfz497_2 := blk_frozen BK111.out 2
        have hfz497_3 := blk_frozen BK111.out 3
        have hfz497_4 := blk_frozen BK111.out 4
        have hfz497_5 := blk_frozen BK111.out 5
        have hfz497_6 := blk_frozen BK111.out 6
        have hcz498_0 : w495.cell? ⟨gb103, 0, none⟩ = some (.int .i64 a0_0) := (blk_cell BK103.out 0).trans rfl
        have hcz498_1 : w495.cell? ⟨gb103, 1, none⟩ = some (.int .i64 a0_1) := (blk_cell BK103.out 1).trans rfl
        have hcz498_2 : w495.cell? ⟨gb103, 2, none⟩ = some (.int .i64 a0_2) := (blk_cell BK103.out 2).trans rfl
        have hcz498_3 : w495.cell? ⟨gb103, 3, none⟩ = some (.int .i64 a0_3) := (blk_cell BK103.out 3).trans rfl
        have hcz498_4 : w495.cell? ⟨gb103, 4, none⟩ = some (.string a0_4) := (blk_cell BK103.out 4).trans rfl
        have hcz498_5 : w495.cell? ⟨gb103, 5, none⟩ = some (.string a0_5) := (blk_cell BK103.out 5).trans rfl
        have hcz498_6 : w495.cell? ⟨gb103, 6, none⟩ = some (.bool a0_6) := (blk_cell BK103.out 6).trans rfl
        have hcz498_7 : w495.cell? ⟨gb103, 7, none⟩ = some (.slice A0_7 l0_7.length c0_7) := (blk_cell BK103.out 7).trans rfl
        have hcz498_8 : w495.cell? ⟨gb103, 8, none⟩ = some (.slice A0_8 l0_8.length c0_8) := (blk_cell BK103.out 8).trans rfl
        have hfz498_0 := blk_frozen BK103.out 0
        have hfz498_1 := blk_frozen BK103.out 1
        have hfz498_2 := blk_frozen BK103.out 2
        have hfz498_3 := blk_frozen BK103.out 3
        have hfz498_4 := blk_frozen BK103.out 4
        have hfz498_5 := blk_frozen BK103.out 5
        have hfz498_6 := blk_frozen BK103.out 6
        have hfz498_7 := blk_frozen BK103.out 7
        have hfz498_8 := blk_frozen BK103.out 8
        try go_wp2
        go_ret
        exact ⟨by rw [HV.out]; rfl, by repeat (first | (with_reducible first | exact HB.out | apply below_alloc | apply pw_below_drewN | apply below_drew1 | refine below_set ?_ GE103.out | refine below_set ?_ GE111.out) | exact HB.out)⟩
  have k7b : (a0_0 == 7) = false := beq_eq_false_iff_ne.mpr k7
  have k7c : (a0_0 != 7) = true := bne_iff_ne.mpr k7
  have HV : Aside0 (r = 80) := ⟨by rw [HRV2.out, ok0 k1 k2 k5 k6 k3 k4 k7]; rfl⟩
  clear k1
  clear k2
  clear k5
  clear k6
  clear k3
  clear k4
  clear k7
  go_wp2
  try go_wp2
  go_ret
  exact ⟨by rw [HV.out]; rfl, by repeat (first | (with_reducible first | exact HB.out | apply below_alloc | apply pw_below_drewN | apply below_drew1 | refine below_set ?_ GE103.out | refine below_set ?_ GE111.out) | exact HB.out)⟩
end Go.Proofs.Ytaldfbmjmpkmmaa.PL
namespace Go.Proofs.Ytaldfbmjmpkmmaa.Mk
open Go.RowKit Go.Maps Go.WideMaps
/-- An element told as the very value. -/
def Rv (v : Value) : Option (DataW Value × List MemPlace) := some (.held v, [])
theorem Rv_mk (v : Value) : Rv v = some (.held v, []) := rfl
/-- A map's block is no row. -/
theorem owns_ne {P : Program} {k : TypeId} {R : Value → Option (DataW Value × List MemPlace)} {w : World} {b n : Nat} {D : DataW Value} (h : w.ownsMap P k R b n D) {a : Addr} {v : Value} (hc : w.cell? a = some v) : a.block ≠ b := by
  obtain ⟨es, clock, hb, _⟩ := h
  intro e
  subst e
  simp [World.cell?, hb] at hc
theorem cell_but {w w' : World} {b : Nat} (h : w.grownBy w' (some b)) {a : Addr} {v : Value} (hne : a.block ≠ b) (hc : w.cell? a = some v) : w'.cell? a = some v := by
  have := h.block a.block (World.block_lt_of_cell? w a hc) (fun e => hne (by injection e))
  exact (World.cell?_of_block this).trans hc
/-- A set of strings: what was put into it. -/
def SetIs (P : Program) (k : TypeId) (w : World) (b : Nat) (ks : List (List UInt8)) : Prop :=
  ∃ n, ∃ D : DataW Value, w.ownsMap P k unitElem b n D ∧ n ≤ ks.length ∧ ∀ s, Maps.has D (.string s) = ks.contains s
theorem SetIs.made (P : Program) (k : TypeId) (w : World) : SetIs P k (w.alloc (.map #[] 0)) w.heap.size [] :=
  ⟨0, .map [], World.ownsMap_made _ _ _ _, Nat.le_refl _, fun _ => rfl⟩
theorem SetIs.kept {P : Program} {k : TypeId} {w w' : World} {b : Nat} {ks : List (List UInt8)} (h : SetIs P k w b ks) {row : Option Nat} (hg : w.grownBy w' row) (hne : some b ≠ row) : SetIs P k w' b ks := by
  obtain ⟨n, D, ho, hn, hs⟩ := h
  exact ⟨n, D, ho.kept hg hne, hn, hs⟩
theorem SetIs.lt {P : Program} {k : TypeId} {w : World} {b : Nat} {ks : List (List UInt8)} (h : SetIs P k w b ks) : b < w.heap.size := by
  obtain ⟨n, D, ho, hn, hs⟩ := h
  exact ho.lt
theorem SetIs.ne {P : Program} {k : TypeId} {w : World} {b : Nat} {ks : List (List UInt8)} (h : SetIs P k w b ks) {a : Addr} {v : Value} (hc : w.cell? a = some v) : a.block ≠ b := by
  obtain ⟨n, D, ho, hn, hs⟩ := h
  exact owns_ne ho hc
theorem grownBy_of_below {w w1 : World} (h : Below w.heap.size w w1) (row : Option Nat) : w.grownBy w1 row := ⟨h.os, h.tape, h.output, h.size, fun i hi _ => h.block i hi⟩
theorem SetIs.below {P : Program} {k : TypeId} {w w' : World} {b : Nat} {ks : List (List UInt8)} (h : SetIs P k w b ks) (hb : Below w.heap.size w w') : SetIs P k w' b ks := h.kept (grownBy_of_below hb none) (by simp)
theorem has_step {D : DataW Value} (hm : IsMap D) {ks : List (List UInt8)} (h : ∀ s, Maps.has D (.string s) = ks.contains s) (x : List UInt8) (d : DataW Value) : ∀ s, Maps.has (D.put (.string x) d) (.string s) = (ks ++ [x]).contains s := by
  intro s
  by_cases e : s = x
  · rw [e, has_put_same hm (show WideAt.IsKeyLit (Lit.string x) from trivial)]
    simp
  · have hne : (Lit.string s) ≠ Lit.string x := fun h => e (by injection h)
    rw [has_put_other hne, h]
    simp [e]
theorem key_str {P : Program} {k : TypeId} (hk : P.underlying k = some .string) {s : ByteArray} (hs : s.size ≤ maxLen) : keyOf P k (.string s) = some (.string s.data.toList) := keyOf_string_mk hk hs
/-- Every key of a map keyed by strings is a string. -/
theorem key_str_inv {P : Program} {k : TypeId} (hk : P.underlying k = some .string) {key : Value} {kl : Lit} (h : keyOf P k key = some kl) : ∃ s : ByteArray, key = .string s ∧ kl = .string s.data.toList := by
  obtain ⟨s, h1, h2, _⟩ := string_of_keyOf hk h
  exact ⟨s, h1, h2⟩
/-- The step of a range over a set of strings. -/
theorem next_set {P : Program} (w : World) {ops : Array Oper} {rest : List Oper} {o : Oper} {a : Act} {Q : Exit → Act → World → Prop} (hg : o.guard = none) (it : Operand) (hop : o.op = Op.next it false) (k : TypeId) (hk : P.underlying k = some .string)
    (b r n : Nat) (D : DataW Value) (left : Lit → Bool) (cnt : Nat) (hit : a.eval it = .pointer (some ⟨r, 0, none⟩)) (h : w.ranges P k unitElem b r n D left cnt)
    (hDone : cnt = 0 → (∀ kl, left kl = false) → wpList P ops Q rest (a.put o.dst (.tuple #[.bool false])) w)
    (hMore : ∀ (x : ByteArray) (w' : World) (cnt' : Nat), x.size ≤ maxLen → left (.string x.data.toList) = true → Maps.has D (.string x.data.toList) = true → w'.ranges P k unitElem b r n D (fun z => left z && !z.sameKey (.string x.data.toList)) cnt' → cnt' < cnt →
      w.grownBy w' (some r) → w'.heap.size = w.heap.size → (Instr.entry (.pointer (some ⟨r, 0, none⟩))).run P w' = .ok (.tuple #[.string x, .agg #[]]) w' → wpList P ops Q rest (a.put o.dst (.tuple #[.bool true, .string x, .agg #[]])) w') :
    wpList P ops Q (o :: rest) a w :=
  wpList_next_ranges w hg it hop k (string_keyed hk) unitElem Value.string (fun _ : Unit => Value.agg #[]) (fun _ _ hkey => by obtain ⟨x, rfl, _⟩ := string_of_keyOf hk hkey; exact ⟨x, rfl⟩) (fun _ _ hv => by obtain ⟨rfl, _⟩ := unitElem_inv hv; exact ⟨(), rfl⟩)
    b r n D left cnt hit h hDone (fun x _ kl y w' cnt' hkey hlk _ hat hrg hlt hgr hsz hen => by
      obtain ⟨x', ex, rfl, hwx⟩ := string_of_keyOf hk hkey
      cases ex
      exact hMore x w' cnt' hwx hlk (has_true_of_atKey hat) hrg hlt hgr hsz hen)
theorem sameKey_str (s x : List UInt8) : (Lit.string s).sameKey (.string x) = decide (s = x) := by
  by_cases e : s = x
  · subst e
    simp [Lit.sameKey]
  · rw [sameKey_ne (fun h => e (by injection h))]
    simp [e]
end Go.Proofs.Ytaldfbmjmpkmmaa.Mk
namespace Go.Proofs.Ytaldfbmjmpkmmaa.PL
set_option linter.unusedVariables false
open Go.RowKit Go.Proofs.YtaldfbmjmpkmmaaW.PrintWords Go.Proofs.YtaldfbmjmpkmmaaW.PrintLast Go.Proofs.YtaldfbmjmpkmmaaW.PrintMore Go.Maps Mk

theorem keyed9 : Keyed Try.prog 9 := string_keyed Try.underlying9
theorem zero124 (w : World) : (zeroValue 153).run Try.prog w = .ok (.agg #[]) w := by kernel_rfl

def strs (l : List ByteArray) : List (List UInt8) := l.map (·.data.toList)
theorem strs_take (l : List ByteArray) (k : Nat) (h : k < l.length) : strs (l.take (k + 1)) = strs (l.take k) ++ [(rdOf ByteArray.empty l (k : Int)).data.toList] := by
  unfold strs rdOf
  rw [List.take_succ_eq_append_getElem h, List.map_append]
  simp [List.getElem?_eq_getElem h]

set_option maxRecDepth 100000 in
set_option maxHeartbeats 1000000 in
theorem set_add (w : World) (b : Nat) (ks : List (List UInt8)) (hset : SetIs Try.prog 9 w b ks) (A : Option Addr) (l : List ByteArray) (c : Nat) (hr : Kd.C Kd.string w A l.length l)
    (hsz : ∀ s, s ∈ l → s.size ≤ maxLen) (hn : ks.length + l.length < 9223372036854775807) :
    Calls Try.prog 63 #[.map (some b), .slice A l.length c] w fun e w' => e = .returned (.tuple #[]) ∧ SetIs Try.prog 9 w' b (ks ++ strs l) ∧ w.grownBy w' (some b) := by
  have HR := Aside0.mk hr
  clear hr
  have HSET := Aside0.mk hset
  clear hset
  go_enter Try.func63, Try.ntmps63
  go_wp2
  go_loopw [8] (fun i wr => ∃ k : Nat, k ≤ l.length ∧ i = .int .i64 k ∧ Aside0 (SetIs Try.prog 9 wr b (ks ++ strs (l.take k))) ∧ Aside0 (w.grownBy wr (some b)))
    (fun i _ => l.length - (intOf i).toNat)
  case atStart => exact ⟨0, Nat.zero_le _, rfl, ⟨by simpa [strs] using HSET.out⟩, ⟨World.grownBy.refl _ _⟩⟩
  case round =>
    obtain ⟨k, hk, rfl, HS, HG⟩ := hrel
    by_cases hlt : k < l.length
    · obtain ⟨ad, rfl, hcell0⟩ := Kd.at_string HR.out (k : Int) (by omega) (by omega)
      have hne := HSET.out.ne hcell0
      have hcell := cell_but HG.out hne hcell0
      clear hcell0
      rw [Int.toNat_natCast] at hcell
      obtain ⟨n, D, hown, hnn, hhas⟩ := HS.out
      have hmem : rdOf ByteArray.empty l (k : Int) ∈ l := by
        unfold rdOf
        simp [List.getElem?_eq_getElem hlt]
      have hkey := key_str Try.underlying9 (hsz _ hmem)
      have HO := Aside0.mk hown
      have HH := Aside0.mk hhas
      have hlen : (strs (l.take k)).length = k := by simp [strs]; omega
      have hnn2 : n ≤ ks.length + k := by rw [List.length_append, hlen] at hnn; exact hnn
      have HN : Aside0 (n < maxLen) := ⟨by unfold maxLen; omega⟩
      have HK := Aside0.mk hkey
      clear hown hhas hnn hkey hmem hne hlen
      generalize hx : rdOf ByteArray.empty l (k : Int) = x at *
      have HX := Aside0.mk hx
      clear hx
      go_wp2_with (first
        | (at_mapUpdate; refine wpList_mapUpdate_own _ rfl _ _ _ 112 rfl 9 153 keyed9 Try.underlying112 (unitElem (H := Value)) b n _ rfl HO.out HN.out _ _ _ rfl rfl HK.out _ [] unitElem_mk ?_; intro w1 hown1 hgrow1))
      have hs1 : SetIs Try.prog 9 w1 b (ks ++ strs (l.take (k + 1))) := by
        refine ⟨n + 1, _, hown1, ?_, ?_⟩
        · have hlen : (strs (l.take (k + 1))).length = k + 1 := by simp [strs]; omega
          rw [List.length_append, hlen]; omega
        · rw [strs_take l k hlt, ← List.append_assoc, HX.out]
          exact has_step HO.out.isMap HH.out _ _
      have hg1 := HG.out.trans hgrow1
      have HS1 := Aside0.mk hs1
      have HG1 := Aside0.mk hg1
      clear hs1 hg1 hown1 hgrow1
      go_roundw
      case rel => exact ⟨k + 1, by omega, by go_num, HS1, HG1⟩
      case measure => simp [intOf]; omega
    · obtain rfl : k = l.length := by omega
      go_wp2
      go_end0
      exact ⟨rfl, by simpa using HS.out, HG.out⟩

set_option maxRecDepth 100000 in
/-- set.has. -/
theorem set_has (w : World) (b : Nat) (ks : List (List UInt8)) (hset : SetIs Try.prog 9 w b ks) (s : ByteArray) (hs : s.size ≤ maxLen) :
    Calls Try.prog 102 #[.map (some b), .string s] w fun e w' => e = .returned (.bool (ks.contains s.data.toList)) ∧ Below w.heap.size w w' := by
  obtain ⟨n, D, hown, hnn, hhas⟩ := hset
  have hkey := key_str Try.underlying9 hs
  have HO := Aside0.mk hown
  have HK := Aside0.mk hkey
  have HH := Aside0.mk hhas
  clear hown hkey hhas hnn hs
  go_enter Try.func102, Try.ntmps102
  go_wp2_with (first
    | (at_lookup; refine wpList_lookup_own_unit _ rfl _ _ 112 rfl 9 153 keyed9 Try.underlying112 (zero124 _) b n D rfl HO.out _ _ rfl HK.out ?_))
  go_ret
  exact ⟨by rw [HH.out]; rfl, (Below.refl _ _).alloc (Nat.le_refl _) _⟩

def wkeys (l : List S56) : List ByteArray := l.map (·.f0)
theorem strs_one (s : ByteArray) : strs [s] = [s.data.toList] := rfl
theorem wkeys_take (l : List S56) (k : Nat) (h : k < l.length) : strs (wkeys (l.take (k + 1))) = strs (wkeys (l.take k)) ++ [(rd_T56 l (k : Int)).f0.data.toList] := by
  unfold strs wkeys rd_T56
  rw [List.take_succ_eq_append_getElem h, List.map_append, List.map_append]
  simp [List.getElem?_eq_getElem h]
theorem C_oneL (w : World) (g : Nat) (s : ByteArray) (h : w.heap[g]? = some (.cells #[.string s] 9 (0, 0))) : Kd.C Kd.string w (some ⟨g, 0, none⟩) [s].length [s] := by
  refine Kd.C_of_reads (d := ByteArray.empty) (h1 := fun _ => rfl) ⟨rfl, by simp, fun _ => ⟨_, rfl, fun j hj => ?_⟩⟩
  obtain rfl : j = 0 := by simpa using hj
  have hc := (blk_cell h 0).trans rfl
  simpa [Addr.add] using hc
def small (l : List ByteArray) : Prop := l.length ≤ 1000000000 ∧ ∀ s, s ∈ l → s.size ≤ 1000000000

set_option maxRecDepth 100000 in
set_option maxHeartbeats 1000000 in
/-- locks.touched: the set of the keys that are read, and of those that are written. -/
theorem touched (w : World) (a0 a1 a2 a3 : Int) (a4 a5 : ByteArray) (a6 : Bool) (A7 : Option Addr) (c7 : Nat) (l7 : List ByteArray) (A8 : Option Addr) (c8 : Nat) (l8 : List S56)
    (hr7 : Kd.C Kd.string w A7 l7.length l7) (hr8 : Kd.C k56 w A8 l8.length l8) (h7 : small l7) (h8 : small (wkeys l8)) :
    Calls Try.prog 62 #[.agg #[.int .i64 a0, .int .i64 a1, .int .i64 a2, .int .i64 a3, .string a4, .string a5, .bool a6, .slice A7 l7.length c7, .slice A8 l8.length c8]] w fun e w' =>
      ∃ b1 b2 : Nat, e = .returned (.tuple #[.map (some b1), .map (some b2)]) ∧ SetIs Try.prog 9 w' b1 (strs l7) ∧ SetIs Try.prog 9 w' b2 (strs (wkeys l8)) ∧ b1 ≠ b2 ∧ w.heap.size ≤ b1 ∧ w.heap.size ≤ b2 ∧ Below w.heap.size w w' := by
  have HR7 := Aside0.mk hr7
  have HR8 := Aside0.mk hr8
  have H7 := Aside0.mk h7
  have H8 := Aside0.mk h8
  clear hr7 hr8 h7 h8
  have hmm := @run_makeMap Try.prog
  have hu35 := Try.underlying35
  have hu56 := Try.underlying56
  go_enter Try.func62, Try.ntmps62
  go_wp2_with fail
  refine (set_add _ (w.heap.size + 1) [] ?hs A7 l7 c7 ?hr ?hz ?hn).mono ?_
  case hs =>
    have h := ((SetIs.made Try.prog 9 (w.alloc (.cells #[.int .i64 a0, .int .i64 a1, .int .i64 a2, .int .i64 a3, .string a4, .string a5, .bool a6, .slice A7 l7.length c7, .slice A8 l8.length c8] 35))).below (below_alloc (Below.refl _ _) (.map #[] 0)))
    simpa using h
  case hr => exact Kd.C_below HR7.out (below_alloc (below_alloc (below_alloc (Below.refl _ _) _) _) _)
  case hz => intro s hs; have := H7.out.2 s hs; unfold maxLen; omega
  case hn => have := H7.out.1; simp; omega
  rintro e w1 ⟨rfl, hs1, hg1⟩
  rw [List.nil_append] at hs1
  have hs2 : SetIs Try.prog 9 w1 (w.heap.size + 1 + 1) (strs (wkeys (l8.take 0))) := by
    have h := (SetIs.made Try.prog 9 ((w.alloc (.cells #[.int .i64 a0, .int .i64 a1, .int .i64 a2, .int .i64 a3, .string a4, .string a5, .bool a6, .slice A7 l7.length c7, .slice A8 l8.length c8] 35)).alloc (.map #[] 0)))
    have h2 := h.kept hg1 (by simp)
    simpa [strs, wkeys] using h2
  have hb1 : Below w.heap.size w w1 := (below_alloc (below_alloc (below_alloc (Below.refl _ _) _) _) _).grown hg1 (by simp; omega) (fun j hj => by cases hj; omega)
  have hbk := blk_grown (blk_alloc (blk_alloc (blk_new w (.cells #[.int .i64 a0, .int .i64 a1, .int .i64 a2, .int .i64 a3, .string a4, .string a5, .bool a6, .slice A7 l7.length c7, .slice A8 l8.length c8] 35)) (.map #[] 0)) (.map #[] 0)) hg1 (by simp)
  have hcz : w1.cell? ⟨w.heap.size, 8, none⟩ = some (.slice A8 l8.length c8) := (blk_cell hbk 8).trans rfl
  clear hbk
  have HS1 := Aside0.mk hs1
  have HS2 := Aside0.mk hs2
  have HB1 := Aside0.mk hb1
  clear hs1 hs2 hb1 hg1
  go_wp2_with fail
  clear hcz
  go_loopw [15] (fun i wr => ∃ k : Nat, k ≤ l8.length ∧ i = .int .i64 k ∧ Aside0 (SetIs Try.prog 9 wr (w.heap.size + 1) (strs l7)) ∧ Aside0 (SetIs Try.prog 9 wr (w.heap.size + 1 + 1) (strs (wkeys (l8.take k)))) ∧ Aside0 (Below w.heap.size w wr))
    (fun i _ => l8.length - (intOf i).toNat)
  case atStart => exact ⟨0, Nat.zero_le _, rfl, HS1, HS2, HB1⟩
  case round =>
    clear HS1 HS2 HB1 hmm
    obtain ⟨k, hk, rfl, HS1, HS2, HB⟩ := hrel
    have hl8 : l8.length ≤ 1000000000 := by have := H8.out.1; simpa [wkeys] using this
    by_cases hlt : k < l8.length
    · obtain ⟨ad, rfl, hc0, hc1, hc2⟩ := at_T56 (Kd.C_below HR8.out HB.out) (k : Int) (by omega) (by omega)
      rw [Int.toNat_natCast] at hc0 hc1 hc2
      go_wp2_with fail
      refine (set_add _ (w.heap.size + 1 + 1) (strs (wkeys (l8.take k))) ?hs _ [(rd_T56 l8 (k : Int)).f0] 1 ?hr ?hz ?hn).mono ?_
      case hs => exact HS2.out.below (below_alloc (below_alloc (Below.refl _ _) _) _)
      case hr => exact C_oneL _ _ _ (by simpa using blk_new (wr.alloc (.cells #[.string (rd_T56 l8 (k : Int)).f0, .string (rd_T56 l8 (k : Int)).f1, .bool (rd_T56 l8 (k : Int)).f2] 56)) (.cells #[.string (rd_T56 l8 (k : Int)).f0] 9))
      case hz =>
        intro s hs
        obtain rfl : s = (rd_T56 l8 (k : Int)).f0 := by simpa using hs
        have := H8.out.2 (rd_T56 l8 (k : Int)).f0 (by unfold wkeys rd_T56; simp [List.getElem?_eq_getElem hlt]; exact ⟨_, List.getElem_mem hlt, rfl⟩)
        unfold maxLen; omega
      case hn => simp [strs, wkeys]; omega
      rintro e w2 ⟨rfl, hs2, hg2⟩
      have hs1 : SetIs Try.prog 9 w2 (w.heap.size + 1) (strs l7) := (HS1.out.below (below_alloc (below_alloc (Below.refl _ _) _) _)).kept hg2 (by simp)
      have hb2 : Below w.heap.size w w2 := ((HB.out.alloc HB.out.size _).alloc (by have := HB.out.size; simp; omega) _).grown hg2 (by have := HB.out.size; simp; omega) (fun j hj => by cases hj; omega)
      rw [strs_one, ← wkeys_take l8 k hlt] at hs2
      have HS1' := Aside0.mk hs1
      have HS2' := Aside0.mk hs2
      have HB' := Aside0.mk hb2
      clear hs1 hs2 hb2 hg2 HS1 HS2 HB hc0 hc1 hc2
      go_wp2_with fail
      go_roundw
      case rel => exact ⟨k + 1, by omega, by go_num, HS1', HS2', HB'⟩
      case measure => simp [intOf]; omega
    · obtain rfl : k = l8.length := by omega
      go_wp2
      go_ret2
      exact ⟨_, _, rfl, HS1.out, by simpa using HS2.out, by omega, by omega, by omega, HB.out⟩

/-- What has been done of a range over the set WA, whose keys so far were on none of the lists. -/
def Ranged (w wr : World) (b r : Nat) (WA : List (List UInt8)) (bad : List UInt8 → Bool) : Prop :=
  ∃ n, ∃ D : DataW Value, ∃ left cnt, wr.ranges Try.prog 9 unitElem b r n D left cnt ∧ (∀ s, Maps.has D (.string s) = WA.contains s) ∧ (∀ s, WA.contains s = true → left (.string s) = false → bad s = false) ∧ Below w.heap.size w wr

def clashB (l7 : List ByteArray) (l8 : List S56) (m7 : List ByteArray) (m8 : List S56) : Bool :=
  (strs (wkeys l8)).any (fun k => (strs m7).contains k || (strs (wkeys m8)).contains k) || (strs (wkeys m8)).any (fun k => (strs l7).contains k)

set_option maxRecDepth 100000 in
set_option maxHeartbeats 2000000 in
theorem clash_walk (w : World) (a0 a1 a2 a3 : Int) (a4 a5 : ByteArray) (a6 : Bool) (A7 : Option Addr) (c7 : Nat) (l7 : List ByteArray) (A8 : Option Addr) (c8 : Nat) (l8 : List S56)
    (b0 b1 b2 b3 : Int) (b4 b5 : ByteArray) (b6 : Bool) (B7 : Option Addr) (d7 : Nat) (m7 : List ByteArray) (B8 : Option Addr) (d8 : Nat) (m8 : List S56)
    (hr7 : Kd.C Kd.string w A7 l7.length l7) (hr8 : Kd.C k56 w A8 l8.length l8) (h7 : small l7) (h8 : small (wkeys l8))
    (ht7 : Kd.C Kd.string w B7 m7.length m7) (ht8 : Kd.C k56 w B8 m8.length m8) (g7 : small m7) (g8 : small (wkeys m8)) :
    Calls Try.prog 61 #[.agg #[.int .i64 a0, .int .i64 a1, .int .i64 a2, .int .i64 a3, .string a4, .string a5, .bool a6, .slice A7 l7.length c7, .slice A8 l8.length c8],
      .agg #[.int .i64 b0, .int .i64 b1, .int .i64 b2, .int .i64 b3, .string b4, .string b5, .bool b6, .slice B7 m7.length d7, .slice B8 m8.length d8]] w fun e w' =>
      e = .returned (.bool (clashB l7 l8 m7 m8)) ∧ Below w.heap.size w w' := by
  have HR7 := Aside0.mk hr7
  have HR8 := Aside0.mk hr8
  have H7 := Aside0.mk h7
  have H8 := Aside0.mk h8
  have HT7 := Aside0.mk ht7
  have HT8 := Aside0.mk ht8
  have G7 := Aside0.mk g7
  have G8 := Aside0.mk g8
  clear hr7 hr8 h7 h8 ht7 ht8 g7 g8
  have hu35 := Try.underlying35
  go_enter Try.func61, Try.ntmps61
  go_wp2_with fail
  have hb := Aside0.mk (below_alloc (below_alloc (Below.refl _ w) (.cells #[.int .i64 a0, .int .i64 a1, .int .i64 a2, .int .i64 a3, .string a4, .string a5, .bool a6, .slice A7 l7.length c7, .slice A8 l8.length c8] 35)) (.cells #[.int .i64 b0, .int .i64 b1, .int .i64 b2, .int .i64 b3, .string b4, .string b5, .bool b6, .slice B7 m7.length d7, .slice B8 m8.length d8] 35))
  refine (touched _ a0 a1 a2 a3 a4 a5 a6 A7 c7 l7 A8 c8 l8 (Kd.C_below HR7.out hb.out) (Kd.C_below HR8.out hb.out) H7.out H8.out).mono ?_
  rintro e w1 ⟨ra, wa, rfl, hs1, hs2, hne1, hge1, hge2, hb1⟩
  have hbk := blk_below (blk_new (w.alloc (.cells #[.int .i64 a0, .int .i64 a1, .int .i64 a2, .int .i64 a3, .string a4, .string a5, .bool a6, .slice A7 l7.length c7, .slice A8 l8.length c8] 35)) (.cells #[.int .i64 b0, .int .i64 b1, .int .i64 b2, .int .i64 b3, .string b4, .string b5, .bool b6, .slice B7 m7.length d7, .slice B8 m8.length d8] 35)) hb1
  rw [show (w.alloc (.cells #[.int .i64 a0, .int .i64 a1, .int .i64 a2, .int .i64 a3, .string a4, .string a5, .bool a6, .slice A7 l7.length c7, .slice A8 l8.length c8] 35)).heap.size = w.heap.size + 1 from by simp] at hbk
  have q0 : w1.cell? ⟨w.heap.size + 1, 0, none⟩ = some (.int .i64 b0) := (blk_cell hbk 0).trans rfl
  have q1 : w1.cell? ⟨w.heap.size + 1, 1, none⟩ = some (.int .i64 b1) := (blk_cell hbk 1).trans rfl
  have q2 : w1.cell? ⟨w.heap.size + 1, 2, none⟩ = some (.int .i64 b2) := (blk_cell hbk 2).trans rfl
  have q3 : w1.cell? ⟨w.heap.size + 1, 3, none⟩ = some (.int .i64 b3) := (blk_cell hbk 3).trans rfl
  have q4 : w1.cell? ⟨w.heap.size + 1, 4, none⟩ = some (.string b4) := (blk_cell hbk 4).trans rfl
  have q5 : w1.cell? ⟨w.heap.size + 1, 5, none⟩ = some (.string b5) := (blk_cell hbk 5).trans rfl
  have q6 : w1.cell? ⟨w.heap.size + 1, 6, none⟩ = some (.bool b6) := (blk_cell hbk 6).trans rfl
  have q7 : w1.cell? ⟨w.heap.size + 1, 7, none⟩ = some (.slice B7 m7.length d7) := (blk_cell hbk 7).trans rfl
  have q8 : w1.cell? ⟨w.heap.size + 1, 8, none⟩ = some (.slice B8 m8.length d8) := (blk_cell hbk 8).trans rfl
  have hB1 : Below w.heap.size w w1 := hb.out.trans (hb1.mono (by simp; omega))
  have HS1 := Aside0.mk hs1
  have HS2 := Aside0.mk hs2
  have HB1 := Aside0.mk hB1
  have HGE1 := Aside0.mk hge1
  have HGE2 := Aside0.mk hge2
  have HNE1 := Aside0.mk hne1
  clear hs1 hs2 hB1 hb1 hb hbk hge1 hge2 hne1
  go_wp2_with fail
  refine (touched w1 b0 b1 b2 b3 b4 b5 b6 B7 d7 m7 B8 d8 m8 (Kd.C_below HT7.out HB1.out) (Kd.C_below HT8.out HB1.out) G7.out G8.out).mono ?_
  rintro e w2 ⟨rb, wb, rfl, hs3, hs4, hne2, hge3, hge4, hb2⟩
  have hra := HS1.out.below hb2
  have hwa := HS2.out.below hb2
  have hB2 : Below w.heap.size w w2 := HB1.out.trans (hb2.mono HB1.out.size)
  have hlt1 := HS1.out.lt
  have hlt2 := HS2.out.lt
  have HRA := Aside0.mk hra
  have HWA := Aside0.mk hwa
  have HRB := Aside0.mk hs3
  have HWB := Aside0.mk hs4
  have HB2 := Aside0.mk hB2
  have HX := Aside0.mk (show wa ≠ rb ∧ wa ≠ wb ∧ wb ≠ ra ∧ ra ≠ wa ∧ rb ≠ wb from ⟨by omega, by omega, by omega, HNE1.out, hne2⟩)
  clear HS1 HS2 HB1 hb2 hra hwa hs3 hs4 hB2 hge3 hge4 hne2 hlt1 hlt2 q0 q1 q2 q3 q4 q5 q6 q7 q8 HR7 HR8 HT7 HT8 H7 H8 G7 G8 HGE1 HGE2 HNE1
  obtain ⟨n1, D1, hown1, hn1, hhas1⟩ := HWA.out
  have HO1 := Aside0.mk hown1
  have HH1 := Aside0.mk hhas1
  clear hown1 hhas1 hn1
  go_wp2_with (first
    | (at_range; refine wpList_range_own _ rfl _ 112 rfl 9 153 keyed9 Try.underlying112 _ wa n1 _ rfl HO1.out ?_; intro w3 hrg0 hg0 hs0))
  go_frame
  have HLT := Aside0.mk (show ra < w2.heap.size ∧ rb < w2.heap.size ∧ wb < w2.heap.size ∧ w.heap.size ≤ w2.heap.size from ⟨HRA.out.lt, HRB.out.lt, HWB.out.lt, HB2.out.size⟩)
  have hgb : Below w2.heap.size w2 w3 := (Below.refl _ _).grown hg0 (Nat.le_refl _) (fun j hj => by cases hj)
  have HRA := Aside0.mk (HRA.out.below hgb)
  have HRB := Aside0.mk (HRB.out.below hgb)
  have HWB := Aside0.mk (HWB.out.below hgb)
  have HB3 : Aside0 (Below w.heap.size w w3) := ⟨HB2.out.trans (hgb.mono HB2.out.size)⟩
  have HRG := Aside0.mk hrg0
  clear hrg0 hg0 hs0 hgb
  go_loopw [9] (fun _ wr => ∃ left cnt, Aside0 (wr.ranges Try.prog 9 unitElem wa w2.heap.size n1 D1 left cnt) ∧ Aside0 (∀ s, (strs (wkeys l8)).contains s = true → left (.string s) = false → ((strs m7).contains s || (strs (wkeys m8)).contains s) = false) ∧
      Aside0 (SetIs Try.prog 9 wr ra (strs l7)) ∧ Aside0 (SetIs Try.prog 9 wr rb (strs m7)) ∧ Aside0 (SetIs Try.prog 9 wr wb (strs (wkeys m8))) ∧ Aside0 (Below w.heap.size w wr))
    (fun _ wr => wr.rangeLeft wa w2.heap.size)
  case atStart => exact ⟨_, _, HRG, ⟨fun s h1 h2 => by rw [HH1.out s] at h2; rw [h1] at h2; cases h2⟩, HRA, HRB, HWB, HB3⟩
  case round =>
    clear HRG HRA HRB HWB HB3
    obtain ⟨left, cnt, HRG, HD, HRA, HRB, HWB, HB⟩ := hrel
    go_wp2_with (first
      | (at_next; refine next_set _ rfl _ rfl 9 Try.underlying9 wa w2.heap.size n1 _ _ _ rfl HRG.out ?_ ?_))
    · intro _ hl0
      have hno : (strs (wkeys l8)).any (fun k => (strs m7).contains k || (strs (wkeys m8)).contains k) = false := by
        rw [List.any_eq_false]
        intro s hs
        simpa using HD.out s (by simpa using hs) (hl0 _)
      have HNO := Aside0.mk hno
      clear hno hl0
      obtain ⟨wo, rfl⟩ : ∃ wo : World, wo = wr := ⟨_, rfl⟩
      obtain ⟨n2, D2, hown2, hn2, hhas2⟩ := HWB.out
      have HO2 := Aside0.mk hown2
      have HH2 := Aside0.mk hhas2
      clear hown2 hhas2 hn2
      go_wp2_with (first
        | (at_range; refine wpList_range_own _ rfl _ 112 rfl 9 153 keyed9 Try.underlying112 _ wb n2 _ rfl HO2.out ?_; intro w5 hrg0 hg0 hs0))
      go_frame
      have hgb : Below wo.heap.size wo w5 := (Below.refl _ _).grown hg0 (Nat.le_refl _) (fun j hj => by cases hj)
      have HLT2 := Aside0.mk (show ra < wo.heap.size ∧ w.heap.size ≤ wo.heap.size from ⟨HRA.out.lt, HB.out.size⟩)
      have HRA5 := Aside0.mk (HRA.out.below hgb)
      have HB5 : Aside0 (Below w.heap.size w w5) := ⟨HB.out.trans (hgb.mono HB.out.size)⟩
      have HRG5 := Aside0.mk hrg0
      clear hrg0 hg0 hs0 hgb HRG HD HRA HRB HWB HB
      go_loopw [10] (fun _ wz => ∃ left cnt, Aside0 (wz.ranges Try.prog 9 unitElem wb wo.heap.size n2 D2 left cnt) ∧ Aside0 (∀ s, (strs (wkeys m8)).contains s = true → left (.string s) = false → (strs l7).contains s = false) ∧
          Aside0 (SetIs Try.prog 9 wz ra (strs l7)) ∧ Aside0 (Below w.heap.size w wz))
        (fun _ wz => wz.rangeLeft wb wo.heap.size)
      case atStart => exact ⟨_, _, HRG5, ⟨fun s h1 h2 => by rw [HH2.out s] at h2; rw [h1] at h2; cases h2⟩, HRA5, HB5⟩
      case round =>
        clear HRG5 HRA5 HB5
        obtain ⟨left, cnt, HRG, HD, HRA, HB⟩ := hrel
        go_wp2_with (first
          | (at_next; refine next_set _ rfl _ rfl 9 Try.underlying9 wb wo.heap.size n2 _ _ _ rfl HRG.out ?_ ?_))
        · intro _ hl0
          have hno : (strs (wkeys m8)).any (fun k => (strs l7).contains k) = false := by
            rw [List.any_eq_false]
            intro s hs
            simpa using HD.out s (by simpa using hs) (hl0 _)
          have HNO2 := Aside0.mk hno
          clear hno hl0
          go_wp2
          go_ret
          exact ⟨by unfold clashB; rw [HNO.out, HNO2.out]; rfl, HB.out⟩
        · intro x w6 cnt1 hxs hlx hhx hrg1 hlt1 hg1 hs1 hen
          have hx2 := HH2.out x.data.toList
          rw [hhx] at hx2
          have HXW := Aside0.mk hx2.symm
          have HMS := Aside0.mk (show cnt1 < wr.rangeLeft wb wo.heap.size by rw [HRG.out.left_eq]; exact hlt1)
          have HRA6 := Aside0.mk (HRA.out.kept hg1 (by have := HLT2.out.1; simp; omega))
          have HB6 : Aside0 (Below w.heap.size w w6) := ⟨HB.out.grown hg1 HB.out.size (fun j hj => by cases hj; exact HLT2.out.2)⟩
          have HRG6 := Aside0.mk hrg1
          have HXS := Aside0.mk hxs
          have HXO := Aside0.mk hs1
          clear hhx hx2 hrg1 hlt1 hg1 hs1 hxs hlx
          go_wp2_with fail
          by_cases cx : (strs l7).contains x.data.toList = true
          · refine (set_has w6 ra _ HRA6.out x HXS.out).mono ?_
            rintro e w7 ⟨rfl, hb7⟩
            rw [cx]
            have HB7 : Aside0 (Below w.heap.size w w7) := ⟨HB6.out.trans (hb7.mono HB6.out.size)⟩
            clear hb7
            have hfin : clashB l7 l8 m7 m8 = true := by
              unfold clashB
              have : (strs (wkeys m8)).any (fun k => (strs l7).contains k) = true := List.any_eq_true.2 ⟨_, by simpa using HXW.out, cx⟩
              rw [this]; simp
            have HF := Aside0.mk hfin
            clear hfin cx hen
            go_wp2_with fail
            go_ret
            exact ⟨by rw [HF.out]; rfl, HB7.out⟩
          · refine (set_has w6 ra _ HRA6.out x HXS.out).mono ?_
            rintro e w7 ⟨rfl, hb7⟩
            have cx2 : (strs l7).contains x.data.toList = false := by simpa using cx
            rw [cx2]
            have HRG7 := Aside0.mk (HRG6.out.kept (grownBy_of_below hb7 none) (by simp) (by simp))
            have HRA7 := Aside0.mk (HRA6.out.below hb7)
            have HB7 : Aside0 (Below w.heap.size w w7) := ⟨HB6.out.trans (hb7.mono HB6.out.size)⟩
            have HCX := Aside0.mk cx2
            clear hb7 cx cx2 hen
            go_wp2_with fail
            go_roundw
            case rel =>
              refine ⟨_, _, HRG7, ⟨fun s h1 h2 => ?_⟩, HRA7, HB7⟩
              rw [sameKey_str] at h2
              by_cases e : s = x.data.toList
              · rw [e]; exact HCX.out
              · exact HD.out s h1 (by simpa [e] using h2)
            case measure => rw [HRG7.out.left_eq]; exact HMS.out
    · intro x w4 cnt1 hxs hlx hhx hrg1 hlt1 hg1 hs1 hen
      have hx2 := HH1.out x.data.toList
      rw [hhx] at hx2
      have HXW := Aside0.mk hx2.symm
      have HMS := Aside0.mk (show cnt1 < wr.rangeLeft wa w2.heap.size by rw [HRG.out.left_eq]; exact hlt1)
      have HRA4 := Aside0.mk (HRA.out.kept hg1 (by have := HLT.out; simp; omega))
      have HRB4 := Aside0.mk (HRB.out.kept hg1 (by have := HLT.out; simp; omega))
      have HWB4 := Aside0.mk (HWB.out.kept hg1 (by have := HLT.out; simp; omega))
      have HB4 : Aside0 (Below w.heap.size w w4) := ⟨HB.out.grown hg1 HB.out.size (fun j hj => by cases hj; exact HLT.out.2.2.2)⟩
      have HRG4 := Aside0.mk hrg1
      have HXS := Aside0.mk hxs
      clear hhx hx2 hrg1 hlt1 hg1 hs1 hxs hlx HRA HRB HWB HB HRG
      have hyes : ((strs m7).contains x.data.toList || (strs (wkeys m8)).contains x.data.toList) = true → clashB l7 l8 m7 m8 = true := by
        intro h
        unfold clashB
        have : (strs (wkeys l8)).any (fun k => (strs m7).contains k || (strs (wkeys m8)).contains k) = true := List.any_eq_true.2 ⟨_, by simpa using HXW.out, h⟩
        rw [this]; simp
      have HYES := Aside0.mk hyes
      clear hyes
      go_wp2_with fail
      by_cases cx : (strs m7).contains x.data.toList = true
      · refine (set_has w4 rb _ HRB4.out x HXS.out).mono ?_
        rintro e w7 ⟨rfl, hb7⟩
        rw [cx]
        have HB7 : Aside0 (Below w.heap.size w w7) := ⟨HB4.out.trans (hb7.mono HB4.out.size)⟩
        clear hb7
        have HF := Aside0.mk (HYES.out (by rw [cx]; rfl))
        clear cx hen
        go_wp2_with fail
        go_ret
        exact ⟨by rw [HF.out]; rfl, HB7.out⟩
      · refine (set_has w4 rb _ HRB4.out x HXS.out).mono ?_
        rintro e w7 ⟨rfl, hb7⟩
        have cx2 : (strs m7).contains x.data.toList = false := by simpa using cx
        rw [cx2]
        have HRG7 := Aside0.mk (HRG4.out.kept (grownBy_of_below hb7 none) (by simp) (by simp))
        have HRA7 := Aside0.mk (HRA4.out.below hb7)
        have HRB7 := Aside0.mk (HRB4.out.below hb7)
        have HWB7 := Aside0.mk (HWB4.out.below hb7)
        have HB7 : Aside0 (Below w.heap.size w w7) := ⟨HB4.out.trans (hb7.mono HB4.out.size)⟩
        have HCX := Aside0.mk cx2
        clear hb7 cx cx2 hen
        go_wp2_with fail
        by_cases cy : (strs (wkeys m8)).contains x.data.toList = true
        · refine (set_has w7 wb _ HWB7.out x HXS.out).mono ?_
          rintro e w8 ⟨rfl, hb8⟩
          rw [cy]
          have HB8 : Aside0 (Below w.heap.size w w8) := ⟨HB7.out.trans (hb8.mono HB7.out.size)⟩
          clear hb8
          have HF := Aside0.mk (HYES.out (by rw [cy]; simp))
          clear cy
          go_wp2_with fail
          go_ret
          exact ⟨by rw [HF.out]; rfl, HB8.out⟩
        · refine (set_has w7 wb _ HWB7.out x HXS.out).mono ?_
          rintro e w8 ⟨rfl, hb8⟩
          have cy2 : (strs (wkeys m8)).contains x.data.toList = false := by simpa using cy
          rw [cy2]
          have HRG8 := Aside0.mk (HRG7.out.kept (grownBy_of_below hb8 none) (by simp) (by simp))
          have HRA8 := Aside0.mk (HRA7.out.below hb8)
          have HRB8 := Aside0.mk (HRB7.out.below hb8)
          have HWB8 := Aside0.mk (HWB7.out.below hb8)
          have HB8 : Aside0 (Below w.heap.size w w8) := ⟨HB7.out.trans (hb8.mono HB7.out.size)⟩
          have HCY := Aside0.mk cy2
          clear hb8 cy cy2
          go_wp2_with fail
          go_roundw
          case rel =>
            refine ⟨_, _, HRG8, ⟨fun s h1 h2 => ?_⟩, HRA8, HRB8, HWB8, HB8⟩
            rw [sameKey_str] at h2
            by_cases e : s = x.data.toList
            · rw [e, HCX.out, HCY.out]; rfl
            · exact HD.out s h1 (by simpa [e] using h2)
          case measure => rw [HRG8.out.left_eq]; exact HMS.out
def smallB (l : List ByteArray) : Bool := decide (l.length ≤ 1000000000) && l.all (fun s => decide (s.size ≤ 1000000000))
theorem small_of (l : List ByteArray) (h : smallB l = true) : small l := by
  unfold smallB at h
  rw [Bool.and_eq_true, decide_eq_true_eq, List.all_eq_true] at h
  exact ⟨h.1, fun s hs => by simpa using h.2 s hs⟩
def locks_clash.f (a0_0 : Int) (a0_1 : Int) (a0_2 : Int) (a0_3 : Int) (a0_4 : ByteArray) (a0_5 : ByteArray) (a0_6 : Bool) (l0_7 : List ByteArray) (l0_8 : List (S56)) (a1_0 : Int) (a1_1 : Int) (a1_2 : Int) (a1_3 : Int) (a1_4 : ByteArray) (a1_5 : ByteArray) (a1_6 : Bool) (l1_7 : List ByteArray) (l1_8 : List (S56)) : Option (Bool) :=
  if smallB l0_7 = true ∧ smallB (wkeys l0_8) = true ∧ smallB l1_7 = true ∧ smallB (wkeys l1_8) = true then some (clashB l0_7 l0_8 l1_7 l1_8) else none
theorem locks_clash.calls (a0_0 : Int) (a0_1 : Int) (a0_2 : Int) (a0_3 : Int) (a0_4 : ByteArray) (a0_5 : ByteArray) (a0_6 : Bool) (A0_7 : Option Addr) (c0_7 : Nat) (l0_7 : List ByteArray) (A0_8 : Option Addr) (c0_8 : Nat) (l0_8 : List (S56)) (a1_0 : Int) (a1_1 : Int) (a1_2 : Int) (a1_3 : Int) (a1_4 : ByteArray) (a1_5 : ByteArray) (a1_6 : Bool) (A1_7 : Option Addr) (c1_7 : Nat) (l1_7 : List ByteArray) (A1_8 : Option Addr) (c1_8 : Nat) (l1_8 : List (S56)) (r : Bool) (w : World) (hr0_7 : Kd.C Kd.string w A0_7 l0_7.length l0_7) (hc0_7 : l0_7.length ≤ c0_7) (hr0_8 : Kd.C k56 w A0_8 l0_8.length l0_8) (hc0_8 : l0_8.length ≤ c0_8) (hr1_7 : Kd.C Kd.string w A1_7 l1_7.length l1_7) (hc1_7 : l1_7.length ≤ c1_7) (hr1_8 : Kd.C k56 w A1_8 l1_8.length l1_8) (hc1_8 : l1_8.length ≤ c1_8) (h : locks_clash.f a0_0 a0_1 a0_2 a0_3 a0_4 a0_5 a0_6 l0_7 l0_8 a1_0 a1_1 a1_2 a1_3 a1_4 a1_5 a1_6 l1_7 l1_8 = some r) :
    Calls Try.prog 61 #[.agg #[.int .i64 a0_0, .int .i64 a0_1, .int .i64 a0_2, .int .i64 a0_3, .string a0_4, .string a0_5, .bool a0_6, .slice A0_7 l0_7.length c0_7, .slice A0_8 l0_8.length c0_8], .agg #[.int .i64 a1_0, .int .i64 a1_1, .int .i64 a1_2, .int .i64 a1_3, .string a1_4, .string a1_5, .bool a1_6, .slice A1_7 l1_7.length c1_7, .slice A1_8 l1_8.length c1_8]] w fun e w' => e = .returned (.bool r) ∧ Below w.heap.size w w' := by
  unfold locks_clash.f at h
  split at h
  · rename_i hs
    injection h with h
    subst h
    exact clash_walk w _ _ _ _ _ _ _ _ _ _ _ _ _ _ _ _ _ _ _ _ _ _ _ _ _ _ hr0_7 hr0_8 (small_of _ hs.1) (small_of _ hs.2.1) hr1_7 hr1_8 (small_of _ hs.2.2.1) (small_of _ hs.2.2.2)
  · cases h
end Go.Proofs.Ytaldfbmjmpkmmaa.PL
namespace Go.Proofs.Ytaldfbmjmpkmmaa.PL
open Go.RowKit Go.Proofs.YtaldfbmjmpkmmaaW.PrintWords Go.Proofs.YtaldfbmjmpkmmaaW.PrintLast Go.Proofs.YtaldfbmjmpkmmaaW.PrintMore Go.Maps Mk
set_option linter.unusedVariables false
set_option linter.unusedSimpArgs false

/-- What a function of one number does, called at the numbers of a list, in whatever world that has come of w. -/
def Tells (w : World) (g : Nat) (cap : Array Value) (xs : List Int) (p : Int → Bool) : Prop :=
  ∀ W : World, Below w.heap.size w W → ∀ x, x ∈ xs → Calls Try.prog g (#[.int .i64 x] ++ cap) W fun e W' => e = .returned (.bool (p x)) ∧ Below W.heap.size W W'

def firstAt (p : Int → Bool) : List Int → Int → Int
  | [], _ => -1
  | x :: r, i => if p x then i else firstAt p r (i + 1)
theorem firstAt_ge (p : Int → Bool) : ∀ (l : List Int) (i : Int), 0 ≤ i → (0 ≤ firstAt p l i ↔ l.any p = true)
  | [], i, h => by simp [firstAt]
  | x :: r, i, h => by
    unfold firstAt
    rw [List.any_cons]
    cases hp : p x
    · simp only [Bool.false_or, Bool.false_eq_true, if_false]
      exact firstAt_ge p r (i + 1) (by omega)
    · simp [h]

set_option maxRecDepth 100000 in
set_option maxHeartbeats 1000000 in
theorem index_func (w : World) (A : Option Addr) (c : Nat) (xs : List Int) (c1 c2 : Value) (p : Int → Bool) (hr : Kd.C (Kd.int .i64) w A xs.length xs) (hp : Tells w 60 #[c1, c2] xs p) :
    Calls Try.prog 101 #[.slice A xs.length c, .func (.func 60) #[] #[c1, c2]] w fun e w' => e = .returned (.int .i64 (firstAt p xs 0)) ∧ Below w.heap.size w w' := by
  have HR := Aside0.mk hr
  have HP := Aside0.mk hp
  have hmax := Kd.C_max hr
  clear hr hp
  go_enter Try.func101, Try.ntmps101
  go_wp2
  go_loopw [8] (fun i wr => ∃ k : Nat, k ≤ xs.length ∧ i = .int .i64 k ∧ Aside0 (firstAt p xs 0 = firstAt p (xs.drop k) k) ∧ Aside0 (Below w.heap.size w wr))
    (fun i _ => xs.length - (intOf i).toNat)
  case atStart => exact ⟨0, Nat.zero_le _, rfl, ⟨rfl⟩, ⟨Below.refl _ _⟩⟩
  case round =>
    obtain ⟨k, hk, rfl, HF, HB⟩ := hrel
    by_cases hlt : k < xs.length
    · obtain ⟨ad, rfl, hc⟩ := Kd.at_int (Kd.C_below HR.out HB.out) (k : Int) (by omega) (by omega)
      rw [Int.toNat_natCast] at hc
      have hmem : rd xs (k : Int) ∈ xs := by unfold rd; simp [List.getElem?_eq_getElem hlt]
      have hdrop : xs.drop k = rd xs (k : Int) :: xs.drop (k + 1) := by
        rw [List.drop_eq_getElem_cons hlt]; unfold rd; simp [List.getElem?_eq_getElem hlt]
      have HF2 := HF.out
      rw [hdrop] at HF2
      generalize hx : rd xs (k : Int) = x at *
      have HM := Aside0.mk hmem
      have HF3 := Aside0.mk HF2
      clear hmem hdrop hx HF2 HF
      go_wp2_with fail
      refine (HP.out wr HB.out x HM.out).mono ?_
      rintro e w1 ⟨rfl, hb1⟩
      have HB1 : Aside0 (Below w.heap.size w w1) := ⟨HB.out.trans (hb1.mono HB.out.size)⟩
      clear hb1
      cases hpx : p x with
      | true =>
        have HV : Aside0 (firstAt p xs 0 = (k : Int)) := ⟨by rw [HF3.out]; unfold firstAt; rw [hpx]; rfl⟩
        clear hpx
        go_wp2_with fail
        go_ret
        exact ⟨by rw [HV.out]; rfl, HB1.out⟩
      | false =>
        have HV : Aside0 (firstAt p xs 0 = firstAt p (xs.drop (k + 1)) ((k + 1 : Nat) : Int)) := ⟨by
          rw [HF3.out]
          show (if p x = true then (k : Int) else firstAt p (xs.drop (k + 1)) ((k : Int) + 1)) = _
          rw [hpx]; simp⟩
        clear hpx
        go_wp2_with fail
        go_roundw
        case rel => exact ⟨k + 1, by omega, by go_num, HV, HB1⟩
        case measure => simp [intOf]; omega
    · obtain rfl : k = xs.length := by omega
      have HV : Aside0 (firstAt p xs 0 = -1) := ⟨by rw [HF.out, List.drop_of_length_le (Nat.le_refl _)]; rfl⟩
      go_wp2
      go_ret
      exact ⟨by rw [HV.out]; rfl, HB.out⟩

set_option maxRecDepth 100000 in
theorem contains_func (w : World) (A : Option Addr) (c : Nat) (xs : List Int) (c1 c2 : Value) (p : Int → Bool) (hr : Kd.C (Kd.int .i64) w A xs.length xs) (hp : Tells w 60 #[c1, c2] xs p) :
    Calls Try.prog 59 #[.slice A xs.length c, .func (.func 60) #[] #[c1, c2]] w fun e w' => e = .returned (.bool (xs.any p)) ∧ Below w.heap.size w w' := by
  have hc := index_func w A c xs c1 c2 p hr hp
  have hge := firstAt_ge p xs 0 (by omega)
  have hval : decide (firstAt p xs 0 ≥ 0) = xs.any p := by
    rw [Bool.eq_iff_iff, decide_eq_true_iff]
    exact hge
  generalize firstAt p xs 0 = n at hc hval
  have HC := Aside0.mk hc
  have HV := Aside0.mk hval
  clear hc hge hval hr hp
  go_enter Try.func59, Try.ntmps59
  go_wp2_with fail
  refine HC.out.mono ?_
  rintro e w1 ⟨rfl, hb1⟩
  have HB := Aside0.mk hb1
  clear hb1
  go_wp2_with fail
  go_ret
  exact ⟨by rw [← HV.out]; rfl, HB.out⟩

def clashR (a b : S35) : Bool := clashB a.f7 a.f8 b.f7 b.f8
def smallR (r : S35) : Prop := small r.f7 ∧ small (wkeys r.f8)

set_option maxRecDepth 100000 in
set_option maxHeartbeats 1000000 in
/-- The function that Admit makes: does the record at a place clash with the one at hand? -/
theorem admit_one (w : World) (bl br : Nat) (A : Option Addr) (c : Nat) (l : List S35) (r : S35) (A7 : Option Addr) (c7 : Nat) (A8 : Option Addr) (c8 : Nat) (k : Nat) (hk : k < l.length)
    (hl : Kd.C k35 w A l.length l) (h7 : Kd.C Kd.string w A7 r.f7.length r.f7) (h8 : Kd.C k56 w A8 r.f8.length r.f8)
    (hbl : w.heap[bl]? = some (.cells #[.slice A l.length c] 22 (0, 0)))
    (hbr : w.heap[br]? = some (.cells #[.int .i64 r.f0, .int .i64 r.f1, .int .i64 r.f2, .int .i64 r.f3, .string r.f4, .string r.f5, .bool r.f6, .slice A7 r.f7.length c7, .slice A8 r.f8.length c8] 35 (0, 0)))
    (hsk : smallR (rd_T35 l (k : Int))) (hsr : smallR r) :
    Calls Try.prog 60 #[.int .i64 (k : Int), .pointer (some ⟨bl, 0, none⟩), .pointer (some ⟨br, 0, none⟩)] w fun e w' => e = .returned (.bool (clashR (rd_T35 l (k : Int)) r)) ∧ Below w.heap.size w w' := by
  obtain ⟨ad, X7, d7, X8, d8, rfl, q0, q1, q2, q3, q4, q5, q6, q7, q8, g7c, g7, g8c, g8⟩ := at_T35 hl (k : Int) (by omega) (by omega)
  rw [Int.toNat_natCast] at q0 q1 q2 q3 q4 q5 q6 q7 q8
  have hmax := Kd.C_max hl
  have p0 : w.cell? ⟨bl, 0, none⟩ = some (.slice (some ad) l.length c) := (blk_cell hbl 0).trans rfl
  have s0 : w.cell? ⟨br, 0, none⟩ = some (.int .i64 r.f0) := (blk_cell hbr 0).trans rfl
  have s1 : w.cell? ⟨br, 1, none⟩ = some (.int .i64 r.f1) := (blk_cell hbr 1).trans rfl
  have s2 : w.cell? ⟨br, 2, none⟩ = some (.int .i64 r.f2) := (blk_cell hbr 2).trans rfl
  have s3 : w.cell? ⟨br, 3, none⟩ = some (.int .i64 r.f3) := (blk_cell hbr 3).trans rfl
  have s4 : w.cell? ⟨br, 4, none⟩ = some (.string r.f4) := (blk_cell hbr 4).trans rfl
  have s5 : w.cell? ⟨br, 5, none⟩ = some (.string r.f5) := (blk_cell hbr 5).trans rfl
  have s6 : w.cell? ⟨br, 6, none⟩ = some (.bool r.f6) := (blk_cell hbr 6).trans rfl
  have s7 : w.cell? ⟨br, 7, none⟩ = some (.slice A7 r.f7.length c7) := (blk_cell hbr 7).trans rfl
  have s8 : w.cell? ⟨br, 8, none⟩ = some (.slice A8 r.f8.length c8) := (blk_cell hbr 8).trans rfl
  have hu35 := Try.underlying35
  have HX := Aside0.mk (And.intro g7 (And.intro g8 (And.intro h7 (And.intro h8 (And.intro hsk hsr)))))
  have HL := Aside0.mk hl
  clear g7 g8 h7 h8 hsk hsr hl hbl hbr
  generalize rd_T35 l (k : Int) = x at *
  go_enter Try.func60, Try.ntmps60
  go_wp2
  go_still_tail 5, (by kernel_rfl)
  change wpList _ _ _ _ _ w.drew
  have HX2 := Aside0.mk (And.intro (Kd.C_drew HX.out.1) (And.intro (Kd.C_drew HX.out.2.1) (And.intro (Kd.C_drew HX.out.2.2.1) (Kd.C_drew HX.out.2.2.2.1))))
  have HB := Aside0.mk (below_drew (Below.refl w.heap.size w))
  have HSM := Aside0.mk HX.out.2.2.2.2
  clear HX HL p0 s0 s1 s2 s3 s4 s5 s6 s7 s8 q0 q1 q2 q3 q4 q5 q6 q7 q8
  generalize w.drew = w2 at *
  go_wp2_with fail
  refine (clash_walk w2 _ _ _ _ _ _ _ _ _ _ _ _ _ _ _ _ _ _ _ _ _ _ _ _ _ _ HX2.out.1 HX2.out.2.1 HSM.out.1.1 HSM.out.1.2 HX2.out.2.2.1 HX2.out.2.2.2 HSM.out.2.1 HSM.out.2.2).mono ?_
  rintro e w3 ⟨rfl, hb3⟩
  have HB3 : Aside0 (Below w.heap.size w w3) := ⟨HB.out.trans (hb3.mono HB.out.size)⟩
  have HV : Aside0 (clashB x.f7 x.f8 r.f7 r.f8 = clashR x r) := ⟨rfl⟩
  clear hb3
  generalize clashB x.f7 x.f8 r.f7 r.f8 = v at *
  go_wp2_with fail
  go_ret
  exact ⟨by rw [← HV.out]; rfl, HB3.out⟩
end Go.Proofs.Ytaldfbmjmpkmmaa.PL
namespace Go.Proofs.Ytaldfbmjmpkmmaa.PL
open Go.RowKit Go.Proofs.YtaldfbmjmpkmmaaW.PrintWords Go.Proofs.YtaldfbmjmpkmmaaW.PrintLast Go.Proofs.YtaldfbmjmpkmmaaW.PrintMore
attribute [local go_sem] Mk.str_leq Mk.str_gtr Mk.str_geq max2_int min2_int max_two min_two max_three min_three max_four min_four   -- for this text's walks alone
set_option linter.unusedVariables false
set_option linter.unusedSimpArgs false

/-! ### locks_wrong: function 58 -/
def locks_wrong.l0 : Nat → List (S35) → Int → Int → Option (Int)
 | 0, _, _, _ => none
 | k + 1, x8, x9, x10 => if x10 < x9 then (if 0 ≤ x10 then (if x10 < (x8.length : Int) then (if ((rd_T35 x8 x10).f0) = 1 then ((record_Check.f ((rd_T35 x8 x10).f0) ((rd_T35 x8 x10).f1) ((rd_T35 x8 x10).f2) ((rd_T35 x8 x10).f3) ((rd_T35 x8 x10).f4) ((rd_T35 x8 x10).f5) ((rd_T35 x8 x10).f6) ((rd_T35 x8 x10).f7) ((rd_T35 x8 x10).f8)).bind fun t122 => (if t122 = 0 then (locks_wrong.l0 k x8 x9 (wrap64 (x10 + 1))) else (some 80))) else (some 80)) else (none)) else (none)) else (some 0)
def locks_wrong.f (k : Nat) (l0 : List (S35)) : Option (Int) := if (l0.length : Int) > 256 then (some 2) else (locks_wrong.l0 k l0 (l0.length : Int) 0)
theorem locks_wrong.mono_l : ∀ k, (∀ y0 y1 y2, LeO (locks_wrong.l0 k y0 y1 y2) (locks_wrong.l0 (k + 1) y0 y1 y2))
 | 0 => fun _ _ _ r h => by simp [locks_wrong.l0] at h
 | k + 1 => by
  have ih0 := locks_wrong.mono_l k
  ·intro y0 y1 y2
   unfold locks_wrong.l0
   repeat' first
   | (with_reducible exact ih0 _ _ _)
   | (with_reducible exact LeO.refl _)
   | (with_reducible exact LeO.none _)
   | (with_reducible refine LeO.ite ?_ ?_)
   | (with_reducible refine LeO.bind ?_ (fun _ => ?_))
   | exact ih0 _ _ _
   | exact LeO.none _
   | refine LeO.ite ?_ ?_
   | refine LeO.bind ?_ (fun _ => ?_)
theorem locks_wrong.mono : ∀ a0 k, LeO (locks_wrong.f k a0) (locks_wrong.f (k + 1) a0) := by
 intro a0 k
 have ih0 := locks_wrong.mono_l k
 unfold locks_wrong.f
 repeat' first
   | (with_reducible exact ih0 _ _ _)
   | (with_reducible exact LeO.refl _)
   | (with_reducible exact LeO.none _)
   | (with_reducible refine LeO.ite ?_ ?_)
   | (with_reducible refine LeO.bind ?_ (fun _ => ?_))
   | exact ih0 _ _ _
   | exact LeO.none _
   | refine LeO.ite ?_ ?_
   | refine LeO.bind ?_ (fun _ => ?_)
set_option maxHeartbeats 8000000 in
set_option maxRecDepth 100000 in
theorem locks_wrong.calls (k : Nat) (A0 : Option Addr) (c0 : Nat) (l0 : List (S35)) (r : Int) (w : World) (hr0 : Kd.C k35 w A0 l0.length l0) (hc0 : l0.length ≤ c0) (h : locks_wrong.f k l0 = some r) :
  Calls Try.prog 58 #[.slice A0 l0.length c0] w fun e w' => e = .returned (.int .i64 r) ∧ Below w.heap.size w w' := by
 have hu35 := Try.underlying35
 have HR0 := Aside0.mk hr0
 have HC0 := Aside0.mk hc0
 clear hr0 hc0
 have HB := Aside0.mk (Below.refl w.heap.size w)
 have H : (if (l0.length : Int) > 256 then (some 2) else (locks_wrong.l0 k l0 (l0.length : Int) 0)) = some r := h
 clear h
 by_cases c2 : (l0.length : Int) > 256
 ·rw [if_pos c2] at H
  have c2b0 : decide (256 < (l0.length : Int)) = true := decide_eq_true c2
  have c2b1 : decide (256 < l0.length) = true := decide_eq_true (by omega)
  clear c2
  obtain rfl := Option.some.inj H
  go_enter Try.func58, Try.ntmps58
  go_wp2
  go_ret
  exact ⟨by first | rfl | (simp [errW_none, errW_some] <;> rfl) | (simp [*, errW_none, errW_some] <;> rfl), by repeat (first | (with_reducible first | exact HB.out | apply below_alloc | apply pw_below_drewN | apply below_drew1) | exact HB.out)⟩
 ·rw [if_neg c2] at H
  have c2b0 : decide (256 < (l0.length : Int)) = false := decide_eq_false c2
  have c2b1 : decide (256 < l0.length) = false := decide_eq_false (by omega)
  clear c2
  have H' := Aside0.mk H
  clear H
  go_enter Try.func58, Try.ntmps58
  go_wp2
  go_loopg [10] k (fun kq v10 w' => ∃ (x10_1 : Int), v10 = .int .i64 x10_1 ∧ Aside0 (locks_wrong.l0 kq l0 (l0.length : Int) x10_1 = some r) ∧ Aside0 (kq ≤ k) ∧ Aside0 (Below w.heap.size w w'))
  case atStart => exact ⟨(0), (by first | rfl | (simp; done) | (simp [*]; done)), H', ⟨Nat.le_refl _⟩, ⟨by repeat (first | (with_reducible first | exact HB.out | apply below_alloc | apply pw_below_drewN | apply below_drew1) | exact HB.out)⟩⟩
  case round =>
   clear H'
   try clear c2
   try clear c2b0
   try clear c2b1
   try clear p2
   obtain ⟨x10_1, rfl, HA, HK1, HB⟩ := hrel
   cases gk with
   | zero => exact absurd HA.out (by simp [locks_wrong.l0])
   | succ k1 =>
    have H := HA.out
    clear HA
    simp only [locks_wrong.l0] at H
    by_cases c3 : x10_1 < (l0.length : Int)
    ·rw [if_pos c3] at H
     have c3b0 : decide (x10_1 < (l0.length : Int)) = true := decide_eq_true c3
     clear c3
     by_cases c4 : 0 ≤ x10_1
     ·rw [if_pos c4] at H
      have c4b0 : decide (0 ≤ x10_1) = true := decide_eq_true c4
      clear c4
      by_cases c5 : x10_1 < (l0.length : Int)
      ·rw [if_pos c5] at H
       have c5b0 : decide (x10_1 < (l0.length : Int)) = true := decide_eq_true c5
       clear c5
       by_cases c6 : ((rd_T35 l0 x10_1).f0) = 1
       ·rw [if_pos c6] at H
        have c6b0 : (((rd_T35 l0 x10_1).f0) == 1) = true := beq_iff_eq.mpr c6
        have c6b1 : (((rd_T35 l0 x10_1).f0) != 1) = false := bne_eq_false_iff_eq.mpr c6
        clear c6
        replace H := Option.bind_eq_some_iff.mp H
        obtain ⟨t122, A70, H⟩ := H
        replace H : (if t122 = 0 then (locks_wrong.l0 k1 l0 (l0.length : Int) (wrap64 (x10_1 + 1))) else (some 80)) = some r := H
        have A7 := Aside0.mk A70
        clear A70
        by_cases c8 : t122 = 0
        ·rw [if_pos c8] at H
         have c8b0 : (t122 == 0) = true := beq_iff_eq.mpr c8
         have c8b1 : (t122 != 0) = false := bne_eq_false_iff_eq.mpr c8
         clear c8
         have H' := Aside0.mk H
         clear H
         have p120 : 0 ≤ (x10_1 : Int) := of_decide_eq_true (by first | (with_reducible assumption) | assumption)
         have q120 : x10_1 < (l0.length : Int) := of_decide_eq_true (by first | (with_reducible assumption) | assumption)
         obtain ⟨ad120, A120_7, c120_7, A120_8, c120_8, e120, hx120_0, hx120_1, hx120_2, hx120_3, hx120_4, hx120_5, hx120_6, hx120_7, hx120_8, hl120_7, hi120_7, hl120_8, hi120_8⟩ := at_T35 HR0.out x10_1 p120 q120
         cases e120
         replace hx120_0 := (HB.out.cell (World.block_lt_of_cell? w _ hx120_0)).trans hx120_0
         replace hx120_1 := (HB.out.cell (World.block_lt_of_cell? w _ hx120_1)).trans hx120_1
         replace hx120_2 := (HB.out.cell (World.block_lt_of_cell? w _ hx120_2)).trans hx120_2
         replace hx120_3 := (HB.out.cell (World.block_lt_of_cell? w _ hx120_3)).trans hx120_3
         replace hx120_4 := (HB.out.cell (World.block_lt_of_cell? w _ hx120_4)).trans hx120_4
         replace hx120_5 := (HB.out.cell (World.block_lt_of_cell? w _ hx120_5)).trans hx120_5
         replace hx120_6 := (HB.out.cell (World.block_lt_of_cell? w _ hx120_6)).trans hx120_6
         replace hx120_7 := (HB.out.cell (World.block_lt_of_cell? w _ hx120_7)).trans hx120_7
         replace hx120_8 := (HB.out.cell (World.block_lt_of_cell? w _ hx120_8)).trans hx120_8
         have HR120_7 := Aside0.mk hi120_7
         have HC120_7 := Aside0.mk hl120_7
         clear hi120_7 hl120_7
         have HR120_8 := Aside0.mk hi120_8
         have HC120_8 := Aside0.mk hl120_8
         clear hi120_8 hl120_8
         replace p120 := eq_true p120
         replace q120 := eq_true q120
         go_wp2_with (first | ((with_reducible refine gate_dst (N := 4) rfl ?_); refine box_event ?hg (N := 4) ?hd (cs := #[.int .i64 0, .int .i64 0, .int .i64 0, .int .i64 0, .string (⟨#[]⟩ : ByteArray), .string (⟨#[]⟩ : ByteArray), .bool false, .slice none 0 0, .slice none 0 0]) (t := 35) ?hr ?_; (case hd => rfl); (case hg => rfl); (case hr => first | (go_simp; done) | (go_simp; rfl)); intro gb121 hg w9 hbox hb; have n0_ := Aside0.mk (below_step (by repeat (first | (with_reducible first | exact HB.out | apply below_alloc | apply pw_below_drewN | apply below_drew1) | exact HB.out)) hb); have n1_ := Aside0.mk (hbox); have n2_ := Aside0.mk ((by rw [hg]; exact (below_size (by repeat (first | (with_reducible first | exact HB.out | apply below_alloc | apply pw_below_drewN | apply below_drew1) | exact HB.out))) : w.heap.size ≤ gb121)); have n3_ := Aside0.mk ((by rw [hg]; exact (below_size (by repeat (first | (with_reducible first | exact HB.out | apply below_alloc | apply pw_below_drewN | apply below_drew1) | exact HB.out))) : w.heap.size ≤ gb121)); clear HB; have HB := n0_; have BK121 := n1_; have GW121 := n2_; have GE121 := n3_; clear n0_ n1_ n2_ n3_; clear hb hbox hg; have hcz10_0 : w9.cell? ⟨gb121, 0, none⟩ = some (.int .i64 0) := (blk_cell BK121.out 0).trans rfl; have hcz10_1 : w9.cell? ⟨gb121, 1, none⟩ = some (.int .i64 0) := (blk_cell BK121.out 1).trans rfl; have hcz10_2 : w9.cell? ⟨gb121, 2, none⟩ = some (.int .i64 0) := (blk_cell BK121.out 2).trans rfl; have hcz10_3 : w9.cell? ⟨gb121, 3, none⟩ = some (.int .i64 0) := (blk_cell BK121.out 3).trans rfl; have hcz10_4 : w9.cell? ⟨gb121, 4, none⟩ = some (.string (⟨#[]⟩ : ByteArray)) := (blk_cell BK121.out 4).trans rfl; have hcz10_5 : w9.cell? ⟨gb121, 5, none⟩ = some (.string (⟨#[]⟩ : ByteArray)) := (blk_cell BK121.out 5).trans rfl; have hcz10_6 : w9.cell? ⟨gb121, 6, none⟩ = some (.bool false) := (blk_cell BK121.out 6).trans rfl; have hcz10_7 : w9.cell? ⟨gb121, 7, none⟩ = some (.slice none 0 0) := (blk_cell BK121.out 7).trans rfl; have hcz10_8 : w9.cell? ⟨gb121, 8, none⟩ = some (.slice none 0 0) := (blk_cell BK121.out 8).trans rfl; have hfz10_0 := blk_frozen BK121.out 0; have hfz10_1 := blk_frozen BK121.out 1; have hfz10_2 := blk_frozen BK121.out 2; have hfz10_3 := blk_frozen BK121.out 3; have hfz10_4 := blk_frozen BK121.out 4; have hfz10_5 := blk_frozen BK121.out 5; have hfz10_6 := blk_frozen BK121.out 6; have hfz10_7 := blk_frozen BK121.out 7; have hfz10_8 := blk_frozen BK121.out 8) | (go_at_call 35; (with_reducible refine (record_Check.calls ((rd_T35 l0 x10_1).f0) ((rd_T35 l0 x10_1).f1) ((rd_T35 l0 x10_1).f2) ((rd_T35 l0 x10_1).f3) ((rd_T35 l0 x10_1).f4) ((rd_T35 l0 x10_1).f5) ((rd_T35 l0 x10_1).f6) _ _ ((rd_T35 l0 x10_1).f7) _ _ ((rd_T35 l0 x10_1).f8) t122 _ ?side1 ?side2 ?side3 ?side4 A7.out).mono ?_); (case side1 => exact Kd.C_below HR120_7.out (by repeat (first | (with_reducible first | exact HB.out | apply below_alloc | apply pw_below_drewN | apply below_drew1 | refine below_set ?_ GE121.out) | exact HB.out))); (case side2 => exact HC120_7.out); (case side3 => exact Kd.C_below HR120_8.out (by repeat (first | (with_reducible first | exact HB.out | apply below_alloc | apply pw_below_drewN | apply below_drew1 | refine below_set ?_ GE121.out) | exact HB.out))); (case side4 => exact HC120_8.out); rintro e w11 ⟨rfl, hb⟩; have n0_ := Aside0.mk (blk_below (g := gb121) (o := .cells #[.int .i64 ((rd_T35 l0 x10_1).f0), .int .i64 ((rd_T35 l0 x10_1).f1), .int .i64 ((rd_T35 l0 x10_1).f2), .int .i64 ((rd_T35 l0 x10_1).f3), .string ((rd_T35 l0 x10_1).f4), .string ((rd_T35 l0 x10_1).f5), .bool ((rd_T35 l0 x10_1).f6), .slice A120_7 ((rd_T35 l0 x10_1).f7).length c120_7, .slice A120_8 ((rd_T35 l0 x10_1).f8).length c120_8] 35 (0, 0)) (by (with_reducible repeat (first | refine blk_drewN ?_ _ | refine blk_drew ?_ | refine blk_alloc ?_ _)); refine blk_put (cs := #[.int .i64 ((rd_T35 l0 x10_1).f0), .int .i64 ((rd_T35 l0 x10_1).f1), .int .i64 ((rd_T35 l0 x10_1).f2), .int .i64 ((rd_T35 l0 x10_1).f3), .string ((rd_T35 l0 x10_1).f4), .string ((rd_T35 l0 x10_1).f5), .bool ((rd_T35 l0 x10_1).f6), .slice A120_7 ((rd_T35 l0 x10_1).f7).length c120_7, .slice none 0 0]) ?_ 8 _ rfl; (with_reducible repeat (first | refine blk_drewN ?_ _ | refine blk_drew ?_ | refine blk_alloc ?_ _)); refine blk_put (cs := #[.int .i64 ((rd_T35 l0 x10_1).f0), .int .i64 ((rd_T35 l0 x10_1).f1), .int .i64 ((rd_T35 l0 x10_1).f2), .int .i64 ((rd_T35 l0 x10_1).f3), .string ((rd_T35 l0 x10_1).f4), .string ((rd_T35 l0 x10_1).f5), .bool ((rd_T35 l0 x10_1).f6), .slice none 0 0, .slice none 0 0]) ?_ 7 _ rfl; (with_reducible repeat (first | refine blk_drewN ?_ _ | refine blk_drew ?_ | refine blk_alloc ?_ _)); refine blk_put (cs := #[.int .i64 ((rd_T35 l0 x10_1).f0), .int .i64 ((rd_T35 l0 x10_1).f1), .int .i64 ((rd_T35 l0 x10_1).f2), .int .i64 ((rd_T35 l0 x10_1).f3), .string ((rd_T35 l0 x10_1).f4), .string ((rd_T35 l0 x10_1).f5), .bool false, .slice none 0 0, .slice none 0 0]) ?_ 6 _ rfl; (with_reducible repeat (first | refine blk_drewN ?_ _ | refine blk_drew ?_ | refine blk_alloc ?_ _)); refine blk_put (cs := #[.int .i64 ((rd_T35 l0 x10_1).f0), .int .i64 ((rd_T35 l0 x10_1).f1), .int .i64 ((rd_T35 l0 x10_1).f2), .int .i64 ((rd_T35 l0 x10_1).f3), .string ((rd_T35 l0 x10_1).f4), .string (⟨#[]⟩ : ByteArray), .bool false, .slice none 0 0, .slice none 0 0]) ?_ 5 _ rfl; (with_reducible repeat (first | refine blk_drewN ?_ _ | refine blk_drew ?_ | refine blk_alloc ?_ _)); refine blk_put (cs := #[.int .i64 ((rd_T35 l0 x10_1).f0), .int .i64 ((rd_T35 l0 x10_1).f1), .int .i64 ((rd_T35 l0 x10_1).f2), .int .i64 ((rd_T35 l0 x10_1).f3), .string (⟨#[]⟩ : ByteArray), .string (⟨#[]⟩ : ByteArray), .bool false, .slice none 0 0, .slice none 0 0]) ?_ 4 _ rfl; (with_reducible repeat (first | refine blk_drewN ?_ _ | refine blk_drew ?_ | refine blk_alloc ?_ _)); refine blk_put (cs := #[.int .i64 ((rd_T35 l0 x10_1).f0), .int .i64 ((rd_T35 l0 x10_1).f1), .int .i64 ((rd_T35 l0 x10_1).f2), .int .i64 0, .string (⟨#[]⟩ : ByteArray), .string (⟨#[]⟩ : ByteArray), .bool false, .slice none 0 0, .slice none 0 0]) ?_ 3 _ rfl; (with_reducible repeat (first | refine blk_drewN ?_ _ | refine blk_drew ?_ | refine blk_alloc ?_ _)); refine blk_put (cs := #[.int .i64 ((rd_T35 l0 x10_1).f0), .int .i64 ((rd_T35 l0 x10_1).f1), .int .i64 0, .int .i64 0, .string (⟨#[]⟩ : ByteArray), .string (⟨#[]⟩ : ByteArray), .bool false, .slice none 0 0, .slice none 0 0]) ?_ 2 _ rfl; (with_reducible repeat (first | refine blk_drewN ?_ _ | refine blk_drew ?_ | refine blk_alloc ?_ _)); refine blk_put (cs := #[.int .i64 ((rd_T35 l0 x10_1).f0), .int .i64 0, .int .i64 0, .int .i64 0, .string (⟨#[]⟩ : ByteArray), .string (⟨#[]⟩ : ByteArray), .bool false, .slice none 0 0, .slice none 0 0]) ?_ 1 _ rfl; (with_reducible repeat (first | refine blk_drewN ?_ _ | refine blk_drew ?_ | refine blk_alloc ?_ _)); refine blk_put (cs := #[.int .i64 0, .int .i64 0, .int .i64 0, .int .i64 0, .string (⟨#[]⟩ : ByteArray), .string (⟨#[]⟩ : ByteArray), .bool false, .slice none 0 0, .slice none 0 0]) ?_ 0 _ rfl; (with_reducible repeat (first | refine blk_drewN ?_ _ | refine blk_drew ?_ | refine blk_alloc ?_ _)); exact BK121.out) hb); have n1_ := Aside0.mk (below_step (by repeat (first | (with_reducible first | exact HB.out | apply below_alloc | apply pw_below_drewN | apply below_drew1 | refine below_set ?_ GE121.out) | exact HB.out)) hb); clear BK121; clear HB; have BK121 := n0_; have HB := n1_; clear n0_ n1_; (try clear hb); (try clear hb2); (try clear hk); (try clear hi)))
         go_roundg k1
         case measure => have := HK1.out; omega
         case rel => exact ⟨(wrap64 (x10_1 + 1)), (by first | rfl | (simp; done) | (simp [*]; done)), H', ⟨by have := HK1.out; omega⟩, ⟨by repeat (first | (with_reducible first | exact HB.out | apply below_alloc | apply pw_below_drewN | apply below_drew1 | refine below_set ?_ GE121.out) | exact HB.out)⟩⟩
        ·rw [if_neg c8] at H
         have c8b0 : (t122 == 0) = false := beq_eq_false_iff_ne.mpr c8
         have c8b1 : (t122 != 0) = true := bne_iff_ne.mpr c8
         obtain rfl := Option.some.inj H
         have p120 : 0 ≤ (x10_1 : Int) := of_decide_eq_true (by first | (with_reducible assumption) | assumption)
         have q120 : x10_1 < (l0.length : Int) := of_decide_eq_true (by first | (with_reducible assumption) | assumption)
         obtain ⟨ad120, A120_7, c120_7, A120_8, c120_8, e120, hx120_0, hx120_1, hx120_2, hx120_3, hx120_4, hx120_5, hx120_6, hx120_7, hx120_8, hl120_7, hi120_7, hl120_8, hi120_8⟩ := at_T35 HR0.out x10_1 p120 q120
         cases e120
         replace hx120_0 := (HB.out.cell (World.block_lt_of_cell? w _ hx120_0)).trans hx120_0
         replace hx120_1 := (HB.out.cell (World.block_lt_of_cell? w _ hx120_1)).trans hx120_1
         replace hx120_2 := (HB.out.cell (World.block_lt_of_cell? w _ hx120_2)).trans hx120_2
         replace hx120_3 := (HB.out.cell (World.block_lt_of_cell? w _ hx120_3)).trans hx120_3
         replace hx120_4 := (HB.out.cell (World.block_lt_of_cell? w _ hx120_4)).trans hx120_4
         replace hx120_5 := (HB.out.cell (World.block_lt_of_cell? w _ hx120_5)).trans hx120_5
         replace hx120_6 := (HB.out.cell (World.block_lt_of_cell? w _ hx120_6)).trans hx120_6
         replace hx120_7 := (HB.out.cell (World.block_lt_of_cell? w _ hx120_7)).trans hx120_7
         replace hx120_8 := (HB.out.cell (World.block_lt_of_cell? w _ hx120_8)).trans hx120_8
         have HR120_7 := Aside0.mk hi120_7
         have HC120_7 := Aside0.mk hl120_7
         clear hi120_7 hl120_7
         have HR120_8 := Aside0.mk hi120_8
         have HC120_8 := Aside0.mk hl120_8
         clear hi120_8 hl120_8
         replace p120 := eq_true p120
         replace q120 := eq_true q120
         go_wp2_with (first | ((with_reducible refine gate_dst (N := 4) rfl ?_); refine box_event ?hg (N := 4) ?hd (cs := #[.int .i64 0, .int .i64 0, .int .i64 0, .int .i64 0, .string (⟨#[]⟩ : ByteArray), .string (⟨#[]⟩ : ByteArray), .bool false, .slice none 0 0, .slice none 0 0]) (t := 35) ?hr ?_; (case hd => rfl); (case hg => rfl); (case hr => first | (go_simp; done) | (go_simp; rfl)); intro gb121 hg w12 hbox hb; have n0_ := Aside0.mk (below_step (by repeat (first | (with_reducible first | exact HB.out | apply below_alloc | apply pw_below_drewN | apply below_drew1) | exact HB.out)) hb); have n1_ := Aside0.mk (hbox); have n2_ := Aside0.mk ((by rw [hg]; exact (below_size (by repeat (first | (with_reducible first | exact HB.out | apply below_alloc | apply pw_below_drewN | apply below_drew1) | exact HB.out))) : w.heap.size ≤ gb121)); have n3_ := Aside0.mk ((by rw [hg]; exact (below_size (by repeat (first | (with_reducible first | exact HB.out | apply below_alloc | apply pw_below_drewN | apply below_drew1) | exact HB.out))) : w.heap.size ≤ gb121)); clear HB; have HB := n0_; have BK121 := n1_; have GW121 := n2_; have GE121 := n3_; clear n0_ n1_ n2_ n3_; clear hb hbox hg; have hcz13_0 : w12.cell? ⟨gb121, 0, none⟩ = some (.int .i64 0) := (blk_cell BK121.out 0).trans rfl; have hcz13_1 : w12.cell? ⟨gb121, 1, none⟩ = some (.int .i64 0) := (blk_cell BK121.out 1).trans rfl; have hcz13_2 : w12.cell? ⟨gb121, 2, none⟩ = some (.int .i64 0) := (blk_cell BK121.out 2).trans rfl; have hcz13_3 : w12.cell? ⟨gb121, 3, none⟩ = some (.int .i64 0) := (blk_cell BK121.out 3).trans rfl; have hcz13_4 : w12.cell? ⟨gb121, 4, none⟩ = some (.string (⟨#[]⟩ : ByteArray)) := (blk_cell BK121.out 4).trans rfl; have hcz13_5 : w12.cell? ⟨gb121, 5, none⟩ = some (.string (⟨#[]⟩ : ByteArray)) := (blk_cell BK121.out 5).trans rfl; have hcz13_6 : w12.cell? ⟨gb121, 6, none⟩ = some (.bool false) := (blk_cell BK121.out 6).trans rfl; have hcz13_7 : w12.cell? ⟨gb121, 7, none⟩ = some (.slice none 0 0) := (blk_cell BK121.out 7).trans rfl; have hcz13_8 : w12.cell? ⟨gb121, 8, none⟩ = some (.slice none 0 0) := (blk_cell BK121.out 8).trans rfl; have hfz13_0 := blk_frozen BK121.out 0; have hfz13_1 := blk_frozen BK121.out 1; have hfz13_2 := blk_frozen BK121.out 2; have hfz13_3 := blk_frozen BK121.out 3; have hfz13_4 := blk_frozen BK121.out 4; have hfz13_5 := blk_frozen BK121.out 5; have hfz13_6 := blk_frozen BK121.out 6; have hfz13_7 := blk_frozen BK121.out 7; have hfz13_8 := blk_frozen BK121.out 8) | (go_at_call 35; (with_reducible refine (record_Check.calls ((rd_T35 l0 x10_1).f0) ((rd_T35 l0 x10_1).f1) ((rd_T35 l0 x10_1).f2) ((rd_T35 l0 x10_1).f3) ((rd_T35 l0 x10_1).f4) ((rd_T35 l0 x10_1).f5) ((rd_T35 l0 x10_1).f6) _ _ ((rd_T35 l0 x10_1).f7) _ _ ((rd_T35 l0 x10_1).f8) t122 _ ?side1 ?side2 ?side3 ?side4 A7.out).mono ?_); (case side1 => exact Kd.C_below HR120_7.out (by repeat (first | (with_reducible first | exact HB.out | apply below_alloc | apply pw_below_drewN | apply below_drew1 | refine below_set ?_ GE121.out) | exact HB.out))); (case side2 => exact HC120_7.out); (case side3 => exact Kd.C_below HR120_8.out (by repeat (first | (with_reducible first | exact HB.out | apply below_alloc | apply pw_below_drewN | apply below_drew1 | refine below_set ?_ GE121.out) | exact HB.out))); (case side4 => exact HC120_8.out); rintro e w14 ⟨rfl, hb⟩; have n0_ := Aside0.mk (blk_below (g := gb121) (o := .cells #[.int .i64 ((rd_T35 l0 x10_1).f0), .int .i64 ((rd_T35 l0 x10_1).f1), .int .i64 ((rd_T35 l0 x10_1).f2), .int .i64 ((rd_T35 l0 x10_1).f3), .string ((rd_T35 l0 x10_1).f4), .string ((rd_T35 l0 x10_1).f5), .bool ((rd_T35 l0 x10_1).f6), .slice A120_7 ((rd_T35 l0 x10_1).f7).length c120_7, .slice A120_8 ((rd_T35 l0 x10_1).f8).length c120_8] 35 (0, 0)) (by (with_reducible repeat (first | refine blk_drewN ?_ _ | refine blk_drew ?_ | refine blk_alloc ?_ _)); refine blk_put (cs := #[.int .i64 ((rd_T35 l0 x10_1).f0), .int .i64 ((rd_T35 l0 x10_1).f1), .int .i64 ((rd_T35 l0 x10_1).f2), .int .i64 ((rd_T35 l0 x10_1).f3), .string ((rd_T35 l0 x10_1).f4), .string ((rd_T35 l0 x10_1).f5), .bool ((rd_T35 l0 x10_1).f6), .slice A120_7 ((rd_T35 l0 x10_1).f7).length c120_7, .slice none 0 0]) ?_ 8 _ rfl; (with_reducible repeat (first | refine blk_drewN ?_ _ | refine blk_drew ?_ | refine blk_alloc ?_ _)); refine blk_put (cs := #[.int .i64 ((rd_T35 l0 x10_1).f0), .int .i64 ((rd_T35 l0 x10_1).f1), .int .i64 ((rd_T35 l0 x10_1).f2), .int .i64 ((rd_T35 l0 x10_1).f3), .string ((rd_T35 l0 x10_1).f4), .string ((rd_T35 l0 x10_1).f5), .bool ((rd_T35 l0 x10_1).f6), .slice none 0 0, .slice none 0 0]) ?_ 7 _ rfl; (with_reducible repeat (first | refine blk_drewN ?_ _ | refine blk_drew ?_ | refine blk_alloc ?_ _)); refine blk_put (cs := #[.int .i64 ((rd_T35 l0 x10_1).f0), .int .i64 ((rd_T35 l0 x10_1).f1), .int .i64 ((rd_T35 l0 x10_1).f2), .int .i64 ((rd_T35 l0 x10_1).f3), .string ((rd_T35 l0 x10_1).f4), .string ((rd_T35 l0 x10_1).f5), .bool false, .slice none 0 0, .slice none 0 0]) ?_ 6 _ rfl; (with_reducible repeat (first | refine blk_drewN ?_ _ | refine blk_drew ?_ | refine blk_alloc ?_ _)); refine blk_put (cs := #[.int .i64 ((rd_T35 l0 x10_1).f0), .int .i64 ((rd_T35 l0 x10_1).f1), .int .i64 ((rd_T35 l0 x10_1).f2), .int .i64 ((rd_T35 l0 x10_1).f3), .string ((rd_T35 l0 x10_1).f4), .string (⟨#[]⟩ : ByteArray), .bool false, .slice none 0 0, .slice none 0 0]) ?_ 5 _ rfl; (with_reducible repeat (first | refine blk_drewN ?_ _ | refine blk_drew ?_ | refine blk_alloc ?_ _)); refine blk_put (cs := #[.int .i64 ((rd_T35 l0 x10_1).f0), .int .i64 ((rd_T35 l0 x10_1).f1), .int .i64 ((rd_T35 l0 x10_1).f2), .int .i64 ((rd_T35 l0 x10_1).f3), .string (⟨#[]⟩ : ByteArray), .string (⟨#[]⟩ : ByteArray), .bool false, .slice none 0 0, .slice none 0 0]) ?_ 4 _ rfl; (with_reducible repeat (first | refine blk_drewN ?_ _ | refine blk_drew ?_ | refine blk_alloc ?_ _)); refine blk_put (cs := #[.int .i64 ((rd_T35 l0 x10_1).f0), .int .i64 ((rd_T35 l0 x10_1).f1), .int .i64 ((rd_T35 l0 x10_1).f2), .int .i64 0, .string (⟨#[]⟩ : ByteArray), .string (⟨#[]⟩ : ByteArray), .bool false, .slice none 0 0, .slice none 0 0]) ?_ 3 _ rfl; (with_reducible repeat (first | refine blk_drewN ?_ _ | refine blk_drew ?_ | refine blk_alloc ?_ _)); refine blk_put (cs := #[.int .i64 ((rd_T35 l0 x10_1).f0), .int .i64 ((rd_T35 l0 x10_1).f1), .int .i64 0, .int .i64 0, .string (⟨#[]⟩ : ByteArray), .string (⟨#[]⟩ : ByteArray), .bool false, .slice none 0 0, .slice none 0 0]) ?_ 2 _ rfl; (with_reducible repeat (first | refine blk_drewN ?_ _ | refine blk_drew ?_ | refine blk_alloc ?_ _)); refine blk_put (cs := #[.int .i64 ((rd_T35 l0 x10_1).f0), .int .i64 0, .int .i64 0, .int .i64 0, .string (⟨#[]⟩ : ByteArray), .string (⟨#[]⟩ : ByteArray), .bool false, .slice none 0 0, .slice none 0 0]) ?_ 1 _ rfl; (with_reducible repeat (first | refine blk_drewN ?_ _ | refine blk_drew ?_ | refine blk_alloc ?_ _)); refine blk_put (cs := #[.int .i64 0, .int .i64 0, .int .i64 0, .int .i64 0, .string (⟨#[]⟩ : ByteArray), .string (⟨#[]⟩ : ByteArray), .bool false, .slice none 0 0, .slice none 0 0]) ?_ 0 _ rfl; (with_reducible repeat (first | refine blk_drewN ?_ _ | refine blk_drew ?_ | refine blk_alloc ?_ _)); exact BK121.out) hb); have n1_ := Aside0.mk (below_step (by repeat (first | (with_reducible first | exact HB.out | apply below_alloc | apply pw_below_drewN | apply below_drew1 | refine below_set ?_ GE121.out) | exact HB.out)) hb); clear BK121; clear HB; have BK121 := n0_; have HB := n1_; clear n0_ n1_; (try clear hb); (try clear hb2); (try clear hk); (try clear hi)))
         go_ret
         exact ⟨by first | rfl | (simp [errW_none, errW_some] <;> rfl) | (simp [*, errW_none, errW_some] <;> rfl), by repeat (first | (with_reducible first | exact HB.out | apply below_alloc | apply pw_below_drewN | apply below_drew1 | refine below_set ?_ GE121.out) | exact HB.out)⟩
       ·rw [if_neg c6] at H
        have c6b0 : (((rd_T35 l0 x10_1).f0) == 1) = false := beq_eq_false_iff_ne.mpr c6
        have c6b1 : (((rd_T35 l0 x10_1).f0) != 1) = true := bne_iff_ne.mpr c6
        obtain rfl := Option.some.inj H
        have p120 : 0 ≤ (x10_1 : Int) := of_decide_eq_true (by first | (with_reducible assumption) | assumption)
        have q120 : x10_1 < (l0.length : Int) := of_decide_eq_true (by first | (with_reducible assumption) | assumption)
        obtain ⟨ad120, A120_7, c120_7, A120_8, c120_8, e120, hx120_0, hx120_1, hx120_2, hx120_3, hx120_4, hx120_5, hx120_6, hx120_7, hx120_8, hl120_7, hi120_7, hl120_8, hi120_8⟩ := at_T35 HR0.out x10_1 p120 q120
        cases e120
        replace hx120_0 := (HB.out.cell (World.block_lt_of_cell? w _ hx120_0)).trans hx120_0
        replace hx120_1 := (HB.out.cell (World.block_lt_of_cell? w _ hx120_1)).trans hx120_1
        replace hx120_2 := (HB.out.cell (World.block_lt_of_cell? w _ hx120_2)).trans hx120_2
        replace hx120_3 := (HB.out.cell (World.block_lt_of_cell? w _ hx120_3)).trans hx120_3
        replace hx120_4 := (HB.out.cell (World.block_lt_of_cell? w _ hx120_4)).trans hx120_4
        replace hx120_5 := (HB.out.cell (World.block_lt_of_cell? w _ hx120_5)).trans hx120_5
        replace hx120_6 := (HB.out.cell (World.block_lt_of_cell? w _ hx120_6)).trans hx120_6
        replace hx120_7 := (HB.out.cell (World.block_lt_of_cell? w _ hx120_7)).trans hx120_7
        replace hx120_8 := (HB.out.cell (World.block_lt_of_cell? w _ hx120_8)).trans hx120_8
        have HR120_7 := Aside0.mk hi120_7
        have HC120_7 := Aside0.mk hl120_7
        clear hi120_7 hl120_7
        have HR120_8 := Aside0.mk hi120_8
        have HC120_8 := Aside0.mk hl120_8
        clear hi120_8 hl120_8
        replace p120 := eq_true p120
        replace q120 := eq_true q120
        go_wp2_with (first | ((with_reducible refine gate_dst (N := 4) rfl ?_); refine box_event ?hg (N := 4) ?hd (cs := #[.int .i64 0, .int .i64 0, .int .i64 0, .int .i64 0, .string (⟨#[]⟩ : ByteArray), .string (⟨#[]⟩ : ByteArray), .bool false, .slice none 0 0, .slice none 0 0]) (t := 35) ?hr ?_; (case hd => rfl); (case hg => rfl); (case hr => first | (go_simp; done) | (go_simp; rfl)); intro gb121 hg w15 hbox hb; have n0_ := Aside0.mk (below_step (by repeat (first | (with_reducible first | exact HB.out | apply below_alloc | apply pw_below_drewN | apply below_drew1) | exact HB.out)) hb); have n1_ := Aside0.mk (hbox); have n2_ := Aside0.mk ((by rw [hg]; exact (below_size (by repeat (first | (with_reducible first | exact HB.out | apply below_alloc | apply pw_below_drewN | apply below_drew1) | exact HB.out))) : w.heap.size ≤ gb121)); have n3_ := Aside0.mk ((by rw [hg]; exact (below_size (by repeat (first | (with_reducible first | exact HB.out | apply below_alloc | apply pw_below_drewN | apply below_drew1) | exact HB.out))) : w.heap.size ≤ gb121)); clear HB; have HB := n0_; have BK121 := n1_; have GW121 := n2_; have GE121 := n3_; clear n0_ n1_ n2_ n3_; clear hb hbox hg; have hcz16_0 : w15.cell? ⟨gb121, 0, none⟩ = some (.int .i64 0) := (blk_cell BK121.out 0).trans rfl; have hcz16_1 : w15.cell? ⟨gb121, 1, none⟩ = some (.int .i64 0) := (blk_cell BK121.out 1).trans rfl; have hcz16_2 : w15.cell? ⟨gb121, 2, none⟩ = some (.int .i64 0) := (blk_cell BK121.out 2).trans rfl; have hcz16_3 : w15.cell? ⟨gb121, 3, none⟩ = some (.int .i64 0) := (blk_cell BK121.out 3).trans rfl; have hcz16_4 : w15.cell? ⟨gb121, 4, none⟩ = some (.string (⟨#[]⟩ : ByteArray)) := (blk_cell BK121.out 4).trans rfl; have hcz16_5 : w15.cell? ⟨gb121, 5, none⟩ = some (.string (⟨#[]⟩ : ByteArray)) := (blk_cell BK121.out 5).trans rfl; have hcz16_6 : w15.cell? ⟨gb121, 6, none⟩ = some (.bool false) := (blk_cell BK121.out 6).trans rfl; have hcz16_7 : w15.cell? ⟨gb121, 7, none⟩ = some (.slice none 0 0) := (blk_cell BK121.out 7).trans rfl; have hcz16_8 : w15.cell? ⟨gb121, 8, none⟩ = some (.slice none 0 0) := (blk_cell BK121.out 8).trans rfl; have hfz16_0 := blk_frozen BK121.out 0; have hfz16_1 := blk_frozen BK121.out 1; have hfz16_2 := blk_frozen BK121.out 2; have hfz16_3 := blk_frozen BK121.out 3; have hfz16_4 := blk_frozen BK121.out 4; have hfz16_5 := blk_frozen BK121.out 5; have hfz16_6 := blk_frozen BK121.out 6; have hfz16_7 := blk_frozen BK121.out 7; have hfz16_8 := blk_frozen BK121.out 8))
        go_ret
        exact ⟨by first | rfl | (simp [errW_none, errW_some] <;> rfl) | (simp [*, errW_none, errW_some] <;> rfl), by repeat (first | (with_reducible first | exact HB.out | apply below_alloc | apply pw_below_drewN | apply below_drew1 | refine below_set ?_ GE121.out) | exact HB.out)⟩
      ·rw [if_neg c5] at H
       exact absurd H (by simp)
     ·rw [if_neg c4] at H
      exact absurd H (by simp)
    ·rw [if_neg c3] at H
     have c3b0 : decide (x10_1 < (l0.length : Int)) = false := decide_eq_false c3
     clear c3
     obtain rfl := Option.some.inj H
     go_wp2
     go_ret
     exact ⟨by first | rfl | (simp [errW_none, errW_some] <;> rfl) | (simp [*, errW_none, errW_some] <;> rfl), by repeat (first | (with_reducible first | exact HB.out | apply below_alloc | apply pw_below_drewN | apply below_drew1) | exact HB.out)⟩

end Go.Proofs.Ytaldfbmjmpkmmaa.PL
