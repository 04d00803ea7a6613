/- record.Check: what a record has to be. (Written by mkcheck.py of this session out of the kit's print of the function: its steps through the drawn regions; the cases are this session's.) -/
import Derived.Test.YtaldfbmjmpkmmaaM91f659
import Derived.Test.YtaldfbmjmpkmmaaPLf73
import Derived.Test.YtaldfbmjmpkmmaaMc1d7b1
import Derived.Test.YtaldfbmjmpkmmaaM580bbe
namespace Go.Proofs.Ytaldfbmjmpkmmaa.PL
open Go.RowKit Go.Proofs.YtaldfbmjmpkmmaaW.PrintWords Go.Proofs.YtaldfbmjmpkmmaaW.PrintLast Go.Proofs.YtaldfbmjmpkmmaaW.PrintMore
attribute [local go_sem] Mk.str_leq Mk.str_gtr Mk.str_geq max2_int min2_int max_two min_two max_three min_three max_four min_four
set_option linter.unusedVariables false
set_option linter.unusedSimpArgs false
theorem eqA129 (d : Nat) (w : World) (x0 y0 : Int) (x1 y1 : Int) (x2 y2 : Int) (x3 y3 : Int) (x4 y4 : ByteArray) (x5 y5 : ByteArray) (x6 y6 : Bool) :
  (Op.equalIn (d + 2) 129 (.agg #[.int .i64 x0, .int .i64 x1, .int .i64 x2, .int .i64 x3, .string x4, .string x5, .bool x6]) (.agg #[.int .i64 y0, .int .i64 y1, .int .i64 y2, .int .i64 y3, .string y4, .string y5, .bool y6])).run Try.prog w = .ok (x0 == y0 && (x1 == y1 && (x2 == y2 && (x3 == y3 && (x4.toList == y4.toList && (x5.toList == y5.toList && (x6 == y6))))))) w := by
 refine eqA_of Try.underlying129 (by kernel_rfl) ?_
 refine eqf_cons (by rfl) (by go_simp; rfl) (by go_simp; rfl) (by go_simp) ?_
 refine eqf_cons (by rfl) (by go_simp; rfl) (by go_simp; rfl) (by go_simp) ?_
 refine eqf_cons (by rfl) (by go_simp; rfl) (by go_simp; rfl) (by go_simp) ?_
 refine eqf_cons (by rfl) (by go_simp; rfl) (by go_simp; rfl) (by go_simp) ?_
 refine eqf_cons (by rfl) (by go_simp; rfl) (by go_simp; rfl) (by go_simp) ?_
 refine eqf_cons (by rfl) (by go_simp; rfl) (by go_simp; rfl) (by go_simp) ?_
 exact eqf_last (by rfl) (by go_simp; rfl) (by go_simp; rfl) (by go_simp)
attribute [local go_sem high] eqA129
def rangeBad (a1 a2 a3 : Int) : Bool := decide (a1 < 0) || (decide (1125899906842623 < a1) || (decide (a2 < 0) || (decide (1125899906842624 < a2) || (decide (a3 < 0) || decide (16 ≤ a3)))))
def bareB (a4 a5 : ByteArray) (a6 : Bool) : Bool := a4.toList.isEmpty && (a5.toList.isEmpty && !a6)
def noneB (l7 : List ByteArray) (l8 : List S56) : Bool := l7.isEmpty && l8.isEmpty
def recOk (a0 a1 a2 a3 : Int) (a4 a5 : ByteArray) (a6 : Bool) (l7 : List ByteArray) (l8 : List S56) : Bool :=
  if a0 = 1 then (listedB l7 l8 && decide (0 < a1)) && bareB a4 a5 a6
  else noneB l7 l8 && (
    if a0 = 2 then decide (0 < a1) && (a3 == 0 && bareB a4 a5 a6)
    else if a0 = 5 then decide (0 < a1) && (decide (0 < a2) && (a3 == 0 && bareB a4 a5 a6))
    else if a0 = 6 then decide (0 < a1) && (a2 == 0 && (a3 == 0 && bareB a4 a5 a6))
    else if a0 = 3 then decide (0 < a2) && (keyB a4 && (decide (a5.size ≤ 2052) && (!(a6 && !a5.toList.isEmpty) && (a1 == 0 && a3 == 0))))
    else if a0 = 4 then a1 == 0 && (a3 == 0 && bareB a4 a5 a6)
    else if a0 = 7 then decide (0 < a2) && (a1 == 0 && (a3 == 0 && bareB a4 a5 a6))
    else false)
def recV (a0 a1 a2 a3 : Int) (a4 a5 : ByteArray) (a6 : Bool) (l7 : List ByteArray) (l8 : List S56) : Int :=
  if rangeBad a1 a2 a3 = true then 80 else if recOk a0 a1 a2 a3 a4 a5 a6 l7 l8 = true then 0 else 80
def record_Check.f (a0_0 : Int) (a0_1 : Int) (a0_2 : Int) (a0_3 : Int) (a0_4 : ByteArray) (a0_5 : ByteArray) (a0_6 : Bool) (l0_7 : List ByteArray) (l0_8 : List (S56)) : Option (Int) :=
  if l0_7.length < 8796093022208 ∧ l0_8.length < 8796093022208 then some (recV a0_0 a0_1 a0_2 a0_3 a0_4 a0_5 a0_6 l0_7 l0_8) else none
theorem check_small {a0 a1 a2 a3 : Int} {a4 a5 : ByteArray} {a6 : Bool} {l7 : List ByteArray} {l8 : List S56} {r : Int} (h : record_Check.f a0 a1 a2 a3 a4 a5 a6 l7 l8 = some r) : l7.length < 8796093022208 ∧ l8.length < 8796093022208 := by
  unfold record_Check.f at h
  split at h
  · assumption
  · cases h
theorem check_val {a0 a1 a2 a3 : Int} {a4 a5 : ByteArray} {a6 : Bool} {l7 : List ByteArray} {l8 : List S56} {r : Int} (h : record_Check.f a0 a1 a2 a3 a4 a5 a6 l7 l8 = some r) : r = recV a0 a1 a2 a3 a4 a5 a6 l7 l8 := by
  unfold record_Check.f at h
  split at h
  · injection h with h; exact h.symm
  · cases h
theorem check_bad {a0 a1 a2 a3 : Int} {a4 a5 : ByteArray} {a6 : Bool} {l7 : List ByteArray} {l8 : List S56} {r : Int} (h : r = recV a0 a1 a2 a3 a4 a5 a6 l7 l8) (hb : rangeBad a1 a2 a3 = true) : r = 80 := by
  rw [h]; unfold recV; rw [if_pos hb]
theorem check_good {a0 a1 a2 a3 : Int} {a4 a5 : ByteArray} {a6 : Bool} {l7 : List ByteArray} {l8 : List S56} {r : Int} (h : r = recV a0 a1 a2 a3 a4 a5 a6 l7 l8) (hb : rangeBad a1 a2 a3 = false) : r = if recOk a0 a1 a2 a3 a4 a5 a6 l7 l8 = true then 0 else 80 := by
  rw [h]; unfold recV; rw [if_neg (by rw [hb]; decide)]
theorem ok1 {a0 a1 a2 a3 : Int} {a4 a5 : ByteArray} {a6 : Bool} {l7 : List ByteArray} {l8 : List S56} (h : a0 = 1) : recOk a0 a1 a2 a3 a4 a5 a6 l7 l8 = ((listedB l7 l8 && decide (0 < a1)) && bareB a4 a5 a6) := by
  subst h; rfl
theorem ok2 {a0 a1 a2 a3 : Int} {a4 a5 : ByteArray} {a6 : Bool} {l7 : List ByteArray} {l8 : List S56} (h : a0 = 2) : recOk a0 a1 a2 a3 a4 a5 a6 l7 l8 = (noneB l7 l8 && (decide (0 < a1) && (a3 == 0 && bareB a4 a5 a6))) := by
  subst h; rfl
theorem ok5 {a0 a1 a2 a3 : Int} {a4 a5 : ByteArray} {a6 : Bool} {l7 : List ByteArray} {l8 : List S56} (h : a0 = 5) : recOk a0 a1 a2 a3 a4 a5 a6 l7 l8 = (noneB l7 l8 && (decide (0 < a1) && (decide (0 < a2) && (a3 == 0 && bareB a4 a5 a6)))) := by
  subst h; rfl
theorem ok6 {a0 a1 a2 a3 : Int} {a4 a5 : ByteArray} {a6 : Bool} {l7 : List ByteArray} {l8 : List S56} (h : a0 = 6) : recOk a0 a1 a2 a3 a4 a5 a6 l7 l8 = (noneB l7 l8 && (decide (0 < a1) && (a2 == 0 && (a3 == 0 && bareB a4 a5 a6)))) := by
  subst h; rfl
theorem ok3 {a0 a1 a2 a3 : Int} {a4 a5 : ByteArray} {a6 : Bool} {l7 : List ByteArray} {l8 : List S56} (h : a0 = 3) : recOk a0 a1 a2 a3 a4 a5 a6 l7 l8 = (noneB l7 l8 && (decide (0 < a2) && (keyB a4 && (decide (a5.size ≤ 2052) && (!(a6 && !a5.toList.isEmpty) && (a1 == 0 && a3 == 0)))))) := by
  subst h; rfl
theorem ok4 {a0 a1 a2 a3 : Int} {a4 a5 : ByteArray} {a6 : Bool} {l7 : List ByteArray} {l8 : List S56} (h : a0 = 4) : recOk a0 a1 a2 a3 a4 a5 a6 l7 l8 = (noneB l7 l8 && (a1 == 0 && (a3 == 0 && bareB a4 a5 a6))) := by
  subst h; rfl
theorem ok7 {a0 a1 a2 a3 : Int} {a4 a5 : ByteArray} {a6 : Bool} {l7 : List ByteArray} {l8 : List S56} (h : a0 = 7) : recOk a0 a1 a2 a3 a4 a5 a6 l7 l8 = (noneB l7 l8 && (decide (0 < a2) && (a1 == 0 && (a3 == 0 && bareB a4 a5 a6)))) := by
  subst h; rfl
theorem ok0 {a0 a1 a2 a3 : Int} {a4 a5 : ByteArray} {a6 : Bool} {l7 : List ByteArray} {l8 : List S56} (k1 : ¬ a0 = 1) (k2 : ¬ a0 = 2) (k5 : ¬ a0 = 5) (k6 : ¬ a0 = 6) (k3 : ¬ a0 = 3) (k4 : ¬ a0 = 4) (k7 : ¬ a0 = 7) : recOk a0 a1 a2 a3 a4 a5 a6 l7 l8 = false := by
  unfold recOk; rw [if_neg k1, if_neg k2, if_neg k5, if_neg k6, if_neg k3, if_neg k4, if_neg k7, Bool.and_false]
theorem none_eq (l7 : List ByteArray) (l8 : List S56) (h7 : l7.length < 8796093022208) (h8 : l8.length < 8796093022208) : (wrap64 ((l7.length : Int) + (l8.length : Int)) == 0) = noneB l7 l8 := by
  rw [w64 _ (by omega) (by omega)]
  unfold noneB
  cases l7 <;> cases l8 <;> simp <;> omega
theorem emp (a : ByteArray) : ((⟨#[]⟩ : ByteArray).toList == a.toList) = a.toList.isEmpty := by
  have he : ((⟨#[]⟩ : ByteArray).toList = ([] : List UInt8)) := by simp [ByteArray.toList, ByteArray.toList.loop, ByteArray.size]
  rw [he]; cases a.toList <;> rfl
theorem beq0 (a : Int) : ((0 : Int) == a) = (a == 0) := by rw [Bool.eq_iff_iff, beq_iff_eq, beq_iff_eq]; exact eq_comm
theorem ne1 {a0 a1 a2 a3 : Int} {a4 a5 : ByteArray} {a6 : Bool} {l7 : List ByteArray} {l8 : List S56} {t0 t1 t2 t3 : Int} {t4 t5 : ByteArray} {t6 : Bool} (h : record_bare.f a0 a1 a2 a3 a4 a5 a6 l7 l8 = some (t0, t1, t2, t3, t4, t5, t6)) : (!(t0 == a0) || (!(t1 == a1) || (!(t2 == a2) || (!(t4.toList == a4.toList) || (!(t5.toList == a5.toList) || (!(t6 == a6))))))) = !bareB a4 a5 a6 := by
  simp only [record_bare.f, Option.some.injEq, Prod.mk.injEq] at h
  obtain ⟨rfl, rfl, rfl, rfl, rfl, rfl, rfl⟩ := h
  simp only [emp, beq0, beq_self_eq_true, Bool.not_true, Bool.false_or, bareB, Bool.not_and, Bool.not_not]
  try (cases a6 <;> simp)
theorem ne2 {a0 a1 a2 a3 : Int} {a4 a5 : ByteArray} {a6 : Bool} {l7 : List ByteArray} {l8 : List S56} {t0 t1 t2 t3 : Int} {t4 t5 : ByteArray} {t6 : Bool} (h : record_bare.f a0 a1 a2 a3 a4 a5 a6 l7 l8 = some (t0, t1, t2, t3, t4, t5, t6)) : (!(t0 == a0) || (!(t1 == a1) || (!(t2 == a2) || (!(t3 == a3) || (!(t4.toList == a4.toList) || (!(t5.toList == a5.toList) || (!(t6 == a6)))))))) = !(a3 == 0 && bareB a4 a5 a6) := by
  simp only [record_bare.f, Option.some.injEq, Prod.mk.injEq] at h
  obtain ⟨rfl, rfl, rfl, rfl, rfl, rfl, rfl⟩ := h
  simp only [emp, beq0, beq_self_eq_true, Bool.not_true, Bool.false_or, bareB, Bool.not_and, Bool.not_not]
  try (cases a6 <;> simp)
theorem ne5 {a0 a1 a2 a3 : Int} {a4 a5 : ByteArray} {a6 : Bool} {l7 : List ByteArray} {l8 : List S56} {t0 t1 t2 t3 : Int} {t4 t5 : ByteArray} {t6 : Bool} (h : record_bare.f a0 a1 a2 a3 a4 a5 a6 l7 l8 = some (t0, t1, t2, t3, t4, t5, t6)) : (!(t0 == a0) || (!(t1 == a1) || (!(t2 == a2) || (!(t3 == a3) || (!(t4.toList == a4.toList) || (!(t5.toList == a5.toList) || (!(t6 == a6)))))))) = !(a3 == 0 && bareB a4 a5 a6) := by
  simp only [record_bare.f, Option.some.injEq, Prod.mk.injEq] at h
  obtain ⟨rfl, rfl, rfl, rfl, rfl, rfl, rfl⟩ := h
  simp only [emp, beq0, beq_self_eq_true, Bool.not_true, Bool.false_or, bareB, Bool.not_and, Bool.not_not]
  try (cases a6 <;> simp)
theorem ne6 {a0 a1 a2 a3 : Int} {a4 a5 : ByteArray} {a6 : Bool} {l7 : List ByteArray} {l8 : List S56} {t0 t1 t2 t3 : Int} {t4 t5 : ByteArray} {t6 : Bool} (h : record_bare.f a0 a1 a2 a3 a4 a5 a6 l7 l8 = some (t0, t1, t2, t3, t4, t5, t6)) : (!(t0 == a0) || (!(t1 == a1) || (!(0 == a2) || (!(t3 == a3) || (!(t4.toList == a4.toList) || (!(t5.toList == a5.toList) || (!(t6 == a6)))))))) = !(a2 == 0 && (a3 == 0 && bareB a4 a5 a6)) := by
  simp only [record_bare.f, Option.some.injEq, Prod.mk.injEq] at h
  obtain ⟨rfl, rfl, rfl, rfl, rfl, rfl, rfl⟩ := h
  simp only [emp, beq0, beq_self_eq_true, Bool.not_true, Bool.false_or, bareB, Bool.not_and, Bool.not_not]
  try (cases a6 <;> simp)
theorem ne3 {a0 a1 a2 a3 : Int} {a4 a5 : ByteArray} {a6 : Bool} {l7 : List ByteArray} {l8 : List S56} {t0 t1 t2 t3 : Int} {t4 t5 : ByteArray} {t6 : Bool} (h : record_bare.f a0 a1 a2 a3 a4 a5 a6 l7 l8 = some (t0, t1, t2, t3, t4, t5, t6)) : (!(0 == a1) || (!(0 == a3))) = !(a1 == 0 && a3 == 0) := by
  simp only [record_bare.f, Option.some.injEq, Prod.mk.injEq] at h
  obtain ⟨rfl, rfl, rfl, rfl, rfl, rfl, rfl⟩ := h
  simp only [emp, beq0, beq_self_eq_true, Bool.not_true, Bool.false_or, bareB, Bool.not_and, Bool.not_not]
  try (cases a6 <;> simp)
theorem ne4 {a0 a1 a2 a3 : Int} {a4 a5 : ByteArray} {a6 : Bool} {l7 : List ByteArray} {l8 : List S56} {t0 t1 t2 t3 : Int} {t4 t5 : ByteArray} {t6 : Bool} (h : record_bare.f a0 a1 a2 a3 a4 a5 a6 l7 l8 = some (t0, t1, t2, t3, t4, t5, t6)) : (!(t0 == a0) || (!(0 == a1) || (!(t2 == a2) || (!(t3 == a3) || (!(t4.toList == a4.toList) || (!(t5.toList == a5.toList) || (!(t6 == a6)))))))) = !(a1 == 0 && (a3 == 0 && bareB a4 a5 a6)) := by
  simp only [record_bare.f, Option.some.injEq, Prod.mk.injEq] at h
  obtain ⟨rfl, rfl, rfl, rfl, rfl, rfl, rfl⟩ := h
  simp only [emp, beq0, beq_self_eq_true, Bool.not_true, Bool.false_or, bareB, Bool.not_and, Bool.not_not]
  try (cases a6 <;> simp)
theorem ne7 {a0 a1 a2 a3 : Int} {a4 a5 : ByteArray} {a6 : Bool} {l7 : List ByteArray} {l8 : List S56} {t0 t1 t2 t3 : Int} {t4 t5 : ByteArray} {t6 : Bool} (h : record_bare.f a0 a1 a2 a3 a4 a5 a6 l7 l8 = some (t0, t1, t2, t3, t4, t5, t6)) : (!(t0 == a0) || (!(0 == a1) || (!(t2 == a2) || (!(t3 == a3) || (!(t4.toList == a4.toList) || (!(t5.toList == a5.toList) || (!(t6 == a6)))))))) = !(a1 == 0 && (a3 == 0 && bareB a4 a5 a6)) := by
  simp only [record_bare.f, Option.some.injEq, Prod.mk.injEq] at h
  obtain ⟨rfl, rfl, rfl, rfl, rfl, rfl, rfl⟩ := h
  simp only [emp, beq0, beq_self_eq_true, Bool.not_true, Bool.false_or, bareB, Bool.not_and, Bool.not_not]
  try (cases a6 <;> simp)
def record_Check.T3 : Bool × List (List Nat × List Nat) := (true, [([], []), ([0], [0]), ([], []), ([2], [2]), ([3], [3]), ([], []), ([5], [5]), ([6], [6]), ([4, 7], [4, 7]), ([8], [8]), ([], []), ([10, 1, 1, 0, 1, 10], [1, 10]), ([9, 11, 0, 1, 2, 3, 4, 5, 6, 7, 8, 9, 10, 11], [9])])
def record_Check.B3 : List Nat := [0, 1, 0, 4, 12, 0, 32, 96, 252, 508, 0, 1027, 4095]
theorem record_Check.tab3 : rtab .any (opsOf Try.f35 3) = record_Check.T3 := by kernel_rfl
theorem record_Check.bits3 : waitsOk record_Check.T3.2 record_Check.B3 = true := by kernel_rfl
def record_Check.T7 : Bool × List (List Nat × List Nat) := (true, [([], []), ([0], [0]), ([], []), ([2], [2]), ([3, 3], [3]), ([4], [4]), ([5, 4], [4, 5]), ([6, 4], [4, 6]), ([4, 7], [4, 7]), ([0, 1], []), ([9, 1, 4, 0, 1], [1, 9]), ([8, 10, 0, 1, 2, 3, 4, 5, 6, 7, 8, 9, 10], [8])])
def record_Check.B7 : List Nat := [0, 1, 0, 4, 12, 28, 60, 124, 252, 3, 543, 2047]
theorem record_Check.tab7 : rtab .any (opsOf Try.f35 7) = record_Check.T7 := by kernel_rfl
theorem record_Check.bits7 : waitsOk record_Check.T7.2 record_Check.B7 = true := by kernel_rfl
def record_Check.T13 : Bool × List (List Nat × List Nat) := (true, [([], []), ([0], [0]), ([1], [1]), ([2, 1], [1, 2]), ([3, 1], [1, 3]), ([1, 4], [1, 4]), ([], []), ([6, 1], [6]), ([5, 7, 0, 1, 2, 3, 4, 5, 6, 7], [0, 5])])
def record_Check.B13 : List Nat := [0, 1, 3, 7, 15, 31, 0, 67, 255]
theorem record_Check.tab13 : rtab .any (opsOf Try.f35 13) = record_Check.T13 := by kernel_rfl
theorem record_Check.bits13 : waitsOk record_Check.T13.2 record_Check.B13 = true := by kernel_rfl
def record_Check.T20 : Bool × List (List Nat × List Nat) := (true, [([], []), ([0], [0]), ([1], [1]), ([2, 1], [1, 2]), ([3, 1], [1, 3]), ([1, 4], [1, 4]), ([], []), ([6, 1], [6]), ([5, 7, 0, 1, 2, 3, 4, 5, 6, 7], [0, 5])])
def record_Check.B20 : List Nat := [0, 1, 3, 7, 15, 31, 0, 67, 255]
theorem record_Check.tab20 : rtab .any (opsOf Try.f35 20) = record_Check.T20 := by kernel_rfl
theorem record_Check.bits20 : waitsOk record_Check.T20.2 record_Check.B20 = true := by kernel_rfl
set_option maxHeartbeats 8000000 in
set_option maxRecDepth 100000 in
theorem record_Check.calls (a0_0 : Int) (a0_1 : Int) (a0_2 : Int) (a0_3 : Int) (a0_4 : ByteArray) (a0_5 : ByteArray) (a0_6 : Bool) (A0_7 : Option Addr) (c0_7 : Nat) (l0_7 : List ByteArray) (A0_8 : Option Addr) (c0_8 : Nat) (l0_8 : List (S56)) (r : Int) (w : World) (hr0_7 : Kd.C Kd.string w A0_7 l0_7.length l0_7) (hc0_7 : l0_7.length ≤ c0_7) (hr0_8 : Kd.C k56 w A0_8 l0_8.length l0_8) (hc0_8 : l0_8.length ≤ c0_8) (h : record_Check.f a0_0 a0_1 a0_2 a0_3 a0_4 a0_5 a0_6 l0_7 l0_8 = some r) :
    Calls Try.prog 35 #[.agg #[.int .i64 a0_0, .int .i64 a0_1, .int .i64 a0_2, .int .i64 a0_3, .string a0_4, .string a0_5, .bool a0_6, .slice A0_7 l0_7.length c0_7, .slice A0_8 l0_8.length c0_8]] w fun e w' => e = .returned (.int .i64 r) ∧ Below w.heap.size w w' := by
 have hu35 := Try.underlying35
 have hu129 := Try.underlying129
 have HR0_7 := Aside0.mk hr0_7
 have HC0_7 := Aside0.mk hc0_7
 have HR0_8 := Aside0.mk hr0_8
 have HC0_8 := Aside0.mk hc0_8
 have HSM := Aside0.mk (check_small h)
 have HRV := Aside0.mk (check_val h)
 clear hr0_7 hc0_7 hr0_8 hc0_8 h
 have HB := Aside0.mk (Below.refl w.heap.size w)
 go_enter Try.func35, Try.ntmps35
 go_upto_region 1 with (first | ((with_reducible refine gate_dst (N := 1) rfl ?_); (try (refine gate_guard (by rfl) ?_; dsimp only)); refine box_event ?hg (N := 1) ?hd (cs := #[.int .i64 a0_0, .int .i64 a0_1, .int .i64 a0_2, .int .i64 a0_3, .string a0_4, .string a0_5, .bool a0_6, .slice A0_7 l0_7.length c0_7, .slice A0_8 l0_8.length c0_8]) (t := 35) ?hr ?_; (case hd => rfl); (case hg => rfl); (case hr => first | (go_simp; done) | (go_simp; rfl)); intro gb103 hg w3 hbox hb; have n0_ := Aside0.mk (below_step (by repeat (first | (with_reducible first | exact HB.out | apply below_alloc | apply pw_below_drewN | apply below_drew1) | exact HB.out)) hb); have n1_ := Aside0.mk (hbox); have n2_ := Aside0.mk ((by rw [hg]; exact (below_size (by repeat (first | (with_reducible first | exact HB.out | apply below_alloc | apply pw_below_drewN | apply below_drew1) | exact HB.out))) : w.heap.size ≤ gb103)); have n3_ := Aside0.mk ((by rw [hg]; exact (below_size (by repeat (first | (with_reducible first | exact HB.out | apply below_alloc | apply pw_below_drewN | apply below_drew1) | exact HB.out))) : w.heap.size ≤ gb103)); clear HB; have HB := n0_; have BK103 := n1_; have GW103 := n2_; have GE103 := n3_; clear n0_ n1_ n2_ n3_; clear hb hbox hg))
 (try simp only [Act.put, List.setIfInBounds_toArray, List.set_cons_zero, List.set_cons_succ])
 go_cut [32] (fun v32 wc => v32 = .bool (rangeBad a0_1 a0_2 a0_3) ∧ Aside0 (wc.heap[gb103]? = some (.cells #[.int .i64 a0_0, .int .i64 a0_1, .int .i64 a0_2, .int .i64 a0_3, .string a0_4, .string a0_5, .bool a0_6, .slice A0_7 l0_7.length c0_7, .slice A0_8 l0_8.length c0_8] 35 (0, 0))) ∧ Aside0 (Below w.heap.size w wc))
 case first =>
  by_cases c0 : a0_1 < 0
  · have cb0 : decide (a0_1 < 0) = true := decide_eq_true c0
    clear c0
    have HK := Aside0.mk (show rangeBad a0_1 a0_2 a0_3 = true by unfold rangeBad; simp only [cb0, Bool.false_or, Bool.true_or, Bool.or_true, Bool.or_false])
    have hcza0y_0 : w3.cell? ⟨gb103, 0, none⟩ = some (.int .i64 a0_0) := (blk_cell BK103.out 0).trans rfl
    have hcza0y_1 : w3.cell? ⟨gb103, 1, none⟩ = some (.int .i64 a0_1) := (blk_cell BK103.out 1).trans rfl
    have hcza0y_2 : w3.cell? ⟨gb103, 2, none⟩ = some (.int .i64 a0_2) := (blk_cell BK103.out 2).trans rfl
    have hcza0y_3 : w3.cell? ⟨gb103, 3, none⟩ = some (.int .i64 a0_3) := (blk_cell BK103.out 3).trans rfl
    have hcza0y_4 : w3.cell? ⟨gb103, 4, none⟩ = some (.string a0_4) := (blk_cell BK103.out 4).trans rfl
    have hcza0y_5 : w3.cell? ⟨gb103, 5, none⟩ = some (.string a0_5) := (blk_cell BK103.out 5).trans rfl
    have hcza0y_6 : w3.cell? ⟨gb103, 6, none⟩ = some (.bool a0_6) := (blk_cell BK103.out 6).trans rfl
    have hcza0y_7 : w3.cell? ⟨gb103, 7, none⟩ = some (.slice A0_7 l0_7.length c0_7) := (blk_cell BK103.out 7).trans rfl
    have hcza0y_8 : w3.cell? ⟨gb103, 8, none⟩ = some (.slice A0_8 l0_8.length c0_8) := (blk_cell BK103.out 8).trans rfl
    have hfza0y_0 := blk_frozen BK103.out 0
    have hfza0y_1 := blk_frozen BK103.out 1
    have hfza0y_2 := blk_frozen BK103.out 2
    have hfza0y_3 := blk_frozen BK103.out 3
    have hfza0y_4 := blk_frozen BK103.out 4
    have hfza0y_5 := blk_frozen BK103.out 5
    have hfza0y_6 := blk_frozen BK103.out 6
    have hfza0y_7 := blk_frozen BK103.out 7
    have hfza0y_8 := blk_frozen BK103.out 8
    go_wp2
    go_meet
    case rel => exact ⟨by rw [HK.out], ⟨by (with_reducible repeat (first | refine blk_drewN ?_ _ | refine blk_drew ?_ | refine blk_alloc ?_ _)); exact BK103.out⟩, ⟨by repeat (first | (with_reducible first | exact HB.out | apply below_alloc | apply pw_below_drewN | apply below_drew1 | refine below_set ?_ GE103.out) | exact HB.out)⟩⟩
  have cb0 : decide (a0_1 < 0) = false := decide_eq_false c0
  clear c0
  by_cases c1 : 1125899906842623 < a0_1
  · have cb1 : decide (1125899906842623 < a0_1) = true := decide_eq_true c1
    clear c1
    have HK := Aside0.mk (show rangeBad a0_1 a0_2 a0_3 = true by unfold rangeBad; simp only [cb0, cb1, Bool.false_or, Bool.true_or, Bool.or_true, Bool.or_false])
    have hcza1y_0 : w3.cell? ⟨gb103, 0, none⟩ = some (.int .i64 a0_0) := (blk_cell BK103.out 0).trans rfl
    have hcza1y_1 : w3.cell? ⟨gb103, 1, none⟩ = some (.int .i64 a0_1) := (blk_cell BK103.out 1).trans rfl
    have hcza1y_2 : w3.cell? ⟨gb103, 2, none⟩ = some (.int .i64 a0_2) := (blk_cell BK103.out 2).trans rfl
    have hcza1y_3 : w3.cell? ⟨gb103, 3, none⟩ = some (.int .i64 a0_3) := (blk_cell BK103.out 3).trans rfl
    have hcza1y_4 : w3.cell? ⟨gb103, 4, none⟩ = some (.string a0_4) := (blk_cell BK103.out 4).trans rfl
    have hcza1y_5 : w3.cell? ⟨gb103, 5, none⟩ = some (.string a0_5) := (blk_cell BK103.out 5).trans rfl
    have hcza1y_6 : w3.cell? ⟨gb103, 6, none⟩ = some (.bool a0_6) := (blk_cell BK103.out 6).trans rfl
    have hcza1y_7 : w3.cell? ⟨gb103, 7, none⟩ = some (.slice A0_7 l0_7.length c0_7) := (blk_cell BK103.out 7).trans rfl
    have hcza1y_8 : w3.cell? ⟨gb103, 8, none⟩ = some (.slice A0_8 l0_8.length c0_8) := (blk_cell BK103.out 8).trans rfl
    have hfza1y_0 := blk_frozen BK103.out 0
    have hfza1y_1 := blk_frozen BK103.out 1
    have hfza1y_2 := blk_frozen BK103.out 2
    have hfza1y_3 := blk_frozen BK103.out 3
    have hfza1y_4 := blk_frozen BK103.out 4
    have hfza1y_5 := blk_frozen BK103.out 5
    have hfza1y_6 := blk_frozen BK103.out 6
    have hfza1y_7 := blk_frozen BK103.out 7
    have hfza1y_8 := blk_frozen BK103.out 8
    go_wp2
    go_meet
    case rel => exact ⟨by rw [HK.out], ⟨by (with_reducible repeat (first | refine blk_drewN ?_ _ | refine blk_drew ?_ | refine blk_alloc ?_ _)); exact BK103.out⟩, ⟨by repeat (first | (with_reducible first | exact HB.out | apply below_alloc | apply pw_below_drewN | apply below_drew1 | refine below_set ?_ GE103.out) | exact HB.out)⟩⟩
  have cb1 : decide (1125899906842623 < a0_1) = false := decide_eq_false c1
  clear c1
  by_cases c2 : a0_2 < 0
  · have cb2 : decide (a0_2 < 0) = true := decide_eq_true c2
    clear c2
    have HK := Aside0.mk (show rangeBad a0_1 a0_2 a0_3 = true by unfold rangeBad; simp only [cb0, cb1, cb2, Bool.false_or, Bool.true_or, Bool.or_true, Bool.or_false])
    have hcza2y_0 : w3.cell? ⟨gb103, 0, none⟩ = some (.int .i64 a0_0) := (blk_cell BK103.out 0).trans rfl
    have hcza2y_1 : w3.cell? ⟨gb103, 1, none⟩ = some (.int .i64 a0_1) := (blk_cell BK103.out 1).trans rfl
    have hcza2y_2 : w3.cell? ⟨gb103, 2, none⟩ = some (.int .i64 a0_2) := (blk_cell BK103.out 2).trans rfl
    have hcza2y_3 : w3.cell? ⟨gb103, 3, none⟩ = some (.int .i64 a0_3) := (blk_cell BK103.out 3).trans rfl
    have hcza2y_4 : w3.cell? ⟨gb103, 4, none⟩ = some (.string a0_4) := (blk_cell BK103.out 4).trans rfl
    have hcza2y_5 : w3.cell? ⟨gb103, 5, none⟩ = some (.string a0_5) := (blk_cell BK103.out 5).trans rfl
    have hcza2y_6 : w3.cell? ⟨gb103, 6, none⟩ = some (.bool a0_6) := (blk_cell BK103.out 6).trans rfl
    have hcza2y_7 : w3.cell? ⟨gb103, 7, none⟩ = some (.slice A0_7 l0_7.length c0_7) := (blk_cell BK103.out 7).trans rfl
    have hcza2y_8 : w3.cell? ⟨gb103, 8, none⟩ = some (.slice A0_8 l0_8.length c0_8) := (blk_cell BK103.out 8).trans rfl
    have hfza2y_0 := blk_frozen BK103.out 0
    have hfza2y_1 := blk_frozen BK103.out 1
    have hfza2y_2 := blk_frozen BK103.out 2
    have hfza2y_3 := blk_frozen BK103.out 3
    have hfza2y_4 := blk_frozen BK103.out 4
    have hfza2y_5 := blk_frozen BK103.out 5
    have hfza2y_6 := blk_frozen BK103.out 6
    have hfza2y_7 := blk_frozen BK103.out 7
    have hfza2y_8 := blk_frozen BK103.out 8
    go_wp2
    go_meet
    case rel => exact ⟨by rw [HK.out], ⟨by (with_reducible repeat (first | refine blk_drewN ?_ _ | refine blk_drew ?_ | refine blk_alloc ?_ _)); exact BK103.out⟩, ⟨by repeat (first | (with_reducible first | exact HB.out | apply below_alloc | apply pw_below_drewN | apply below_drew1 | refine below_set ?_ GE103.out) | exact HB.out)⟩⟩
  have cb2 : decide (a0_2 < 0) = false := decide_eq_false c2
  clear c2
  by_cases c3 : 1125899906842624 < a0_2
  · have cb3 : decide (1125899906842624 < a0_2) = true := decide_eq_true c3
    clear c3
    have HK := Aside0.mk (show rangeBad a0_1 a0_2 a0_3 = true by unfold rangeBad; simp only [cb0, cb1, cb2, cb3, Bool.false_or, Bool.true_or, Bool.or_true, Bool.or_false])
    have hcza3y_0 : w3.cell? ⟨gb103, 0, none⟩ = some (.int .i64 a0_0) := (blk_cell BK103.out 0).trans rfl
    have hcza3y_1 : w3.cell? ⟨gb103, 1, none⟩ = some (.int .i64 a0_1) := (blk_cell BK103.out 1).trans rfl
    have hcza3y_2 : w3.cell? ⟨gb103, 2, none⟩ = some (.int .i64 a0_2) := (blk_cell BK103.out 2).trans rfl
    have hcza3y_3 : w3.cell? ⟨gb103, 3, none⟩ = some (.int .i64 a0_3) := (blk_cell BK103.out 3).trans rfl
    have hcza3y_4 : w3.cell? ⟨gb103, 4, none⟩ = some (.string a0_4) := (blk_cell BK103.out 4).trans rfl
    have hcza3y_5 : w3.cell? ⟨gb103, 5, none⟩ = some (.string a0_5) := (blk_cell BK103.out 5).trans rfl
    have hcza3y_6 : w3.cell? ⟨gb103, 6, none⟩ = some (.bool a0_6) := (blk_cell BK103.out 6).trans rfl
    have hcza3y_7 : w3.cell? ⟨gb103, 7, none⟩ = some (.slice A0_7 l0_7.length c0_7) := (blk_cell BK103.out 7).trans rfl
    have hcza3y_8 : w3.cell? ⟨gb103, 8, none⟩ = some (.slice A0_8 l0_8.length c0_8) := (blk_cell BK103.out 8).trans rfl
    have hfza3y_0 := blk_frozen BK103.out 0
    have hfza3y_1 := blk_frozen BK103.out 1
    have hfza3y_2 := blk_frozen BK103.out 2
    have hfza3y_3 := blk_frozen BK103.out 3
    have hfza3y_4 := blk_frozen BK103.out 4
    have hfza3y_5 := blk_frozen BK103.out 5
    have hfza3y_6 := blk_frozen BK103.out 6
    have hfza3y_7 := blk_frozen BK103.out 7
    have hfza3y_8 := blk_frozen BK103.out 8
    go_wp2
    go_meet
    case rel => exact ⟨by rw [HK.out], ⟨by (with_reducible repeat (first | refine blk_drewN ?_ _ | refine blk_drew ?_ | refine blk_alloc ?_ _)); exact BK103.out⟩, ⟨by repeat (first | (with_reducible first | exact HB.out | apply below_alloc | apply pw_below_drewN | apply below_drew1 | refine below_set ?_ GE103.out) | exact HB.out)⟩⟩
  have cb3 : decide (1125899906842624 < a0_2) = false := decide_eq_false c3
  clear c3
  by_cases c4 : a0_3 < 0
  · have cb4 : decide (a0_3 < 0) = true := decide_eq_true c4
    clear c4
    have HK := Aside0.mk (show rangeBad a0_1 a0_2 a0_3 = true by unfold rangeBad; simp only [cb0, cb1, cb2, cb3, cb4, Bool.false_or, Bool.true_or, Bool.or_true, Bool.or_false])
    have hcza4y_0 : w3.cell? ⟨gb103, 0, none⟩ = some (.int .i64 a0_0) := (blk_cell BK103.out 0).trans rfl
    have hcza4y_1 : w3.cell? ⟨gb103, 1, none⟩ = some (.int .i64 a0_1) := (blk_cell BK103.out 1).trans rfl
    have hcza4y_2 : w3.cell? ⟨gb103, 2, none⟩ = some (.int .i64 a0_2) := (blk_cell BK103.out 2).trans rfl
    have hcza4y_3 : w3.cell? ⟨gb103, 3, none⟩ = some (.int .i64 a0_3) := (blk_cell BK103.out 3).trans rfl
    have hcza4y_4 : w3.cell? ⟨gb103, 4, none⟩ = some (.string a0_4) := (blk_cell BK103.out 4).trans rfl
    have hcza4y_5 : w3.cell? ⟨gb103, 5, none⟩ = some (.string a0_5) := (blk_cell BK103.out 5).trans rfl
    have hcza4y_6 : w3.cell? ⟨gb103, 6, none⟩ = some (.bool a0_6) := (blk_cell BK103.out 6).trans rfl
    have hcza4y_7 : w3.cell? ⟨gb103, 7, none⟩ = some (.slice A0_7 l0_7.length c0_7) := (blk_cell BK103.out 7).trans rfl
    have hcza4y_8 : w3.cell? ⟨gb103, 8, none⟩ = some (.slice A0_8 l0_8.length c0_8) := (blk_cell BK103.out 8).trans rfl
    have hfza4y_0 := blk_frozen BK103.out 0
    have hfza4y_1 := blk_frozen BK103.out 1
    have hfza4y_2 := blk_frozen BK103.out 2
    have hfza4y_3 := blk_frozen BK103.out 3
    have hfza4y_4 := blk_frozen BK103.out 4
    have hfza4y_5 := blk_frozen BK103.out 5
    have hfza4y_6 := blk_frozen BK103.out 6
    have hfza4y_7 := blk_frozen BK103.out 7
    have hfza4y_8 := blk_frozen BK103.out 8
    go_wp2
    go_meet
    case rel => exact ⟨by rw [HK.out], ⟨by (with_reducible repeat (first | refine blk_drewN ?_ _ | refine blk_drew ?_ | refine blk_alloc ?_ _)); exact BK103.out⟩, ⟨by repeat (first | (with_reducible first | exact HB.out | apply below_alloc | apply pw_below_drewN | apply below_drew1 | refine below_set ?_ GE103.out) | exact HB.out)⟩⟩
  have cb4 : decide (a0_3 < 0) = false := decide_eq_false c4
  clear c4
  have HK := Aside0.mk (show rangeBad a0_1 a0_2 a0_3 = decide (16 ≤ a0_3) by unfold rangeBad; simp only [cb0, cb1, cb2, cb3, cb4, Bool.false_or, Bool.true_or, Bool.or_true, Bool.or_false])
  have hcza5n_0 : w3.cell? ⟨gb103, 0, none⟩ = some (.int .i64 a0_0) := (blk_cell BK103.out 0).trans rfl
  have hcza5n_1 : w3.cell? ⟨gb103, 1, none⟩ = some (.int .i64 a0_1) := (blk_cell BK103.out 1).trans rfl
  have hcza5n_2 : w3.cell? ⟨gb103, 2, none⟩ = some (.int .i64 a0_2) := (blk_cell BK103.out 2).trans rfl
  have hcza5n_3 : w3.cell? ⟨gb103, 3, none⟩ = some (.int .i64 a0_3) := (blk_cell BK103.out 3).trans rfl
  have hcza5n_4 : w3.cell? ⟨gb103, 4, none⟩ = some (.string a0_4) := (blk_cell BK103.out 4).trans rfl
  have hcza5n_5 : w3.cell? ⟨gb103, 5, none⟩ = some (.string a0_5) := (blk_cell BK103.out 5).trans rfl
  have hcza5n_6 : w3.cell? ⟨gb103, 6, none⟩ = some (.bool a0_6) := (blk_cell BK103.out 6).trans rfl
  have hcza5n_7 : w3.cell? ⟨gb103, 7, none⟩ = some (.slice A0_7 l0_7.length c0_7) := (blk_cell BK103.out 7).trans rfl
  have hcza5n_8 : w3.cell? ⟨gb103, 8, none⟩ = some (.slice A0_8 l0_8.length c0_8) := (blk_cell BK103.out 8).trans rfl
  have hfza5n_0 := blk_frozen BK103.out 0
  have hfza5n_1 := blk_frozen BK103.out 1
  have hfza5n_2 := blk_frozen BK103.out 2
  have hfza5n_3 := blk_frozen BK103.out 3
  have hfza5n_4 := blk_frozen BK103.out 4
  have hfza5n_5 := blk_frozen BK103.out 5
  have hfza5n_6 := blk_frozen BK103.out 6
  have hfza5n_7 := blk_frozen BK103.out 7
  have hfza5n_8 := blk_frozen BK103.out 8
  go_wp2
  go_meet
  case rel => exact ⟨by rw [HK.out], ⟨by (with_reducible repeat (first | refine blk_drewN ?_ _ | refine blk_drew ?_ | refine blk_alloc ?_ _)); exact BK103.out⟩, ⟨by repeat (first | (with_reducible first | exact HB.out | apply below_alloc | apply pw_below_drewN | apply below_drew1 | refine below_set ?_ GE103.out) | exact HB.out)⟩⟩
 case rest =>
  obtain ⟨rfl, BK103, HB⟩ := hcut
  by_cases hrb : rangeBad a0_1 a0_2 a0_3 = true
  · rw [hrb]
    have HR80 := Aside0.mk (check_bad HRV.out hrb)
    clear hrb
    go_wp2
    go_ret
    exact ⟨by rw [HR80.out]; rfl, by repeat (first | (with_reducible first | exact HB.out | apply below_alloc | apply pw_below_drewN | apply below_drew1 | refine below_set ?_ GE103.out) | exact HB.out)⟩
  replace hrb : rangeBad a0_1 a0_2 a0_3 = false := by simpa using hrb
  rw [hrb]
  have HRV2 := Aside0.mk (check_good HRV.out hrb)
  clear hrb HRV
  obtain ⟨t104, t105, t106, t107, t108, t109, t110, A160⟩ : ∃ t104 t105 t106 t107 t108 t109 t110, record_bare.f a0_0 a0_1 a0_2 a0_3 a0_4 a0_5 a0_6 l0_7 l0_8 = some (t104, t105, t106, t107, t108, t109, t110) := ⟨_, _, _, _, _, _, _, rfl⟩
  have A16 := Aside0.mk A160
  clear A160
  try go_wp2
  have n0_ := Aside0.mk (blk_drew BK103.out)
  have n1_ := Aside0.mk (below_drew1 HB.out)
  clear BK103
  clear HB
  have BK103 := n0_
  have HB := n1_
  clear n0_ n1_
  refine start_ (n := 13) (S := fun w' => w'.cell? ⟨gb103, 0, none⟩ = some (.int .i64 a0_0) ∧ w'.cell? ⟨gb103, 1, none⟩ = some (.int .i64 a0_1) ∧ w'.cell? ⟨gb103, 2, none⟩ = some (.int .i64 a0_2) ∧ w'.cell? ⟨gb103, 3, none⟩ = some (.int .i64 a0_3) ∧ w'.cell? ⟨gb103, 4, none⟩ = some (.string a0_4) ∧ w'.cell? ⟨gb103, 5, none⟩ = some (.string a0_5) ∧ w'.cell? ⟨gb103, 6, none⟩ = some (.bool a0_6) ∧ w'.cell? ⟨gb103, 7, none⟩ = some (.slice A0_7 l0_7.length c0_7) ∧ w'.cell? ⟨gb103, 8, none⟩ = some (.slice A0_8 l0_8.length c0_8)) (ds := []) #[false, false, false, false, false, false, false, false, false, false, false, false, false] (by kernel_rfl) rfl rfl ⟨(blk_cell BK103.out 0).trans rfl, (blk_cell BK103.out 1).trans rfl, (blk_cell BK103.out 2).trans rfl, (blk_cell BK103.out 3).trans rfl, (blk_cell BK103.out 4).trans rfl, (blk_cell BK103.out 5).trans rfl, (blk_cell BK103.out 6).trans rfl, (blk_cell BK103.out 7).trans rfl, (blk_cell BK103.out 8).trans rfl⟩ (fun hHeld => ?_); refine with_tabW record_Check.tab3 record_Check.bits3 (fun HT_ HW_ => ?_)
  generalize wc.drew = w22 at BK103 HB hHeld ⊢
  refine pure_ (i := 2) (N := some 35) (v := ?_) (a' := ?_) #[false, false, true, false, false, false, false, false, false, false, false, false, false] rfl rfl (any_of HT_.out (by kernel_rfl)) (fun _ _ _ h => h) (Or.inl ⟨by rfl, ?_⟩) ?_ ?_
  rotate_left
  ·intro w'
   go_simp
   with_reducible rfl
  rotate_left
  ·simp only [Act.put, List.setIfInBounds_toArray, List.set_cons_zero, List.set_cons_succ, i64_w, i32_w]
   rfl
  refine pure_ (i := 5) (N := some 38) (v := ?_) (a' := ?_) #[false, false, true, false, false, true, false, false, false, false, false, false, false] rfl rfl (any_of HT_.out (by kernel_rfl)) (fun _ _ _ h => h) (Or.inl ⟨by rfl, ?_⟩) ?_ ?_
  rotate_left
  ·intro w'
   go_simp
   with_reducible rfl
  rotate_left
  ·simp only [Act.put, List.setIfInBounds_toArray, List.set_cons_zero, List.set_cons_succ, i64_w, i32_w]
   rfl
  refine take_ (i := 0) (N := some 33) (v := ?_) (a' := ?_) #[true, false, true, false, false, true, false, false, false, false, false, false, false] rfl rfl (take_ofW HT_.out HW_.out (by kernel_rfl)) (fun _ _ _ h => h) (Or.inl ⟨by rfl, ?_⟩) hHeld ?_ ?_
  rotate_left
  ·rintro w' ⟨s0, s1, s2, s3, s4, s5, s6, s7, s8⟩
   go_simp
   with_reducible rfl
  rotate_left
  ·simp only [Act.put, List.setIfInBounds_toArray, List.set_cons_zero, List.set_cons_succ, i64_w, i32_w]
   rfl
  refine take_ (i := 3) (N := some 36) (v := ?_) (a' := ?_) #[true, false, true, true, false, true, false, false, false, false, false, false, false] rfl rfl (take_ofW HT_.out HW_.out (by kernel_rfl)) (fun _ _ _ h => h) (Or.inl ⟨by rfl, ?_⟩) hHeld ?_ ?_
  rotate_left
  ·rintro w' ⟨s0, s1, s2, s3, s4, s5, s6, s7, s8⟩
   go_simp
   with_reducible rfl
  rotate_left
  ·simp only [Act.put, List.setIfInBounds_toArray, List.set_cons_zero, List.set_cons_succ, i64_w, i32_w]
   rfl
  refine pure_ (i := 4) (N := some 37) (v := ?_) (a' := ?_) #[true, false, true, true, true, true, false, false, false, false, false, false, false] rfl rfl (any_of HT_.out (by kernel_rfl)) (fun _ _ _ h => h) (Or.inl ⟨by rfl, ?_⟩) ?_ ?_
  rotate_left
  ·intro w'
   go_simp
   with_reducible rfl
  rotate_left
  ·simp only [Act.put, List.setIfInBounds_toArray, List.set_cons_zero, List.set_cons_succ, i64_w, i32_w]
   rfl
  refine take_ (i := 6) (N := some 39) (v := ?_) (a' := ?_) #[true, false, true, true, true, true, true, false, false, false, false, false, false] rfl rfl (take_ofW HT_.out HW_.out (by kernel_rfl)) (fun _ _ _ h => h) (Or.inl ⟨by rfl, ?_⟩) hHeld ?_ ?_
  rotate_left
  ·rintro w' ⟨s0, s1, s2, s3, s4, s5, s6, s7, s8⟩
   go_simp
   with_reducible rfl
  rotate_left
  ·simp only [Act.put, List.setIfInBounds_toArray, List.set_cons_zero, List.set_cons_succ, i64_w, i32_w]
   rfl
  refine pure_ (i := 7) (N := some 40) (v := ?_) (a' := ?_) #[true, false, true, true, true, true, true, true, false, false, false, false, false] rfl rfl (any_of HT_.out (by kernel_rfl)) (fun _ _ _ h => h) (Or.inl ⟨by rfl, ?_⟩) ?_ ?_
  rotate_left
  ·intro w'
   go_simp
   with_reducible rfl
  rotate_left
  ·simp only [Act.put, List.setIfInBounds_toArray, List.set_cons_zero, List.set_cons_succ, i64_w, i32_w]
   rfl
  refine pure_ (i := 8) (N := some 41) (v := ?_) (a' := ?_) #[true, false, true, true, true, true, true, true, true, false, false, false, false] rfl rfl (any_of HT_.out (by kernel_rfl)) (fun _ _ _ h => h) (Or.inl ⟨by rfl, ?_⟩) ?_ ?_
  rotate_left
  ·intro w'
   go_simp
   with_reducible rfl
  rotate_left
  ·simp only [Act.put, List.setIfInBounds_toArray, List.set_cons_zero, List.set_cons_succ, i64_w, i32_w]
   rfl
  refine pure_ (i := 9) (N := some 42) (v := ?_) (a' := ?_) #[true, false, true, true, true, true, true, true, true, true, false, false, false] rfl rfl (any_of HT_.out (by kernel_rfl)) (fun _ _ _ h => h) (Or.inl ⟨by rfl, ?_⟩) ?_ ?_
  rotate_left
  ·intro w'
   go_simp
   with_reducible rfl
  rotate_left
  ·simp only [Act.put, List.setIfInBounds_toArray, List.set_cons_zero, List.set_cons_succ, i64_w, i32_w]
   rfl
  refine join_ (σ := Nat) 2 #[true, true, true, true, true, true, true, true, true, true, true, false, false] (fun s_ => [(34, .agg #[.int .i64 t104, .int .i64 t105, .int .i64 t106, .int .i64 t107, .string t108, .string t109, .bool t110]), (3, .pointer (some ⟨s_, 0, none⟩))]) (fun s_ w' => (w'.cell? ⟨gb103, 0, none⟩ = some (.int .i64 a0_0) ∧ w'.cell? ⟨gb103, 1, none⟩ = some (.int .i64 a0_1) ∧ w'.cell? ⟨gb103, 2, none⟩ = some (.int .i64 a0_2) ∧ w'.cell? ⟨gb103, 3, none⟩ = some (.int .i64 a0_3) ∧ w'.cell? ⟨gb103, 4, none⟩ = some (.string a0_4) ∧ w'.cell? ⟨gb103, 5, none⟩ = some (.string a0_5) ∧ w'.cell? ⟨gb103, 6, none⟩ = some (.bool a0_6) ∧ w'.cell? ⟨gb103, 7, none⟩ = some (.slice A0_7 l0_7.length c0_7) ∧ w'.cell? ⟨gb103, 8, none⟩ = some (.slice A0_8 l0_8.length c0_8)) ∧ (w'.heap[gb103]? = some (.cells #[.int .i64 a0_0, .int .i64 a0_1, .int .i64 a0_2, .int .i64 a0_3, .string a0_4, .string a0_5, .bool a0_6, .slice A0_7 l0_7.length c0_7, .slice A0_8 l0_8.length c0_8] 35 (0, 0))) ∧ (w'.heap[s_]? = some (.cells #[.int .i64 0, .int .i64 0, .int .i64 0, .int .i64 0, .string (⟨#[]⟩ : ByteArray), .string (⟨#[]⟩ : ByteArray), .bool false] 129 (0, 0))) ∧ (w.heap.size ≤ s_) ∧ (w.heap.size ≤ s_) ∧ (gb103 ≠ s_) ∧ (s_ ≠ gb103) ∧ (Below w.heap.size w w')) ?_ ?_
  rotate_left
  ·intro hCont
   refine two_ (i := 1) (j := 10) (Ni := some 34) (Nj := some 3) #[true, true, true, true, true, true, true, true, true, true, false, false, false] #[true, false, true, true, true, true, true, true, true, true, true, false, false] rfl rfl rfl rfl (two_of HT_.out (by kernel_rfl)) (by decide) (by decide) (fun K hK => ?_) (fun K hK => ?_)
   ·skip
    refine goes_ Try.func73 (by kernel_rfl) rfl #[.agg #[.int .i64 a0_0, .int .i64 a0_1, .int .i64 a0_2, .int .i64 a0_3, .string a0_4, .string a0_5, .bool a0_6, .slice A0_7 l0_7.length c0_7, .slice A0_8 l0_8.length c0_8]] (by rfl) rfl rfl (by (try simp only [List.map_toArray, List.map_cons, List.map_nil]); first | done | rfl | (simp only [List.length_drop, List.length_take]; rfl)) ?_
    with_reducible refine (record_bare.calls a0_0 a0_1 a0_2 a0_3 a0_4 a0_5 a0_6 _ _ l0_7 _ _ l0_8 t104 t105 t106 t107 t108 t109 t110 _ ?side1 ?side2 ?side3 ?side4 A16.out).mono ?_
    (case side1 => repeat (first | exact (Kd.C_below HR0_7.out HB.out) | (with_reducible refine Kd.C_alloc ?_ _) | (with_reducible refine Kd.C_drewN ?_ _) | (with_reducible refine Kd.C_drew ?_)))
    (case side2 => exact HC0_7.out)
    (case side3 => repeat (first | exact (Kd.C_below HR0_8.out HB.out) | (with_reducible refine Kd.C_alloc ?_ _) | (with_reducible refine Kd.C_drewN ?_ _) | (with_reducible refine Kd.C_drew ?_)))
    (case side4 => exact HC0_8.out)
    rintro e w23 ⟨rfl, hb⟩
    refine ⟨_, rfl, ?_⟩
    have n0_ := Aside0.mk (blk_below (g := gb103) (o := .cells #[.int .i64 a0_0, .int .i64 a0_1, .int .i64 a0_2, .int .i64 a0_3, .string a0_4, .string a0_5, .bool a0_6, .slice A0_7 l0_7.length c0_7, .slice A0_8 l0_8.length c0_8] 35 (0, 0)) (by (with_reducible repeat (first | refine blk_drewN ?_ _ | refine blk_drew ?_ | refine blk_alloc ?_ _)); exact BK103.out) hb)
    have n1_ := Aside0.mk (below_step (by repeat (first | (with_reducible first | exact HB.out | apply below_alloc | apply pw_below_drewN | apply below_drew1 | refine below_set ?_ GE103.out) | exact HB.out)) hb)
    clear BK103
    clear HB
    have BK103 := n0_
    have HB := n1_
    clear n0_ n1_
    (try clear hb)
    (try clear hb2)
    (try clear hk)
    (try clear hi)
    refine hK.out _ _ ⟨(blk_cell BK103.out 0).trans rfl, (blk_cell BK103.out 1).trans rfl, (blk_cell BK103.out 2).trans rfl, (blk_cell BK103.out 3).trans rfl, (blk_cell BK103.out 4).trans rfl, (blk_cell BK103.out 5).trans rfl, (blk_cell BK103.out 6).trans rfl, (blk_cell BK103.out 7).trans rfl, (blk_cell BK103.out 8).trans rfl⟩ (fun hHeld => ?_)
    clear hK K
    refine norm_ (a' := ?_) ?_ ?_
    rotate_left
    ·show Act.put _ (some 34) _ = _
     simp only [Act.put, List.setIfInBounds_toArray, List.set_cons_zero, List.set_cons_succ, i64_w, i32_w]
     rfl
    refine one_ (i := 10) (N := some 3) #[true, true, true, true, true, true, true, true, true, true, true, false, false] rfl rfl (one_of HT_.out (by kernel_rfl)) (by decide) (fun K hK => ?_)
    refine box_step ?hg (N := 3) ?hd (cs := #[.int .i64 0, .int .i64 0, .int .i64 0, .int .i64 0, .string (⟨#[]⟩ : ByteArray), .string (⟨#[]⟩ : ByteArray), .bool false]) (t := 129) ?hr ?_; (case hd => rfl); (case hg => rfl); (case hr => first | (go_simp; done) | (go_simp; rfl))
    intro gb111 hg w24 hbox hb
    have n0_ := Aside0.mk (blk_below (g := gb103) (o := .cells #[.int .i64 a0_0, .int .i64 a0_1, .int .i64 a0_2, .int .i64 a0_3, .string a0_4, .string a0_5, .bool a0_6, .slice A0_7 l0_7.length c0_7, .slice A0_8 l0_8.length c0_8] 35 (0, 0)) (by (with_reducible repeat (first | refine blk_drewN ?_ _ | refine blk_drew ?_ | refine blk_alloc ?_ _)); exact BK103.out) hb)
    have n1_ := Aside0.mk (below_step (by repeat (first | (with_reducible first | exact HB.out | apply below_alloc | apply pw_below_drewN | apply below_drew1 | refine below_set ?_ GE103.out) | exact HB.out)) hb)
    have n2_ := Aside0.mk (hbox)
    have n3_ := Aside0.mk ((by rw [hg]; exact (below_size (by repeat (first | (with_reducible first | exact HB.out | apply below_alloc | apply pw_below_drewN | apply below_drew1 | refine below_set ?_ GE103.out) | exact HB.out))) : w.heap.size ≤ gb111))
    have n4_ := Aside0.mk ((by rw [hg]; exact (below_size (by repeat (first | (with_reducible first | exact HB.out | apply below_alloc | apply pw_below_drewN | apply below_drew1 | refine below_set ?_ GE103.out) | exact HB.out))) : w.heap.size ≤ gb111))
    have n5_ := Aside0.mk ((by rw [hg]; exact Nat.ne_of_lt (blk_lt (g := gb103) (o := .cells #[.int .i64 a0_0, .int .i64 a0_1, .int .i64 a0_2, .int .i64 a0_3, .string a0_4, .string a0_5, .bool a0_6, .slice A0_7 l0_7.length c0_7, .slice A0_8 l0_8.length c0_8] 35 (0, 0)) (by (with_reducible repeat (first | refine blk_drewN ?_ _ | refine blk_drew ?_ | refine blk_alloc ?_ _)); exact BK103.out)) : gb103 ≠ gb111))
    have n6_ := Aside0.mk ((by rw [hg]; exact Nat.ne_of_gt (blk_lt (g := gb103) (o := .cells #[.int .i64 a0_0, .int .i64 a0_1, .int .i64 a0_2, .int .i64 a0_3, .string a0_4, .string a0_5, .bool a0_6, .slice A0_7 l0_7.length c0_7, .slice A0_8 l0_8.length c0_8] 35 (0, 0)) (by (with_reducible repeat (first | refine blk_drewN ?_ _ | refine blk_drew ?_ | refine blk_alloc ?_ _)); exact BK103.out)) : gb111 ≠ gb103))
    clear BK103
    clear HB
    have BK103 := n0_
    have HB := n1_
    have BK111 := n2_
    have GW111 := n3_
    have GE111 := n4_
    have NB103_111 := n5_
    have NB111_103 := n6_
    clear n0_ n1_ n2_ n3_ n4_ n5_ n6_
    clear hb hbox hg
    refine hK.out _ _ ⟨(blk_cell BK103.out 0).trans rfl, (blk_cell BK103.out 1).trans rfl, (blk_cell BK103.out 2).trans rfl, (blk_cell BK103.out 3).trans rfl, (blk_cell BK103.out 4).trans rfl, (blk_cell BK103.out 5).trans rfl, (blk_cell BK103.out 6).trans rfl, (blk_cell BK103.out 7).trans rfl, (blk_cell BK103.out 8).trans rfl⟩ (fun hHeld => ?_)
    clear hK K
    refine norm_ (a' := ?_) ?_ ?_
    rotate_left
    ·show Act.put _ (some 3) _ = _
     simp only [Act.put, List.setIfInBounds_toArray, List.set_cons_zero, List.set_cons_succ, i64_w, i32_w]
     rfl
    exact norm_ (by simp only [putAll, Act.put, List.setIfInBounds_toArray, List.set_cons_zero, List.set_cons_succ]) (hCont (gb111) _ ⟨hHeld, (by (with_reducible repeat (first | refine blk_drewN ?_ _ | refine blk_drew ?_ | refine blk_alloc ?_ _)); exact BK103.out), (by (with_reducible repeat (first | refine blk_drewN ?_ _ | refine blk_drew ?_ | refine blk_alloc ?_ _)); exact BK111.out), GW111.out, GE111.out, NB103_111.out, NB111_103.out, (by repeat (first | (with_reducible first | exact HB.out | apply below_alloc | apply pw_below_drewN | apply below_drew1 | refine below_set ?_ GE103.out | refine below_set ?_ GE111.out) | exact HB.out))⟩)
   ·skip
    refine box_step ?hg (N := 3) ?hd (cs := #[.int .i64 0, .int .i64 0, .int .i64 0, .int .i64 0, .string (⟨#[]⟩ : ByteArray), .string (⟨#[]⟩ : ByteArray), .bool false]) (t := 129) ?hr ?_; (case hd => rfl); (case hg => rfl); (case hr => first | (go_simp; done) | (go_simp; rfl))
    intro gb111 hg w23 hbox hb
    have n0_ := Aside0.mk (blk_below (g := gb103) (o := .cells #[.int .i64 a0_0, .int .i64 a0_1, .int .i64 a0_2, .int .i64 a0_3, .string a0_4, .string a0_5, .bool a0_6, .slice A0_7 l0_7.length c0_7, .slice A0_8 l0_8.length c0_8] 35 (0, 0)) (by (with_reducible repeat (first | refine blk_drewN ?_ _ | refine blk_drew ?_ | refine blk_alloc ?_ _)); exact BK103.out) hb)
    have n1_ := Aside0.mk (below_step (by repeat (first | (with_reducible first | exact HB.out | apply below_alloc | apply pw_below_drewN | apply below_drew1 | refine below_set ?_ GE103.out) | exact HB.out)) hb)
    have n2_ := Aside0.mk (hbox)
    have n3_ := Aside0.mk ((by rw [hg]; exact (below_size (by repeat (first | (with_reducible first | exact HB.out | apply below_alloc | apply pw_below_drewN | apply below_drew1 | refine below_set ?_ GE103.out) | exact HB.out))) : w.heap.size ≤ gb111))
    have n4_ := Aside0.mk ((by rw [hg]; exact (below_size (by repeat (first | (with_reducible first | exact HB.out | apply below_alloc | apply pw_below_drewN | apply below_drew1 | refine below_set ?_ GE103.out) | exact HB.out))) : w.heap.size ≤ gb111))
    have n5_ := Aside0.mk ((by rw [hg]; exact Nat.ne_of_lt (blk_lt (g := gb103) (o := .cells #[.int .i64 a0_0, .int .i64 a0_1, .int .i64 a0_2, .int .i64 a0_3, .string a0_4, .string a0_5, .bool a0_6, .slice A0_7 l0_7.length c0_7, .slice A0_8 l0_8.length c0_8] 35 (0, 0)) (by (with_reducible repeat (first | refine blk_drewN ?_ _ | refine blk_drew ?_ | refine blk_alloc ?_ _)); exact BK103.out)) : gb103 ≠ gb111))
    have n6_ := Aside0.mk ((by rw [hg]; exact Nat.ne_of_gt (blk_lt (g := gb103) (o := .cells #[.int .i64 a0_0, .int .i64 a0_1, .int .i64 a0_2, .int .i64 a0_3, .string a0_4, .string a0_5, .bool a0_6, .slice A0_7 l0_7.length c0_7, .slice A0_8 l0_8.length c0_8] 35 (0, 0)) (by (with_reducible repeat (first | refine blk_drewN ?_ _ | refine blk_drew ?_ | refine blk_alloc ?_ _)); exact BK103.out)) : gb111 ≠ gb103))
    clear BK103
    clear HB
    have BK103 := n0_
    have HB := n1_
    have BK111 := n2_
    have GW111 := n3_
    have GE111 := n4_
    have NB103_111 := n5_
    have NB111_103 := n6_
    clear n0_ n1_ n2_ n3_ n4_ n5_ n6_
    clear hb hbox hg
    refine hK.out _ _ ⟨(blk_cell BK103.out 0).trans rfl, (blk_cell BK103.out 1).trans rfl, (blk_cell BK103.out 2).trans rfl, (blk_cell BK103.out 3).trans rfl, (blk_cell BK103.out 4).trans rfl, (blk_cell BK103.out 5).trans rfl, (blk_cell BK103.out 6).trans rfl, (blk_cell BK103.out 7).trans rfl, (blk_cell BK103.out 8).trans rfl⟩ (fun hHeld => ?_)
    clear hK K
    refine norm_ (a' := ?_) ?_ ?_
    rotate_left
    ·show Act.put _ (some 3) _ = _
     simp only [Act.put, List.setIfInBounds_toArray, List.set_cons_zero, List.set_cons_succ, i64_w, i32_w]
     rfl
    refine one_ (i := 1) (N := some 34) #[true, true, true, true, true, true, true, true, true, true, true, false, false] rfl rfl (one_of HT_.out (by kernel_rfl)) (by decide) (fun K hK => ?_)
    refine goes_ Try.func73 (by kernel_rfl) rfl #[.agg #[.int .i64 a0_0, .int .i64 a0_1, .int .i64 a0_2, .int .i64 a0_3, .string a0_4, .string a0_5, .bool a0_6, .slice A0_7 l0_7.length c0_7, .slice A0_8 l0_8.length c0_8]] (by rfl) rfl rfl (by (try simp only [List.map_toArray, List.map_cons, List.map_nil]); first | done | rfl | (simp only [List.length_drop, List.length_take]; rfl)) ?_
    with_reducible refine (record_bare.calls a0_0 a0_1 a0_2 a0_3 a0_4 a0_5 a0_6 _ _ l0_7 _ _ l0_8 t104 t105 t106 t107 t108 t109 t110 _ ?side1 ?side2 ?side3 ?side4 A16.out).mono ?_
    (case side1 => repeat (first | exact (Kd.C_below HR0_7.out HB.out) | (with_reducible refine Kd.C_alloc ?_ _) | (with_reducible refine Kd.C_drewN ?_ _) | (with_reducible refine Kd.C_drew ?_)))
    (case side2 => exact HC0_7.out)
    (case side3 => repeat (first | exact (Kd.C_below HR0_8.out HB.out) | (with_reducible refine Kd.C_alloc ?_ _) | (with_reducible refine Kd.C_drewN ?_ _) | (with_reducible refine Kd.C_drew ?_)))
    (case side4 => exact HC0_8.out)
    rintro e w24 ⟨rfl, hb⟩
    refine ⟨_, rfl, ?_⟩
    have n0_ := Aside0.mk (blk_below (g := gb103) (o := .cells #[.int .i64 a0_0, .int .i64 a0_1, .int .i64 a0_2, .int .i64 a0_3, .string a0_4, .string a0_5, .bool a0_6, .slice A0_7 l0_7.length c0_7, .slice A0_8 l0_8.length c0_8] 35 (0, 0)) (by (with_reducible repeat (first | refine blk_drewN ?_ _ | refine blk_drew ?_ | refine blk_alloc ?_ _)); exact BK103.out) hb)
    have n1_ := Aside0.mk (blk_below (g := gb111) (o := .cells #[.int .i64 0, .int .i64 0, .int .i64 0, .int .i64 0, .string (⟨#[]⟩ : ByteArray), .string (⟨#[]⟩ : ByteArray), .bool false] 129 (0, 0)) (by (with_reducible repeat (first | refine blk_drewN ?_ _ | refine blk_drew ?_ | refine blk_alloc ?_ _)); exact BK111.out) hb)
    have n2_ := Aside0.mk (below_step (by repeat (first | (with_reducible first | exact HB.out | apply below_alloc | apply pw_below_drewN | apply below_drew1 | refine below_set ?_ GE103.out | refine below_set ?_ GE111.out) | exact HB.out)) hb)
    clear BK103
    clear BK111
    clear HB
    have BK103 := n0_
    have BK111 := n1_
    have HB := n2_
    clear n0_ n1_ n2_
    (try clear hb)
    (try clear hb2)
    (try clear hk)
    (try clear hi)
    refine hK.out _ _ ⟨(blk_cell BK103.out 0).trans rfl, (blk_cell BK103.out 1).trans rfl, (blk_cell BK103.out 2).trans rfl, (blk_cell BK103.out 3).trans rfl, (blk_cell BK103.out 4).trans rfl, (blk_cell BK103.out 5).trans rfl, (blk_cell BK103.out 6).trans rfl, (blk_cell BK103.out 7).trans rfl, (blk_cell BK103.out 8).trans rfl⟩ (fun hHeld => ?_)
    clear hK K
    refine norm_ (a' := ?_) ?_ ?_
    rotate_left
    ·show Act.put _ (some 34) _ = _
     simp only [Act.put, List.setIfInBounds_toArray, List.set_cons_zero, List.set_cons_succ, i64_w, i32_w]
     rfl
    exact norm_ (by simp only [putAll, Act.put, List.setIfInBounds_toArray, List.set_cons_zero, List.set_cons_succ]) (hCont (gb111) _ ⟨hHeld, (by (with_reducible repeat (first | refine blk_drewN ?_ _ | refine blk_drew ?_ | refine blk_alloc ?_ _)); exact BK103.out), (by (with_reducible repeat (first | refine blk_drewN ?_ _ | refine blk_drew ?_ | refine blk_alloc ?_ _)); exact BK111.out), GW111.out, GE111.out, NB103_111.out, NB111_103.out, (by repeat (first | (with_reducible first | exact HB.out | apply below_alloc | apply pw_below_drewN | apply below_drew1 | refine below_set ?_ GE103.out | refine below_set ?_ GE111.out) | exact HB.out))⟩)
  rintro gb111 w25 ⟨hS_, h0_, h1_, h2_, h3_, h4_, h5_, h6_⟩
  have n0_ : Aside0 (w25.heap[gb103]? = some (.cells #[.int .i64 a0_0, .int .i64 a0_1, .int .i64 a0_2, .int .i64 a0_3, .string a0_4, .string a0_5, .bool a0_6, .slice A0_7 l0_7.length c0_7, .slice A0_8 l0_8.length c0_8] 35 (0, 0))) := ⟨h0_⟩
  have n1_ : Aside0 (w25.heap[gb111]? = some (.cells #[.int .i64 0, .int .i64 0, .int .i64 0, .int .i64 0, .string (⟨#[]⟩ : ByteArray), .string (⟨#[]⟩ : ByteArray), .bool false] 129 (0, 0))) := ⟨h1_⟩
  have n2_ : Aside0 (w.heap.size ≤ gb111) := ⟨h2_⟩
  have n3_ : Aside0 (w.heap.size ≤ gb111) := ⟨h3_⟩
  have n4_ : Aside0 (gb103 ≠ gb111) := ⟨h4_⟩
  have n5_ : Aside0 (gb111 ≠ gb103) := ⟨h5_⟩
  have n6_ : Aside0 (Below w.heap.size w w25) := ⟨h6_⟩
  clear BK103
  clear HB
  clear h0_ h1_ h2_ h3_ h4_ h5_ h6_
  have BK103 := n0_
  have BK111 := n1_
  have GW111 := n2_
  have GE111 := n3_
  have NB103_111 := n4_
  have NB111_103 := n5_
  have HB := n6_
  clear n0_ n1_ n2_ n3_ n4_ n5_ n6_
  have hHeld : w25.cell? ⟨gb103, 0, none⟩ = some (.int .i64 a0_0) ∧ w25.cell? ⟨gb103, 1, none⟩ = some (.int .i64 a0_1) ∧ w25.cell? ⟨gb103, 2, none⟩ = some (.int .i64 a0_2) ∧ w25.cell? ⟨gb103, 3, none⟩ = some (.int .i64 a0_3) ∧ w25.cell? ⟨gb103, 4, none⟩ = some (.string a0_4) ∧ w25.cell? ⟨gb103, 5, none⟩ = some (.string a0_5) ∧ w25.cell? ⟨gb103, 6, none⟩ = some (.bool a0_6) ∧ w25.cell? ⟨gb103, 7, none⟩ = some (.slice A0_7 l0_7.length c0_7) ∧ w25.cell? ⟨gb103, 8, none⟩ = some (.slice A0_8 l0_8.length c0_8) := hS_
  refine norm_ (a' := ?_) ?_ ?_
  rotate_left
  ·simp only [putAll, Act.put, List.setIfInBounds_toArray, List.set_cons_zero, List.set_cons_succ]
   rfl
  refine one_ (i := 11) (N := none) #[true, true, true, true, true, true, true, true, true, true, true, true, false] rfl rfl (one_of HT_.out (by kernel_rfl)) (by decide) (fun K hK => ?_)
  have hs26 : w25.cell? ⟨gb111, 0, none⟩ = some (.int .i64 0) := (blk_cell BK111.out 0).trans rfl
  have hfs26 := blk_frozen BK111.out 0
  have hns26_0 := NB103_111.out
  have hms26_0 := NB111_103.out
  have hs27 : w25.cell? ⟨gb111, 1, none⟩ = some (.int .i64 0) := (blk_cell BK111.out 1).trans rfl
  have hfs27 := blk_frozen BK111.out 1
  have hns27_0 := NB103_111.out
  have hms27_0 := NB111_103.out
  have hs28 : w25.cell? ⟨gb111, 2, none⟩ = some (.int .i64 0) := (blk_cell BK111.out 2).trans rfl
  have hfs28 := blk_frozen BK111.out 2
  have hns28_0 := NB103_111.out
  have hms28_0 := NB111_103.out
  have hs29 : w25.cell? ⟨gb111, 3, none⟩ = some (.int .i64 0) := (blk_cell BK111.out 3).trans rfl
  have hfs29 := blk_frozen BK111.out 3
  have hns29_0 := NB103_111.out
  have hms29_0 := NB111_103.out
  have hs30 : w25.cell? ⟨gb111, 4, none⟩ = some (.string (⟨#[]⟩ : ByteArray)) := (blk_cell BK111.out 4).trans rfl
  have hfs30 := blk_frozen BK111.out 4
  have hns30_0 := NB103_111.out
  have hms30_0 := NB111_103.out
  have hs31 : w25.cell? ⟨gb111, 5, none⟩ = some (.string (⟨#[]⟩ : ByteArray)) := (blk_cell BK111.out 5).trans rfl
  have hfs31 := blk_frozen BK111.out 5
  have hns31_0 := NB103_111.out
  have hms31_0 := NB111_103.out
  have hs32 : w25.cell? ⟨gb111, 6, none⟩ = some (.bool false) := (blk_cell BK111.out 6).trans rfl
  have hfs32 := blk_frozen BK111.out 6
  have hns32_0 := NB103_111.out
  have hms32_0 := NB111_103.out
  refine skip_ (w1 := ?_) (by rfl) rfl ?_ ?_
  rotate_left
  ·go_simp
   rfl
  refine hK.out _ _ ⟨((cell_far (p := ⟨gb111, _, none⟩) NB103_111.out _).trans (((cell_far (p := ⟨gb111, _, none⟩) NB103_111.out _).trans (((cell_far (p := ⟨gb111, _, none⟩) NB103_111.out _).trans (((cell_far (p := ⟨gb111, _, none⟩) NB103_111.out _).trans (((cell_far (p := ⟨gb111, _, none⟩) NB103_111.out _).trans (((cell_far (p := ⟨gb111, _, none⟩) NB103_111.out _).trans (((cell_far (p := ⟨gb111, _, none⟩) NB103_111.out _).trans (hHeld.1)))))))))))))), ((cell_far (p := ⟨gb111, _, none⟩) NB103_111.out _).trans (((cell_far (p := ⟨gb111, _, none⟩) NB103_111.out _).trans (((cell_far (p := ⟨gb111, _, none⟩) NB103_111.out _).trans (((cell_far (p := ⟨gb111, _, none⟩) NB103_111.out _).trans (((cell_far (p := ⟨gb111, _, none⟩) NB103_111.out _).trans (((cell_far (p := ⟨gb111, _, none⟩) NB103_111.out _).trans (((cell_far (p := ⟨gb111, _, none⟩) NB103_111.out _).trans (hHeld.2.1)))))))))))))), ((cell_far (p := ⟨gb111, _, none⟩) NB103_111.out _).trans (((cell_far (p := ⟨gb111, _, none⟩) NB103_111.out _).trans (((cell_far (p := ⟨gb111, _, none⟩) NB103_111.out _).trans (((cell_far (p := ⟨gb111, _, none⟩) NB103_111.out _).trans (((cell_far (p := ⟨gb111, _, none⟩) NB103_111.out _).trans (((cell_far (p := ⟨gb111, _, none⟩) NB103_111.out _).trans (((cell_far (p := ⟨gb111, _, none⟩) NB103_111.out _).trans (hHeld.2.2.1)))))))))))))), ((cell_far (p := ⟨gb111, _, none⟩) NB103_111.out _).trans (((cell_far (p := ⟨gb111, _, none⟩) NB103_111.out _).trans (((cell_far (p := ⟨gb111, _, none⟩) NB103_111.out _).trans (((cell_far (p := ⟨gb111, _, none⟩) NB103_111.out _).trans (((cell_far (p := ⟨gb111, _, none⟩) NB103_111.out _).trans (((cell_far (p := ⟨gb111, _, none⟩) NB103_111.out _).trans (((cell_far (p := ⟨gb111, _, none⟩) NB103_111.out _).trans (hHeld.2.2.2.1)))))))))))))), ((cell_far (p := ⟨gb111, _, none⟩) NB103_111.out _).trans (((cell_far (p := ⟨gb111, _, none⟩) NB103_111.out _).trans (((cell_far (p := ⟨gb111, _, none⟩) NB103_111.out _).trans (((cell_far (p := ⟨gb111, _, none⟩) NB103_111.out _).trans (((cell_far (p := ⟨gb111, _, none⟩) NB103_111.out _).trans (((cell_far (p := ⟨gb111, _, none⟩) NB103_111.out _).trans (((cell_far (p := ⟨gb111, _, none⟩) NB103_111.out _).trans (hHeld.2.2.2.2.1)))))))))))))), ((cell_far (p := ⟨gb111, _, none⟩) NB103_111.out _).trans (((cell_far (p := ⟨gb111, _, none⟩) NB103_111.out _).trans (((cell_far (p := ⟨gb111, _, none⟩) NB103_111.out _).trans (((cell_far (p := ⟨gb111, _, none⟩) NB103_111.out _).trans (((cell_far (p := ⟨gb111, _, none⟩) NB103_111.out _).trans (((cell_far (p := ⟨gb111, _, none⟩) NB103_111.out _).trans (((cell_far (p := ⟨gb111, _, none⟩) NB103_111.out _).trans (hHeld.2.2.2.2.2.1)))))))))))))), ((cell_far (p := ⟨gb111, _, none⟩) NB103_111.out _).trans (((cell_far (p := ⟨gb111, _, none⟩) NB103_111.out _).trans (((cell_far (p := ⟨gb111, _, none⟩) NB103_111.out _).trans (((cell_far (p := ⟨gb111, _, none⟩) NB103_111.out _).trans (((cell_far (p := ⟨gb111, _, none⟩) NB103_111.out _).trans (((cell_far (p := ⟨gb111, _, none⟩) NB103_111.out _).trans (((cell_far (p := ⟨gb111, _, none⟩) NB103_111.out _).trans (hHeld.2.2.2.2.2.2.1)))))))))))))), ((cell_far (p := ⟨gb111, _, none⟩) NB103_111.out _).trans (((cell_far (p := ⟨gb111, _, none⟩) NB103_111.out _).trans (((cell_far (p := ⟨gb111, _, none⟩) NB103_111.out _).trans (((cell_far (p := ⟨gb111, _, none⟩) NB103_111.out _).trans (((cell_far (p := ⟨gb111, _, none⟩) NB103_111.out _).trans (((cell_far (p := ⟨gb111, _, none⟩) NB103_111.out _).trans (((cell_far (p := ⟨gb111, _, none⟩) NB103_111.out _).trans (hHeld.2.2.2.2.2.2.2.1)))))))))))))), ((cell_far (p := ⟨gb111, _, none⟩) NB103_111.out _).trans (((cell_far (p := ⟨gb111, _, none⟩) NB103_111.out _).trans (((cell_far (p := ⟨gb111, _, none⟩) NB103_111.out _).trans (((cell_far (p := ⟨gb111, _, none⟩) NB103_111.out _).trans (((cell_far (p := ⟨gb111, _, none⟩) NB103_111.out _).trans (((cell_far (p := ⟨gb111, _, none⟩) NB103_111.out _).trans (((cell_far (p := ⟨gb111, _, none⟩) NB103_111.out _).trans (hHeld.2.2.2.2.2.2.2.2))))))))))))))⟩ (fun hHeld => ?_)
  clear hK K
  refine pure_ (i := 12) (N := some 4) (v := ?_) (a' := ?_) #[true, true, true, true, true, true, true, true, true, true, true, true, true] rfl rfl (any_of HT_.out (by kernel_rfl)) (fun _ _ _ h => h) (Or.inl ⟨by rfl, ?_⟩) ?_ ?_
  rotate_left
  ·intro w'
   go_simp
   with_reducible rfl
  rotate_left
  ·simp only [Act.put, List.setIfInBounds_toArray, List.set_cons_zero, List.set_cons_succ, i64_w, i32_w]
   rfl
  refine done_ (done_of HT_.out (by kernel_rfl)) ?_
  have hnb33 := NB103_111.out
  have hnc33 := NB111_103.out
  have n0_ : Aside0 ((((((((w25.setCell ⟨gb111, 0, none⟩ (.int .i64 t104)).setCell ⟨gb111, 1, none⟩ (.int .i64 t105)).setCell ⟨gb111, 2, none⟩ (.int .i64 t106)).setCell ⟨gb111, 3, none⟩ (.int .i64 t107)).setCell ⟨gb111, 4, none⟩ (.string t108)).setCell ⟨gb111, 5, none⟩ (.string t109)).setCell ⟨gb111, 6, none⟩ (.bool t110)).heap[gb103]? = some (.cells #[.int .i64 a0_0, .int .i64 a0_1, .int .i64 a0_2, .int .i64 a0_3, .string a0_4, .string a0_5, .bool a0_6, .slice A0_7 l0_7.length c0_7, .slice A0_8 l0_8.length c0_8] 35 (0, 0))) := ⟨by (with_reducible repeat (first | refine blk_drewN ?_ _ | refine blk_drew ?_ | refine blk_alloc ?_ _)); refine blk_far ?_ NB103_111.out _; (with_reducible repeat (first | refine blk_drewN ?_ _ | refine blk_drew ?_ | refine blk_alloc ?_ _)); refine blk_far ?_ NB103_111.out _; (with_reducible repeat (first | refine blk_drewN ?_ _ | refine blk_drew ?_ | refine blk_alloc ?_ _)); refine blk_far ?_ NB103_111.out _; (with_reducible repeat (first | refine blk_drewN ?_ _ | refine blk_drew ?_ | refine blk_alloc ?_ _)); refine blk_far ?_ NB103_111.out _; (with_reducible repeat (first | refine blk_drewN ?_ _ | refine blk_drew ?_ | refine blk_alloc ?_ _)); refine blk_far ?_ NB103_111.out _; (with_reducible repeat (first | refine blk_drewN ?_ _ | refine blk_drew ?_ | refine blk_alloc ?_ _)); refine blk_far ?_ NB103_111.out _; (with_reducible repeat (first | refine blk_drewN ?_ _ | refine blk_drew ?_ | refine blk_alloc ?_ _)); refine blk_far ?_ NB103_111.out _; (with_reducible repeat (first | refine blk_drewN ?_ _ | refine blk_drew ?_ | refine blk_alloc ?_ _)); exact BK103.out⟩
  have n1_ : Aside0 ((((((((w25.setCell ⟨gb111, 0, none⟩ (.int .i64 t104)).setCell ⟨gb111, 1, none⟩ (.int .i64 t105)).setCell ⟨gb111, 2, none⟩ (.int .i64 t106)).setCell ⟨gb111, 3, none⟩ (.int .i64 t107)).setCell ⟨gb111, 4, none⟩ (.string t108)).setCell ⟨gb111, 5, none⟩ (.string t109)).setCell ⟨gb111, 6, none⟩ (.bool t110)).heap[gb111]? = some (.cells #[.int .i64 t104, .int .i64 t105, .int .i64 t106, .int .i64 t107, .string t108, .string t109, .bool t110] 129 (0, 0))) := ⟨by (with_reducible repeat (first | refine blk_drewN ?_ _ | refine blk_drew ?_ | refine blk_alloc ?_ _)); refine blk_put (cs := #[.int .i64 t104, .int .i64 t105, .int .i64 t106, .int .i64 t107, .string t108, .string t109, .bool false]) ?_ 6 _ rfl; (with_reducible repeat (first | refine blk_drewN ?_ _ | refine blk_drew ?_ | refine blk_alloc ?_ _)); refine blk_put (cs := #[.int .i64 t104, .int .i64 t105, .int .i64 t106, .int .i64 t107, .string t108, .string (⟨#[]⟩ : ByteArray), .bool false]) ?_ 5 _ rfl; (with_reducible repeat (first | refine blk_drewN ?_ _ | refine blk_drew ?_ | refine blk_alloc ?_ _)); refine blk_put (cs := #[.int .i64 t104, .int .i64 t105, .int .i64 t106, .int .i64 t107, .string (⟨#[]⟩ : ByteArray), .string (⟨#[]⟩ : ByteArray), .bool false]) ?_ 4 _ rfl; (with_reducible repeat (first | refine blk_drewN ?_ _ | refine blk_drew ?_ | refine blk_alloc ?_ _)); refine blk_put (cs := #[.int .i64 t104, .int .i64 t105, .int .i64 t106, .int .i64 0, .string (⟨#[]⟩ : ByteArray), .string (⟨#[]⟩ : ByteArray), .bool false]) ?_ 3 _ rfl; (with_reducible repeat (first | refine blk_drewN ?_ _ | refine blk_drew ?_ | refine blk_alloc ?_ _)); refine blk_put (cs := #[.int .i64 t104, .int .i64 t105, .int .i64 0, .int .i64 0, .string (⟨#[]⟩ : ByteArray), .string (⟨#[]⟩ : ByteArray), .bool false]) ?_ 2 _ rfl; (with_reducible repeat (first | refine blk_drewN ?_ _ | refine blk_drew ?_ | refine blk_alloc ?_ _)); refine blk_put (cs := #[.int .i64 t104, .int .i64 0, .int .i64 0, .int .i64 0, .string (⟨#[]⟩ : ByteArray), .string (⟨#[]⟩ : ByteArray), .bool false]) ?_ 1 _ rfl; (with_reducible repeat (first | refine blk_drewN ?_ _ | refine blk_drew ?_ | refine blk_alloc ?_ _)); refine blk_put (cs := #[.int .i64 0, .int .i64 0, .int .i64 0, .int .i64 0, .string (⟨#[]⟩ : ByteArray), .string (⟨#[]⟩ : ByteArray), .bool false]) ?_ 0 _ rfl; (with_reducible repeat (first | refine blk_drewN ?_ _ | refine blk_drew ?_ | refine blk_alloc ?_ _)); exact BK111.out⟩
  have n2_ : Aside0 (Below w.heap.size w (((((((w25.setCell ⟨gb111, 0, none⟩ (.int .i64 t104)).setCell ⟨gb111, 1, none⟩ (.int .i64 t105)).setCell ⟨gb111, 2, none⟩ (.int .i64 t106)).setCell ⟨gb111, 3, none⟩ (.int .i64 t107)).setCell ⟨gb111, 4, none⟩ (.string t108)).setCell ⟨gb111, 5, none⟩ (.string t109)).setCell ⟨gb111, 6, none⟩ (.bool t110))) := ⟨by repeat (first | (with_reducible first | exact HB.out | apply below_alloc | apply pw_below_drewN | apply below_drew1 | refine below_set ?_ GE103.out | refine below_set ?_ GE111.out) | exact HB.out)⟩
  (try clear BK103)
  (try clear BK111)
  (try clear HB)
  generalize (((((((w25.setCell ⟨gb111, 0, none⟩ (.int .i64 t104)).setCell ⟨gb111, 1, none⟩ (.int .i64 t105)).setCell ⟨gb111, 2, none⟩ (.int .i64 t106)).setCell ⟨gb111, 3, none⟩ (.int .i64 t107)).setCell ⟨gb111, 4, none⟩ (.string t108)).setCell ⟨gb111, 5, none⟩ (.string t109)).setCell ⟨gb111, 6, none⟩ (.bool t110)) = w35 at n0_ n1_ n2_ ⊢
  have BK103 := n0_
  have BK111 := n1_
  have HB := n2_
  clear n0_ n1_ n2_
  try clear hs26
  try clear hfs26
  try clear hns26_0
  try clear hms26_0
  try clear hs27
  try clear hfs27
  try clear hns27_0
  try clear hms27_0
  try clear hs28
  try clear hfs28
  try clear hns28_0
  try clear hms28_0
  try clear hs29
  try clear hfs29
  try clear hns29_0
  try clear hms29_0
  try clear hs30
  try clear hfs30
  try clear hns30_0
  try clear hms30_0
  try clear hs31
  try clear hfs31
  try clear hns31_0
  try clear hms31_0
  try clear hs32
  try clear hfs32
  try clear hns32_0
  try clear hms32_0
  try clear hnb33
  try clear hnc33
  try clear hHeld
  try clear hS_
  try clear HT_
  try clear HW_
  have hczz_0 : w35.cell? ⟨gb103, 0, none⟩ = some (.int .i64 a0_0) := (blk_cell BK103.out 0).trans rfl
  have hczz_1 : w35.cell? ⟨gb103, 1, none⟩ = some (.int .i64 a0_1) := (blk_cell BK103.out 1).trans rfl
  have hczz_2 : w35.cell? ⟨gb103, 2, none⟩ = some (.int .i64 a0_2) := (blk_cell BK103.out 2).trans rfl
  have hczz_3 : w35.cell? ⟨gb103, 3, none⟩ = some (.int .i64 a0_3) := (blk_cell BK103.out 3).trans rfl
  have hczz_4 : w35.cell? ⟨gb103, 4, none⟩ = some (.string a0_4) := (blk_cell BK103.out 4).trans rfl
  have hczz_5 : w35.cell? ⟨gb103, 5, none⟩ = some (.string a0_5) := (blk_cell BK103.out 5).trans rfl
  have hczz_6 : w35.cell? ⟨gb103, 6, none⟩ = some (.bool a0_6) := (blk_cell BK103.out 6).trans rfl
  have hczz_7 : w35.cell? ⟨gb103, 7, none⟩ = some (.slice A0_7 l0_7.length c0_7) := (blk_cell BK103.out 7).trans rfl
  have hczz_8 : w35.cell? ⟨gb103, 8, none⟩ = some (.slice A0_8 l0_8.length c0_8) := (blk_cell BK103.out 8).trans rfl
  have hfzz_0 := blk_frozen BK103.out 0
  have hfzz_1 := blk_frozen BK103.out 1
  have hfzz_2 := blk_frozen BK103.out 2
  have hfzz_3 := blk_frozen BK103.out 3
  have hfzz_4 := blk_frozen BK103.out 4
  have hfzz_5 := blk_frozen BK103.out 5
  have hfzz_6 := blk_frozen BK103.out 6
  have hfzz_7 := blk_frozen BK103.out 7
  have hfzz_8 := blk_frozen BK103.out 8
  have hczf_0 : w35.cell? ⟨gb111, 0, none⟩ = some (.int .i64 t104) := (blk_cell BK111.out 0).trans rfl
  have hczf_1 : w35.cell? ⟨gb111, 1, none⟩ = some (.int .i64 t105) := (blk_cell BK111.out 1).trans rfl
  have hczf_2 : w35.cell? ⟨gb111, 2, none⟩ = some (.int .i64 t106) := (blk_cell BK111.out 2).trans rfl
  have hczf_3 : w35.cell? ⟨gb111, 3, none⟩ = some (.int .i64 t107) := (blk_cell BK111.out 3).trans rfl
  have hczf_4 : w35.cell? ⟨gb111, 4, none⟩ = some (.string t108) := (blk_cell BK111.out 4).trans rfl
  have hczf_5 : w35.cell? ⟨gb111, 5, none⟩ = some (.string t109) := (blk_cell BK111.out 5).trans rfl
  have hczf_6 : w35.cell? ⟨gb111, 6, none⟩ = some (.bool t110) := (blk_cell BK111.out 6).trans rfl
  have hfzf_0 := blk_frozen BK111.out 0
  have hfzf_1 := blk_frozen BK111.out 1
  have hfzf_2 := blk_frozen BK111.out 2
  have hfzf_3 := blk_frozen BK111.out 3
  have hfzf_4 := blk_frozen BK111.out 4
  have hfzf_5 := blk_frozen BK111.out 5
  have hfzf_6 := blk_frozen BK111.out 6
  have hNE1 := NB103_111.out
  have hNE2 := NB111_103.out
  have hnn := none_eq l0_7 l0_8 HSM.out.1 HSM.out.2
  rw [hnn]
  clear hnn
  by_cases k1 : a0_0 = 1
  · have HKD := Aside0.mk k1
    have k1b : (a0_0 == 1) = true := beq_iff_eq.mpr k1
    have k1c : (a0_0 != 1) = false := bne_eq_false_iff_eq.mpr k1
    clear k1
    obtain ⟨kj1, A180⟩ : ∃ kj1, record_listed.f kj1 a0_0 a0_1 a0_2 a0_3 a0_4 a0_5 a0_6 l0_7 l0_8 = some (listedB l0_7 l0_8) := ⟨_, listed_f _ _ _ _ _ _ _ _ _ (by have := HSM.out.1; omega) HSM.out.2 _ (Nat.lt_succ_self _)⟩
    cases hl : listedB l0_7 l0_8 with
    | false =>
      rw [hl] at A180
      have A18 := Aside0.mk A180
      clear A180
      have HV : Aside0 (r = 80) := ⟨by rw [HRV2.out, ok1 HKD.out, hl]; rfl⟩
      go_wp2
      have n0_ := Aside0.mk (blk_drew BK103.out)
      have n1_ := Aside0.mk (blk_drew BK111.out)
      have n2_ := Aside0.mk (below_drew1 HB.out)
      clear BK103
      clear BK111
      clear HB
      have BK103 := n0_
      have BK111 := n1_
      have HB := n2_
      clear n0_ n1_ n2_
      refine start_ (n := 12) (S := fun w' => w'.cell? ⟨gb103, 0, none⟩ = some (.int .i64 a0_0) ∧ w'.cell? ⟨gb103, 1, none⟩ = some (.int .i64 a0_1) ∧ w'.cell? ⟨gb103, 2, none⟩ = some (.int .i64 a0_2) ∧ w'.cell? ⟨gb103, 3, none⟩ = some (.int .i64 a0_3) ∧ w'.cell? ⟨gb103, 4, none⟩ = some (.string a0_4) ∧ w'.cell? ⟨gb103, 5, none⟩ = some (.string a0_5) ∧ w'.cell? ⟨gb103, 6, none⟩ = some (.bool a0_6) ∧ w'.cell? ⟨gb103, 7, none⟩ = some (.slice A0_7 l0_7.length c0_7) ∧ w'.cell? ⟨gb103, 8, none⟩ = some (.slice A0_8 l0_8.length c0_8)) (ds := []) #[false, false, false, false, false, false, false, false, false, false, false, false] (by kernel_rfl) rfl rfl ⟨(blk_cell BK103.out 0).trans rfl, (blk_cell BK103.out 1).trans rfl, (blk_cell BK103.out 2).trans rfl, (blk_cell BK103.out 3).trans rfl, (blk_cell BK103.out 4).trans rfl, (blk_cell BK103.out 5).trans rfl, (blk_cell BK103.out 6).trans rfl, (blk_cell BK103.out 7).trans rfl, (blk_cell BK103.out 8).trans rfl⟩ (fun hHeld => ?_); refine with_tabW record_Check.tab7 record_Check.bits7 (fun HT_ HW_ => ?_)
      generalize w35.drew = w91 at BK103 BK111 HB hHeld ⊢
      refine pure_ (i := 0) (N := some 47) (v := ?_) (a' := ?_) #[true, false, false, false, false, false, false, false, false, false, false, false] rfl rfl (any_of HT_.out (by kernel_rfl)) (fun _ _ _ h => h) (Or.inl ⟨by rfl, ?_⟩) ?_ ?_
      rotate_left
      ·intro w'
       go_simp
       with_reducible rfl
      rotate_left
      ·simp only [Act.put, List.setIfInBounds_toArray, List.set_cons_zero, List.set_cons_succ, i64_w, i32_w]
       rfl
      refine take_ (i := 1) (N := some 48) (v := ?_) (a' := ?_) #[true, true, false, false, false, false, false, false, false, false, false, false] rfl rfl (take_ofW HT_.out HW_.out (by kernel_rfl)) (fun _ _ _ h => h) (Or.inl ⟨by rfl, ?_⟩) hHeld ?_ ?_
      rotate_left
      ·rintro w' ⟨s0, s1, s2, s3, s4, s5, s6, s7, s8⟩
       go_simp
       with_reducible rfl
      rotate_left
      ·simp only [Act.put, List.setIfInBounds_toArray, List.set_cons_zero, List.set_cons_succ, i64_w, i32_w]
       rfl
      refine pure_ (i := 9) (N := some 56) (v := ?_) (a' := ?_) #[true, true, false, false, false, false, false, false, false, true, false, false] rfl rfl (any_of HT_.out (by kernel_rfl)) (fun _ _ _ h => h) (Or.inl ⟨by rfl, ?_⟩) ?_ ?_
      rotate_left
      ·intro w'
       go_simp
       with_reducible rfl
      rotate_left
      ·simp only [Act.put, List.setIfInBounds_toArray, List.set_cons_zero, List.set_cons_succ, i64_w, i32_w]
       rfl
      refine take_ (i := 2) (N := some 49) (v := ?_) (a' := ?_) #[true, true, true, false, false, false, false, false, false, true, false, false] rfl rfl (take_ofW HT_.out HW_.out (by kernel_rfl)) (fun _ _ _ h => h) (Or.inl ⟨by rfl, ?_⟩) hHeld ?_ ?_
      rotate_left
      ·rintro w' ⟨s0, s1, s2, s3, s4, s5, s6, s7, s8⟩
       go_simp
       with_reducible rfl
      rotate_left
      ·simp only [Act.put, List.setIfInBounds_toArray, List.set_cons_zero, List.set_cons_succ, i64_w, i32_w]
       rfl
      refine one_ (i := 3) (N := some 50) #[true, true, true, true, false, false, false, false, false, true, false, false] rfl rfl (one_of HT_.out (by kernel_rfl)) (by decide) (fun K hK => ?_)
      refine goes_ Try.func74 (by kernel_rfl) rfl #[.agg #[.int .i64 a0_0, .int .i64 a0_1, .int .i64 a0_2, .int .i64 a0_3, .string a0_4, .string a0_5, .bool a0_6, .slice A0_7 l0_7.length c0_7, .slice A0_8 l0_8.length c0_8]] (by rfl) rfl rfl (by (try simp only [List.map_toArray, List.map_cons, List.map_nil]); first | done | rfl | (simp only [List.length_drop, List.length_take]; rfl)) ?_
      with_reducible refine (record_listed.calls kj1 a0_0 a0_1 a0_2 a0_3 a0_4 a0_5 a0_6 _ _ l0_7 _ _ l0_8 false _ ?side1 ?side2 ?side3 ?side4 A18.out).mono ?_
      (case side1 => repeat (first | exact (Kd.C_below HR0_7.out HB.out) | (with_reducible refine Kd.C_alloc ?_ _) | (with_reducible refine Kd.C_drewN ?_ _) | (with_reducible refine Kd.C_drew ?_)))
      (case side2 => exact HC0_7.out)
      (case side3 => repeat (first | exact (Kd.C_below HR0_8.out HB.out) | (with_reducible refine Kd.C_alloc ?_ _) | (with_reducible refine Kd.C_drewN ?_ _) | (with_reducible refine Kd.C_drew ?_)))
      (case side4 => exact HC0_8.out)
      rintro e w92 ⟨rfl, hb⟩
      refine ⟨_, rfl, ?_⟩
      have n0_ := Aside0.mk (blk_below (g := gb103) (o := .cells #[.int .i64 a0_0, .int .i64 a0_1, .int .i64 a0_2, .int .i64 a0_3, .string a0_4, .string a0_5, .bool a0_6, .slice A0_7 l0_7.length c0_7, .slice A0_8 l0_8.length c0_8] 35 (0, 0)) (by (with_reducible repeat (first | refine blk_drewN ?_ _ | refine blk_drew ?_ | refine blk_alloc ?_ _)); exact BK103.out) hb)
      have n1_ := Aside0.mk (blk_below (g := gb111) (o := .cells #[.int .i64 t104, .int .i64 t105, .int .i64 t106, .int .i64 t107, .string t108, .string t109, .bool t110] 129 (0, 0)) (by (with_reducible repeat (first | refine blk_drewN ?_ _ | refine blk_drew ?_ | refine blk_alloc ?_ _)); exact BK111.out) hb)
      have n2_ := Aside0.mk (below_step (by repeat (first | (with_reducible first | exact HB.out | apply below_alloc | apply pw_below_drewN | apply below_drew1 | refine below_set ?_ GE103.out | refine below_set ?_ GE111.out) | exact HB.out)) hb)
      clear BK103
      clear BK111
      clear HB
      have BK103 := n0_
      have BK111 := n1_
      have HB := n2_
      clear n0_ n1_ n2_
      (try clear hb)
      (try clear hb2)
      (try clear hk)
      (try clear hi)
      refine hK.out _ _ ⟨(blk_cell BK103.out 0).trans rfl, (blk_cell BK103.out 1).trans rfl, (blk_cell BK103.out 2).trans rfl, (blk_cell BK103.out 3).trans rfl, (blk_cell BK103.out 4).trans rfl, (blk_cell BK103.out 5).trans rfl, (blk_cell BK103.out 6).trans rfl, (blk_cell BK103.out 7).trans rfl, (blk_cell BK103.out 8).trans rfl⟩ (fun hHeld => ?_)
      clear hK K
      refine norm_ (a' := ?_) ?_ ?_
      rotate_left
      ·show Act.put _ (some 50) _ = _
       simp only [Act.put, List.setIfInBounds_toArray, List.set_cons_zero, List.set_cons_succ, i64_w, i32_w]
       rfl
      refine pure_ (i := 4) (N := some 51) (v := ?_) (a' := ?_) #[true, true, true, true, true, false, false, false, false, true, false, false] rfl rfl (any_of HT_.out (by kernel_rfl)) (fun _ _ _ h => h) (Or.inl ⟨by rfl, ?_⟩) ?_ ?_
      rotate_left
      ·intro w'
       go_simp
       with_reducible rfl
      rotate_left
      ·simp only [Act.put, List.setIfInBounds_toArray, List.set_cons_zero, List.set_cons_succ, i64_w, i32_w]
       rfl
      refine pure_ (i := 5) (N := some 52) (v := undef) (a' := ?_) #[true, true, true, true, true, true, false, false, false, true, false, false] rfl rfl (any_of HT_.out (by kernel_rfl)) (fun _ _ _ h => h) (Or.inr ⟨by rfl, rfl⟩) ?_ ?_
      rotate_left
      ·simp only [Act.put, List.setIfInBounds_toArray, List.set_cons_zero, List.set_cons_succ, i64_w, i32_w]
       rfl
      refine pure_ (i := 6) (N := some 53) (v := undef) (a' := ?_) #[true, true, true, true, true, true, true, false, false, true, false, false] rfl rfl (any_of HT_.out (by kernel_rfl)) (fun _ _ _ h => h) (Or.inr ⟨by rfl, rfl⟩) ?_ ?_
      rotate_left
      ·simp only [Act.put, List.setIfInBounds_toArray, List.set_cons_zero, List.set_cons_succ, i64_w, i32_w]
       rfl
      refine pure_ (i := 7) (N := some 54) (v := undef) (a' := ?_) #[true, true, true, true, true, true, true, true, false, true, false, false] rfl rfl (any_of HT_.out (by kernel_rfl)) (fun _ _ _ h => h) (Or.inr ⟨by rfl, rfl⟩) ?_ ?_
      rotate_left
      ·simp only [Act.put, List.setIfInBounds_toArray, List.set_cons_zero, List.set_cons_succ, i64_w, i32_w]
       rfl
      refine pure_ (i := 8) (N := some 55) (v := ?_) (a' := ?_) #[true, true, true, true, true, true, true, true, true, true, false, false] rfl rfl (any_of HT_.out (by kernel_rfl)) (fun _ _ _ h => h) (Or.inl ⟨by rfl, ?_⟩) ?_ ?_
      rotate_left
      ·intro w'
       go_simp
       with_reducible rfl
      rotate_left
      ·simp only [Act.put, List.setIfInBounds_toArray, List.set_cons_zero, List.set_cons_succ, i64_w, i32_w]
       rfl
      refine one_ (i := 10) (N := none) #[true, true, true, true, true, true, true, true, true, true, true, false] rfl rfl (one_of HT_.out (by kernel_rfl)) (by decide) (fun K hK => ?_)
      have hs93 : w92.cell? ⟨gb111, 3, none⟩ = some (.int .i64 t107) := (blk_cell BK111.out 3).trans rfl
      have hfs93 := blk_frozen BK111.out 3
      have hns93_0 := NB103_111.out
      have hms93_0 := NB111_103.out
      refine skip_ (w1 := ?_) (by rfl) rfl ?_ ?_
      rotate_left
      ·go_simp
       rfl
      refine hK.out _ _ ⟨((cell_far (p := ⟨gb111, _, none⟩) NB103_111.out _).trans (hHeld.1)), ((cell_far (p := ⟨gb111, _, none⟩) NB103_111.out _).trans (hHeld.2.1)), ((cell_far (p := ⟨gb111, _, none⟩) NB103_111.out _).trans (hHeld.2.2.1)), ((cell_far (p := ⟨gb111, _, none⟩) NB103_111.out _).trans (hHeld.2.2.2.1)), ((cell_far (p := ⟨gb111, _, none⟩) NB103_111.out _).trans (hHeld.2.2.2.2.1)), ((cell_far (p := ⟨gb111, _, none⟩) NB103_111.out _).trans (hHeld.2.2.2.2.2.1)), ((cell_far (p := ⟨gb111, _, none⟩) NB103_111.out _).trans (hHeld.2.2.2.2.2.2.1)), ((cell_far (p := ⟨gb111, _, none⟩) NB103_111.out _).trans (hHeld.2.2.2.2.2.2.2.1)), ((cell_far (p := ⟨gb111, _, none⟩) NB103_111.out _).trans (hHeld.2.2.2.2.2.2.2.2))⟩ (fun hHeld => ?_)
      clear hK K
      refine pure_ (i := 11) (N := some 4) (v := ?_) (a' := ?_) #[true, true, true, true, true, true, true, true, true, true, true, true] rfl rfl (any_of HT_.out (by kernel_rfl)) (fun _ _ _ h => h) (Or.inl ⟨by rfl, ?_⟩) ?_ ?_
      rotate_left
      ·intro w'
       go_simp
       with_reducible rfl
      rotate_left
      ·simp only [Act.put, List.setIfInBounds_toArray, List.set_cons_zero, List.set_cons_succ, i64_w, i32_w]
       rfl
      refine done_ (done_of HT_.out (by kernel_rfl)) ?_
      try go_wp2
      go_ret
      exact ⟨by rw [HV.out]; rfl, by repeat (first | (with_reducible first | exact HB.out | apply below_alloc | apply pw_below_drewN | apply below_drew1 | refine below_set ?_ GE103.out | refine below_set ?_ GE111.out) | exact HB.out)⟩
    | true =>
      rw [hl] at A180
      have A18 := Aside0.mk A180
      clear A180
      by_cases p1 : 0 < a0_1
      · have p1b : decide (0 < a0_1) = true := decide_eq_true p1
        clear p1
        by_cases hXt : bareB a0_4 a0_5 a0_6 = true
        · have czb : (!(t104 == a0_0) || (!(t105 == a0_1) || (!(t106 == a0_2) || (!(t108.toList == a0_4.toList) || (!(t109.toList == a0_5.toList) || (!(t110 == a0_6))))))) = false := by rw [ne1 A16.out, hXt]; rfl
          have HV : Aside0 (r = 0) := ⟨by rw [HRV2.out, ok1 HKD.out, hl, p1b, hXt]; rfl⟩
          clear hXt
          go_wp2
          have n0_ := Aside0.mk (blk_drew BK103.out)
          have n1_ := Aside0.mk (blk_drew BK111.out)
          have n2_ := Aside0.mk (below_drew1 HB.out)
          clear BK103
          clear BK111
          clear HB
          have BK103 := n0_
          have BK111 := n1_
          have HB := n2_
          clear n0_ n1_ n2_
          refine start_ (n := 12) (S := fun w' => w'.cell? ⟨gb103, 0, none⟩ = some (.int .i64 a0_0) ∧ w'.cell? ⟨gb103, 1, none⟩ = some (.int .i64 a0_1) ∧ w'.cell? ⟨gb103, 2, none⟩ = some (.int .i64 a0_2) ∧ w'.cell? ⟨gb103, 3, none⟩ = some (.int .i64 a0_3) ∧ w'.cell? ⟨gb103, 4, none⟩ = some (.string a0_4) ∧ w'.cell? ⟨gb103, 5, none⟩ = some (.string a0_5) ∧ w'.cell? ⟨gb103, 6, none⟩ = some (.bool a0_6) ∧ w'.cell? ⟨gb103, 7, none⟩ = some (.slice A0_7 l0_7.length c0_7) ∧ w'.cell? ⟨gb103, 8, none⟩ = some (.slice A0_8 l0_8.length c0_8)) (ds := []) #[false, false, false, false, false, false, false, false, false, false, false, false] (by kernel_rfl) rfl rfl ⟨(blk_cell BK103.out 0).trans rfl, (blk_cell BK103.out 1).trans rfl, (blk_cell BK103.out 2).trans rfl, (blk_cell BK103.out 3).trans rfl, (blk_cell BK103.out 4).trans rfl, (blk_cell BK103.out 5).trans rfl, (blk_cell BK103.out 6).trans rfl, (blk_cell BK103.out 7).trans rfl, (blk_cell BK103.out 8).trans rfl⟩ (fun hHeld => ?_); refine with_tabW record_Check.tab7 record_Check.bits7 (fun HT_ HW_ => ?_)
          generalize w35.drew = w36 at BK103 BK111 HB hHeld ⊢
          refine pure_ (i := 0) (N := some 47) (v := ?_) (a' := ?_) #[true, false, false, false, false, false, false, false, false, false, false, false] rfl rfl (any_of HT_.out (by kernel_rfl)) (fun _ _ _ h => h) (Or.inl ⟨by rfl, ?_⟩) ?_ ?_
          rotate_left
          ·intro w'
           go_simp
           with_reducible rfl
          rotate_left
          ·simp only [Act.put, List.setIfInBounds_toArray, List.set_cons_zero, List.set_cons_succ, i64_w, i32_w]
           rfl
          refine take_ (i := 1) (N := some 48) (v := ?_) (a' := ?_) #[true, true, false, false, false, false, false, false, false, false, false, false] rfl rfl (take_ofW HT_.out HW_.out (by kernel_rfl)) (fun _ _ _ h => h) (Or.inl ⟨by rfl, ?_⟩) hHeld ?_ ?_
          rotate_left
          ·rintro w' ⟨s0, s1, s2, s3, s4, s5, s6, s7, s8⟩
           go_simp
           with_reducible rfl
          rotate_left
          ·simp only [Act.put, List.setIfInBounds_toArray, List.set_cons_zero, List.set_cons_succ, i64_w, i32_w]
           rfl
          refine pure_ (i := 9) (N := some 56) (v := ?_) (a' := ?_) #[true, true, false, false, false, false, false, false, false, true, false, false] rfl rfl (any_of HT_.out (by kernel_rfl)) (fun _ _ _ h => h) (Or.inl ⟨by rfl, ?_⟩) ?_ ?_
          rotate_left
          ·intro w'
           go_simp
           with_reducible rfl
          rotate_left
          ·simp only [Act.put, List.setIfInBounds_toArray, List.set_cons_zero, List.set_cons_succ, i64_w, i32_w]
           rfl
          refine take_ (i := 2) (N := some 49) (v := ?_) (a' := ?_) #[true, true, true, false, false, false, false, false, false, true, false, false] rfl rfl (take_ofW HT_.out HW_.out (by kernel_rfl)) (fun _ _ _ h => h) (Or.inl ⟨by rfl, ?_⟩) hHeld ?_ ?_
          rotate_left
          ·rintro w' ⟨s0, s1, s2, s3, s4, s5, s6, s7, s8⟩
           go_simp
           with_reducible rfl
          rotate_left
          ·simp only [Act.put, List.setIfInBounds_toArray, List.set_cons_zero, List.set_cons_succ, i64_w, i32_w]
           rfl
          refine one_ (i := 3) (N := some 50) #[true, true, true, true, false, false, false, false, false, true, false, false] rfl rfl (one_of HT_.out (by kernel_rfl)) (by decide) (fun K hK => ?_)
          refine goes_ Try.func74 (by kernel_rfl) rfl #[.agg #[.int .i64 a0_0, .int .i64 a0_1, .int .i64 a0_2, .int .i64 a0_3, .string a0_4, .string a0_5, .bool a0_6, .slice A0_7 l0_7.length c0_7, .slice A0_8 l0_8.length c0_8]] (by rfl) rfl rfl (by (try simp only [List.map_toArray, List.map_cons, List.map_nil]); first | done | rfl | (simp only [List.length_drop, List.length_take]; rfl)) ?_
          with_reducible refine (record_listed.calls kj1 a0_0 a0_1 a0_2 a0_3 a0_4 a0_5 a0_6 _ _ l0_7 _ _ l0_8 true _ ?side1 ?side2 ?side3 ?side4 A18.out).mono ?_
          (case side1 => repeat (first | exact (Kd.C_below HR0_7.out HB.out) | (with_reducible refine Kd.C_alloc ?_ _) | (with_reducible refine Kd.C_drewN ?_ _) | (with_reducible refine Kd.C_drew ?_)))
          (case side2 => exact HC0_7.out)
          (case side3 => repeat (first | exact (Kd.C_below HR0_8.out HB.out) | (with_reducible refine Kd.C_alloc ?_ _) | (with_reducible refine Kd.C_drewN ?_ _) | (with_reducible refine Kd.C_drew ?_)))
          (case side4 => exact HC0_8.out)
          rintro e w37 ⟨rfl, hb⟩
          refine ⟨_, rfl, ?_⟩
          have n0_ := Aside0.mk (blk_below (g := gb103) (o := .cells #[.int .i64 a0_0, .int .i64 a0_1, .int .i64 a0_2, .int .i64 a0_3, .string a0_4, .string a0_5, .bool a0_6, .slice A0_7 l0_7.length c0_7, .slice A0_8 l0_8.length c0_8] 35 (0, 0)) (by (with_reducible repeat (first | refine blk_drewN ?_ _ | refine blk_drew ?_ | refine blk_alloc ?_ _)); exact BK103.out) hb)
          have n1_ := Aside0.mk (blk_below (g := gb111) (o := .cells #[.int .i64 t104, .int .i64 t105, .int .i64 t106, .int .i64 t107, .string t108, .string t109, .bool t110] 129 (0, 0)) (by (with_reducible repeat (first | refine blk_drewN ?_ _ | refine blk_drew ?_ | refine blk_alloc ?_ _)); exact BK111.out) hb)
          have n2_ := Aside0.mk (below_step (by repeat (first | (with_reducible first | exact HB.out | apply below_alloc | apply pw_below_drewN | apply below_drew1 | refine below_set ?_ GE103.out | refine below_set ?_ GE111.out) | exact HB.out)) hb)
          clear BK103
          clear BK111
          clear HB
          have BK103 := n0_
          have BK111 := n1_
          have HB := n2_
          clear n0_ n1_ n2_
          (try clear hb)
          (try clear hb2)
          (try clear hk)
          (try clear hi)
          refine hK.out _ _ ⟨(blk_cell BK103.out 0).trans rfl, (blk_cell BK103.out 1).trans rfl, (blk_cell BK103.out 2).trans rfl, (blk_cell BK103.out 3).trans rfl, (blk_cell BK103.out 4).trans rfl, (blk_cell BK103.out 5).trans rfl, (blk_cell BK103.out 6).trans rfl, (blk_cell BK103.out 7).trans rfl, (blk_cell BK103.out 8).trans rfl⟩ (fun hHeld => ?_)
          clear hK K
          refine norm_ (a' := ?_) ?_ ?_
          rotate_left
          ·show Act.put _ (some 50) _ = _
           simp only [Act.put, List.setIfInBounds_toArray, List.set_cons_zero, List.set_cons_succ, i64_w, i32_w]
           rfl
          refine pure_ (i := 4) (N := some 51) (v := ?_) (a' := ?_) #[true, true, true, true, true, false, false, false, false, true, false, false] rfl rfl (any_of HT_.out (by kernel_rfl)) (fun _ _ _ h => h) (Or.inl ⟨by rfl, ?_⟩) ?_ ?_
          rotate_left
          ·intro w'
           go_simp
           with_reducible rfl
          rotate_left
          ·simp only [Act.put, List.setIfInBounds_toArray, List.set_cons_zero, List.set_cons_succ, i64_w, i32_w]
           rfl
          refine pure_ (i := 5) (N := some 52) (v := ?_) (a' := ?_) #[true, true, true, true, true, true, false, false, false, true, false, false] rfl rfl (any_of HT_.out (by kernel_rfl)) (fun _ _ _ h => h) (Or.inl ⟨by rfl, ?_⟩) ?_ ?_
          rotate_left
          ·intro w'
           go_simp
           with_reducible rfl
          rotate_left
          ·simp only [Act.put, List.setIfInBounds_toArray, List.set_cons_zero, List.set_cons_succ, i64_w, i32_w]
           rfl
          refine take_ (i := 6) (N := some 53) (v := ?_) (a' := ?_) #[true, true, true, true, true, true, true, false, false, true, false, false] rfl rfl (take_ofW HT_.out HW_.out (by kernel_rfl)) (fun _ _ _ h => h) (Or.inl ⟨by rfl, ?_⟩) hHeld ?_ ?_
          rotate_left
          ·rintro w' ⟨s0, s1, s2, s3, s4, s5, s6, s7, s8⟩
           go_simp
           with_reducible rfl
          rotate_left
          ·simp only [Act.put, List.setIfInBounds_toArray, List.set_cons_zero, List.set_cons_succ, i64_w, i32_w]
           rfl
          refine pure_ (i := 7) (N := some 54) (v := ?_) (a' := ?_) #[true, true, true, true, true, true, true, true, false, true, false, false] rfl rfl (any_of HT_.out (by kernel_rfl)) (fun _ _ _ h => h) (Or.inl ⟨by rfl, ?_⟩) ?_ ?_
          rotate_left
          ·intro w'
           go_simp
           with_reducible rfl
          rotate_left
          ·simp only [Act.put, List.setIfInBounds_toArray, List.set_cons_zero, List.set_cons_succ, i64_w, i32_w]
           rfl
          refine pure_ (i := 8) (N := some 55) (v := ?_) (a' := ?_) #[true, true, true, true, true, true, true, true, true, true, false, false] rfl rfl (any_of HT_.out (by kernel_rfl)) (fun _ _ _ h => h) (Or.inl ⟨by rfl, ?_⟩) ?_ ?_
          rotate_left
          ·intro w'
           go_simp
           with_reducible rfl
          rotate_left
          ·simp only [Act.put, List.setIfInBounds_toArray, List.set_cons_zero, List.set_cons_succ, i64_w, i32_w]
           rfl
          refine one_ (i := 10) (N := none) #[true, true, true, true, true, true, true, true, true, true, true, false] rfl rfl (one_of HT_.out (by kernel_rfl)) (by decide) (fun K hK => ?_)
          have hs38 : w37.cell? ⟨gb111, 3, none⟩ = some (.int .i64 t107) := (blk_cell BK111.out 3).trans rfl
          have hfs38 := blk_frozen BK111.out 3
          have hns38_0 := NB103_111.out
          have hms38_0 := NB111_103.out
          refine skip_ (w1 := ?_) (by rfl) rfl ?_ ?_
          rotate_left
          ·go_simp
           rfl
          refine hK.out _ _ ⟨((cell_far (p := ⟨gb111, _, none⟩) NB103_111.out _).trans (hHeld.1)), ((cell_far (p := ⟨gb111, _, none⟩) NB103_111.out _).trans (hHeld.2.1)), ((cell_far (p := ⟨gb111, _, none⟩) NB103_111.out _).trans (hHeld.2.2.1)), ((cell_far (p := ⟨gb111, _, none⟩) NB103_111.out _).trans (hHeld.2.2.2.1)), ((cell_far (p := ⟨gb111, _, none⟩) NB103_111.out _).trans (hHeld.2.2.2.2.1)), ((cell_far (p := ⟨gb111, _, none⟩) NB103_111.out _).trans (hHeld.2.2.2.2.2.1)), ((cell_far (p := ⟨gb111, _, none⟩) NB103_111.out _).trans (hHeld.2.2.2.2.2.2.1)), ((cell_far (p := ⟨gb111, _, none⟩) NB103_111.out _).trans (hHeld.2.2.2.2.2.2.2.1)), ((cell_far (p := ⟨gb111, _, none⟩) NB103_111.out _).trans (hHeld.2.2.2.2.2.2.2.2))⟩ (fun hHeld => ?_)
          clear hK K
          refine pure_ (i := 11) (N := some 4) (v := ?_) (a' := ?_) #[true, true, true, true, true, true, true, true, true, true, true, true] rfl rfl (any_of HT_.out (by kernel_rfl)) (fun _ _ _ h => h) (Or.inl ⟨by rfl, ?_⟩) ?_ ?_
          rotate_left
          ·intro w'
           go_simp
           with_reducible rfl
          rotate_left
          ·simp only [Act.put, List.setIfInBounds_toArray, List.set_cons_zero, List.set_cons_succ, i64_w, i32_w]
           rfl
          refine done_ (done_of HT_.out (by kernel_rfl)) ?_
          have hcz39_0 : w37.cell? ⟨gb111, 0, none⟩ = some (.int .i64 t104) := (blk_cell BK111.out 0).trans rfl
          have hcz39_1 : w37.cell? ⟨gb111, 1, none⟩ = some (.int .i64 t105) := (blk_cell BK111.out 1).trans rfl
          have hcz39_2 : w37.cell? ⟨gb111, 2, none⟩ = some (.int .i64 t106) := (blk_cell BK111.out 2).trans rfl
          have hcz39_3 : w37.cell? ⟨gb111, 3, none⟩ = some (.int .i64 t107) := (blk_cell BK111.out 3).trans rfl
          have hcz39_4 : w37.cell? ⟨gb111, 4, none⟩ = some (.string t108) := (blk_cell BK111.out 4).trans rfl
          have hcz39_5 : w37.cell? ⟨gb111, 5, none⟩ = some (.string t109) := (blk_cell BK111.out 5).trans rfl
          have hcz39_6 : w37.cell? ⟨gb111, 6, none⟩ = some (.bool t110) := (blk_cell BK111.out 6).trans rfl
          have hfz39_0 := blk_frozen BK111.out 0
          have hfz39_1 := blk_frozen BK111.out 1
          have hfz39_2 := blk_frozen BK111.out 2
          have hfz39_3 := blk_frozen BK111.out 3
          have hfz39_4 := blk_frozen BK111.out 4
          have hfz39_5 := blk_frozen BK111.out 5
          have hfz39_6 := blk_frozen BK111.out 6
          have hcz40_0 : w37.cell? ⟨gb103, 0, none⟩ = some (.int .i64 a0_0) := (blk_cell BK103.out 0).trans rfl
          have hcz40_1 : w37.cell? ⟨gb103, 1, none⟩ = some (.int .i64 a0_1) := (blk_cell BK103.out 1).trans rfl
          have hcz40_2 : w37.cell? ⟨gb103, 2, none⟩ = some (.int .i64 a0_2) := (blk_cell BK103.out 2).trans rfl
          have hcz40_3 : w37.cell? ⟨gb103, 3, none⟩ = some (.int .i64 a0_3) := (blk_cell BK103.out 3).trans rfl
          have hcz40_4 : w37.cell? ⟨gb103, 4, none⟩ = some (.string a0_4) := (blk_cell BK103.out 4).trans rfl
          have hcz40_5 : w37.cell? ⟨gb103, 5, none⟩ = some (.string a0_5) := (blk_cell BK103.out 5).trans rfl
          have hcz40_6 : w37.cell? ⟨gb103, 6, none⟩ = some (.bool a0_6) := (blk_cell BK103.out 6).trans rfl
          have hcz40_7 : w37.cell? ⟨gb103, 7, none⟩ = some (.slice A0_7 l0_7.length c0_7) := (blk_cell BK103.out 7).trans rfl
          have hcz40_8 : w37.cell? ⟨gb103, 8, none⟩ = some (.slice A0_8 l0_8.length c0_8) := (blk_cell BK103.out 8).trans rfl
          have hfz40_0 := blk_frozen BK103.out 0
          have hfz40_1 := blk_frozen BK103.out 1
          have hfz40_2 := blk_frozen BK103.out 2
          have hfz40_3 := blk_frozen BK103.out 3
          have hfz40_4 := blk_frozen BK103.out 4
          have hfz40_5 := blk_frozen BK103.out 5
          have hfz40_6 := blk_frozen BK103.out 6
          have hfz40_7 := blk_frozen BK103.out 7
          have hfz40_8 := blk_frozen BK103.out 8
          try go_wp2
          go_ret
          exact ⟨by rw [HV.out]; rfl, by repeat (first | (with_reducible first | exact HB.out | apply below_alloc | apply pw_below_drewN | apply below_drew1 | refine below_set ?_ GE103.out | refine below_set ?_ GE111.out) | exact HB.out)⟩
        · have hXf : bareB a0_4 a0_5 a0_6 = false := by simpa only [Bool.not_eq_true] using hXt
          clear hXt
          have czb : (!(t104 == a0_0) || (!(t105 == a0_1) || (!(t106 == a0_2) || (!(t108.toList == a0_4.toList) || (!(t109.toList == a0_5.toList) || (!(t110 == a0_6))))))) = true := by rw [ne1 A16.out, hXf]; rfl
          have HV : Aside0 (r = 80) := ⟨by rw [HRV2.out, ok1 HKD.out, hl, p1b, hXf]; rfl⟩
          clear hXf
          go_wp2
          have n0_ := Aside0.mk (blk_drew BK103.out)
          have n1_ := Aside0.mk (blk_drew BK111.out)
          have n2_ := Aside0.mk (below_drew1 HB.out)
          clear BK103
          clear BK111
          clear HB
          have BK103 := n0_
          have BK111 := n1_
          have HB := n2_
          clear n0_ n1_ n2_
          refine start_ (n := 12) (S := fun w' => w'.cell? ⟨gb103, 0, none⟩ = some (.int .i64 a0_0) ∧ w'.cell? ⟨gb103, 1, none⟩ = some (.int .i64 a0_1) ∧ w'.cell? ⟨gb103, 2, none⟩ = some (.int .i64 a0_2) ∧ w'.cell? ⟨gb103, 3, none⟩ = some (.int .i64 a0_3) ∧ w'.cell? ⟨gb103, 4, none⟩ = some (.string a0_4) ∧ w'.cell? ⟨gb103, 5, none⟩ = some (.string a0_5) ∧ w'.cell? ⟨gb103, 6, none⟩ = some (.bool a0_6) ∧ w'.cell? ⟨gb103, 7, none⟩ = some (.slice A0_7 l0_7.length c0_7) ∧ w'.cell? ⟨gb103, 8, none⟩ = some (.slice A0_8 l0_8.length c0_8)) (ds := []) #[false, false, false, false, false, false, false, false, false, false, false, false] (by kernel_rfl) rfl rfl ⟨(blk_cell BK103.out 0).trans rfl, (blk_cell BK103.out 1).trans rfl, (blk_cell BK103.out 2).trans rfl, (blk_cell BK103.out 3).trans rfl, (blk_cell BK103.out 4).trans rfl, (blk_cell BK103.out 5).trans rfl, (blk_cell BK103.out 6).trans rfl, (blk_cell BK103.out 7).trans rfl, (blk_cell BK103.out 8).trans rfl⟩ (fun hHeld => ?_); refine with_tabW record_Check.tab7 record_Check.bits7 (fun HT_ HW_ => ?_)
          generalize w35.drew = w36 at BK103 BK111 HB hHeld ⊢
          refine pure_ (i := 0) (N := some 47) (v := ?_) (a' := ?_) #[true, false, false, false, false, false, false, false, false, false, false, false] rfl rfl (any_of HT_.out (by kernel_rfl)) (fun _ _ _ h => h) (Or.inl ⟨by rfl, ?_⟩) ?_ ?_
          rotate_left
          ·intro w'
           go_simp
           with_reducible rfl
          rotate_left
          ·simp only [Act.put, List.setIfInBounds_toArray, List.set_cons_zero, List.set_cons_succ, i64_w, i32_w]
           rfl
          refine take_ (i := 1) (N := some 48) (v := ?_) (a' := ?_) #[true, true, false, false, false, false, false, false, false, false, false, false] rfl rfl (take_ofW HT_.out HW_.out (by kernel_rfl)) (fun _ _ _ h => h) (Or.inl ⟨by rfl, ?_⟩) hHeld ?_ ?_
          rotate_left
          ·rintro w' ⟨s0, s1, s2, s3, s4, s5, s6, s7, s8⟩
           go_simp
           with_reducible rfl
          rotate_left
          ·simp only [Act.put, List.setIfInBounds_toArray, List.set_cons_zero, List.set_cons_succ, i64_w, i32_w]
           rfl
          refine pure_ (i := 9) (N := some 56) (v := ?_) (a' := ?_) #[true, true, false, false, false, false, false, false, false, true, false, false] rfl rfl (any_of HT_.out (by kernel_rfl)) (fun _ _ _ h => h) (Or.inl ⟨by rfl, ?_⟩) ?_ ?_
          rotate_left
          ·intro w'
           go_simp
           with_reducible rfl
          rotate_left
          ·simp only [Act.put, List.setIfInBounds_toArray, List.set_cons_zero, List.set_cons_succ, i64_w, i32_w]
           rfl
          refine take_ (i := 2) (N := some 49) (v := ?_) (a' := ?_) #[true, true, true, false, false, false, false, false, false, true, false, false] rfl rfl (take_ofW HT_.out HW_.out (by kernel_rfl)) (fun _ _ _ h => h) (Or.inl ⟨by rfl, ?_⟩) hHeld ?_ ?_
          rotate_left
          ·rintro w' ⟨s0, s1, s2, s3, s4, s5, s6, s7, s8⟩
           go_simp
           with_reducible rfl
          rotate_left
          ·simp only [Act.put, List.setIfInBounds_toArray, List.set_cons_zero, List.set_cons_succ, i64_w, i32_w]
           rfl
          refine one_ (i := 3) (N := some 50) #[true, true, true, true, false, false, false, false, false, true, false, false] rfl rfl (one_of HT_.out (by kernel_rfl)) (by decide) (fun K hK => ?_)
          refine goes_ Try.func74 (by kernel_rfl) rfl #[.agg #[.int .i64 a0_0, .int .i64 a0_1, .int .i64 a0_2, .int .i64 a0_3, .string a0_4, .string a0_5, .bool a0_6, .slice A0_7 l0_7.length c0_7, .slice A0_8 l0_8.length c0_8]] (by rfl) rfl rfl (by (try simp only [List.map_toArray, List.map_cons, List.map_nil]); first | done | rfl | (simp only [List.length_drop, List.length_take]; rfl)) ?_
          with_reducible refine (record_listed.calls kj1 a0_0 a0_1 a0_2 a0_3 a0_4 a0_5 a0_6 _ _ l0_7 _ _ l0_8 true _ ?side1 ?side2 ?side3 ?side4 A18.out).mono ?_
          (case side1 => repeat (first | exact (Kd.C_below HR0_7.out HB.out) | (with_reducible refine Kd.C_alloc ?_ _) | (with_reducible refine Kd.C_drewN ?_ _) | (with_reducible refine Kd.C_drew ?_)))
          (case side2 => exact HC0_7.out)
          (case side3 => repeat (first | exact (Kd.C_below HR0_8.out HB.out) | (with_reducible refine Kd.C_alloc ?_ _) | (with_reducible refine Kd.C_drewN ?_ _) | (with_reducible refine Kd.C_drew ?_)))
          (case side4 => exact HC0_8.out)
          rintro e w37 ⟨rfl, hb⟩
          refine ⟨_, rfl, ?_⟩
          have n0_ := Aside0.mk (blk_below (g := gb103) (o := .cells #[.int .i64 a0_0, .int .i64 a0_1, .int .i64 a0_2, .int .i64 a0_3, .string a0_4, .string a0_5, .bool a0_6, .slice A0_7 l0_7.length c0_7, .slice A0_8 l0_8.length c0_8] 35 (0, 0)) (by (with_reducible repeat (first | refine blk_drewN ?_ _ | refine blk_drew ?_ | refine blk_alloc ?_ _)); exact BK103.out) hb)
          have n1_ := Aside0.mk (blk_below (g := gb111) (o := .cells #[.int .i64 t104, .int .i64 t105, .int .i64 t106, .int .i64 t107, .string t108, .string t109, .bool t110] 129 (0, 0)) (by (with_reducible repeat (first | refine blk_drewN ?_ _ | refine blk_drew ?_ | refine blk_alloc ?_ _)); exact BK111.out) hb)
          have n2_ := Aside0.mk (below_step (by repeat (first | (with_reducible first | exact HB.out | apply below_alloc | apply pw_below_drewN | apply below_drew1 | refine below_set ?_ GE103.out | refine below_set ?_ GE111.out) | exact HB.out)) hb)
          clear BK103
          clear BK111
          clear HB
          have BK103 := n0_
          have BK111 := n1_
          have HB := n2_
          clear n0_ n1_ n2_
          (try clear hb)
          (try clear hb2)
          (try clear hk)
          (try clear hi)
          refine hK.out _ _ ⟨(blk_cell BK103.out 0).trans rfl, (blk_cell BK103.out 1).trans rfl, (blk_cell BK103.out 2).trans rfl, (blk_cell BK103.out 3).trans rfl, (blk_cell BK103.out 4).trans rfl, (blk_cell BK103.out 5).trans rfl, (blk_cell BK103.out 6).trans rfl, (blk_cell BK103.out 7).trans rfl, (blk_cell BK103.out 8).trans rfl⟩ (fun hHeld => ?_)
          clear hK K
          refine norm_ (a' := ?_) ?_ ?_
          rotate_left
          ·show Act.put _ (some 50) _ = _
           simp only [Act.put, List.setIfInBounds_toArray, List.set_cons_zero, List.set_cons_succ, i64_w, i32_w]
           rfl
          refine pure_ (i := 4) (N := some 51) (v := ?_) (a' := ?_) #[true, true, true, true, true, false, false, false, false, true, false, false] rfl rfl (any_of HT_.out (by kernel_rfl)) (fun _ _ _ h => h) (Or.inl ⟨by rfl, ?_⟩) ?_ ?_
          rotate_left
          ·intro w'
           go_simp
           with_reducible rfl
          rotate_left
          ·simp only [Act.put, List.setIfInBounds_toArray, List.set_cons_zero, List.set_cons_succ, i64_w, i32_w]
           rfl
          refine pure_ (i := 5) (N := some 52) (v := ?_) (a' := ?_) #[true, true, true, true, true, true, false, false, false, true, false, false] rfl rfl (any_of HT_.out (by kernel_rfl)) (fun _ _ _ h => h) (Or.inl ⟨by rfl, ?_⟩) ?_ ?_
          rotate_left
          ·intro w'
           go_simp
           with_reducible rfl
          rotate_left
          ·simp only [Act.put, List.setIfInBounds_toArray, List.set_cons_zero, List.set_cons_succ, i64_w, i32_w]
           rfl
          refine take_ (i := 6) (N := some 53) (v := ?_) (a' := ?_) #[true, true, true, true, true, true, true, false, false, true, false, false] rfl rfl (take_ofW HT_.out HW_.out (by kernel_rfl)) (fun _ _ _ h => h) (Or.inl ⟨by rfl, ?_⟩) hHeld ?_ ?_
          rotate_left
          ·rintro w' ⟨s0, s1, s2, s3, s4, s5, s6, s7, s8⟩
           go_simp
           with_reducible rfl
          rotate_left
          ·simp only [Act.put, List.setIfInBounds_toArray, List.set_cons_zero, List.set_cons_succ, i64_w, i32_w]
           rfl
          refine pure_ (i := 7) (N := some 54) (v := ?_) (a' := ?_) #[true, true, true, true, true, true, true, true, false, true, false, false] rfl rfl (any_of HT_.out (by kernel_rfl)) (fun _ _ _ h => h) (Or.inl ⟨by rfl, ?_⟩) ?_ ?_
          rotate_left
          ·intro w'
           go_simp
           with_reducible rfl
          rotate_left
          ·simp only [Act.put, List.setIfInBounds_toArray, List.set_cons_zero, List.set_cons_succ, i64_w, i32_w]
           rfl
          refine pure_ (i := 8) (N := some 55) (v := ?_) (a' := ?_) #[true, true, true, true, true, true, true, true, true, true, false, false] rfl rfl (any_of HT_.out (by kernel_rfl)) (fun _ _ _ h => h) (Or.inl ⟨by rfl, ?_⟩) ?_ ?_
          rotate_left
          ·intro w'
           go_simp
           with_reducible rfl
          rotate_left
          ·simp only [Act.put, List.setIfInBounds_toArray, List.set_cons_zero, List.set_cons_succ, i64_w, i32_w]
           rfl
          refine one_ (i := 10) (N := none) #[true, true, true, true, true, true, true, true, true, true, true, false] rfl rfl (one_of HT_.out (by kernel_rfl)) (by decide) (fun K hK => ?_)
          have hs38 : w37.cell? ⟨gb111, 3, none⟩ = some (.int .i64 t107) := (blk_cell BK111.out 3).trans rfl
          have hfs38 := blk_frozen BK111.out 3
          have hns38_0 := NB103_111.out
          have hms38_0 := NB111_103.out
          refine skip_ (w1 := ?_) (by rfl) rfl ?_ ?_
          rotate_left
          ·go_simp
           rfl
          refine hK.out _ _ ⟨((cell_far (p := ⟨gb111, _, none⟩) NB103_111.out _).trans (hHeld.1)), ((cell_far (p := ⟨gb111, _, none⟩) NB103_111.out _).trans (hHeld.2.1)), ((cell_far (p := ⟨gb111, _, none⟩) NB103_111.out _).trans (hHeld.2.2.1)), ((cell_far (p := ⟨gb111, _, none⟩) NB103_111.out _).trans (hHeld.2.2.2.1)), ((cell_far (p := ⟨gb111, _, none⟩) NB103_111.out _).trans (hHeld.2.2.2.2.1)), ((cell_far (p := ⟨gb111, _, none⟩) NB103_111.out _).trans (hHeld.2.2.2.2.2.1)), ((cell_far (p := ⟨gb111, _, none⟩) NB103_111.out _).trans (hHeld.2.2.2.2.2.2.1)), ((cell_far (p := ⟨gb111, _, none⟩) NB103_111.out _).trans (hHeld.2.2.2.2.2.2.2.1)), ((cell_far (p := ⟨gb111, _, none⟩) NB103_111.out _).trans (hHeld.2.2.2.2.2.2.2.2))⟩ (fun hHeld => ?_)
          clear hK K
          refine pure_ (i := 11) (N := some 4) (v := ?_) (a' := ?_) #[true, true, true, true, true, true, true, true, true, true, true, true] rfl rfl (any_of HT_.out (by kernel_rfl)) (fun _ _ _ h => h) (Or.inl ⟨by rfl, ?_⟩) ?_ ?_
          rotate_left
          ·intro w'
           go_simp
           with_reducible rfl
          rotate_left
          ·simp only [Act.put, List.setIfInBounds_toArray, List.set_cons_zero, List.set_cons_succ, i64_w, i32_w]
           rfl
          refine done_ (done_of HT_.out (by kernel_rfl)) ?_
          have hcz39_0 : w37.cell? ⟨gb111, 0, none⟩ = some (.int .i64 t104) := (blk_cell BK111.out 0).trans rfl
          have hcz39_1 : w37.cell? ⟨gb111, 1, none⟩ = some (.int .i64 t105) := (blk_cell BK111.out 1).trans rfl
          have hcz39_2 : w37.cell? ⟨gb111, 2, none⟩ = some (.int .i64 t106) := (blk_cell BK111.out 2).trans rfl
          have hcz39_3 : w37.cell? ⟨gb111, 3, none⟩ = some (.int .i64 t107) := (blk_cell BK111.out 3).trans rfl
          have hcz39_4 : w37.cell? ⟨gb111, 4, none⟩ = some (.string t108) := (blk_cell BK111.out 4).trans rfl
          have hcz39_5 : w37.cell? ⟨gb111, 5, none⟩ = some (.string t109) := (blk_cell BK111.out 5).trans rfl
          have hcz39_6 : w37.cell? ⟨gb111, 6, none⟩ = some (.bool t110) := (blk_cell BK111.out 6).trans rfl
          have hfz39_0 := blk_frozen BK111.out 0
          have hfz39_1 := blk_frozen BK111.out 1
          have hfz39_2 := blk_frozen BK111.out 2
          have hfz39_3 := blk_frozen BK111.out 3
          have hfz39_4 := blk_frozen BK111.out 4
          have hfz39_5 := blk_frozen BK111.out 5
          have hfz39_6 := blk_frozen BK111.out 6
          have hcz40_0 : w37.cell? ⟨gb103, 0, none⟩ = some (.int .i64 a0_0) := (blk_cell BK103.out 0).trans rfl
          have hcz40_1 : w37.cell? ⟨gb103, 1, none⟩ = some (.int .i64 a0_1) := (blk_cell BK103.out 1).trans rfl
          have hcz40_2 : w37.cell? ⟨gb103, 2, none⟩ = some (.int .i64 a0_2) := (blk_cell BK103.out 2).trans rfl
          have hcz40_3 : w37.cell? ⟨gb103, 3, none⟩ = some (.int .i64 a0_3) := (blk_cell BK103.out 3).trans rfl
          have hcz40_4 : w37.cell? ⟨gb103, 4, none⟩ = some (.string a0_4) := (blk_cell BK103.out 4).trans rfl
          have hcz40_5 : w37.cell? ⟨gb103, 5, none⟩ = some (.string a0_5) := (blk_cell BK103.out 5).trans rfl
          have hcz40_6 : w37.cell? ⟨gb103, 6, none⟩ = some (.bool a0_6) := (blk_cell BK103.out 6).trans rfl
          have hcz40_7 : w37.cell? ⟨gb103, 7, none⟩ = some (.slice A0_7 l0_7.length c0_7) := (blk_cell BK103.out 7).trans rfl
          have hcz40_8 : w37.cell? ⟨gb103, 8, none⟩ = some (.slice A0_8 l0_8.length c0_8) := (blk_cell BK103.out 8).trans rfl
          have hfz40_0 := blk_frozen BK103.out 0
          have hfz40_1 := blk_frozen BK103.out 1
          have hfz40_2 := blk_frozen BK103.out 2
          have hfz40_3 := blk_frozen BK103.out 3
          have hfz40_4 := blk_frozen BK103.out 4
          have hfz40_5 := blk_frozen BK103.out 5
          have hfz40_6 := blk_frozen BK103.out 6
          have hfz40_7 := blk_frozen BK103.out 7
          have hfz40_8 := blk_frozen BK103.out 8
          try go_wp2
          go_ret
          exact ⟨by rw [HV.out]; rfl, by repeat (first | (with_reducible first | exact HB.out | apply below_alloc | apply pw_below_drewN | apply below_drew1 | refine below_set ?_ GE103.out | refine below_set ?_ GE111.out) | exact HB.out)⟩
      · have p1b : decide (0 < a0_1) = false := decide_eq_false p1
        clear p1
        have HV : Aside0 (r = 80) := ⟨by rw [HRV2.out, ok1 HKD.out, hl, p1b]; rfl⟩
        go_wp2
        have n0_ := Aside0.mk (blk_drew BK103.out)
        have n1_ := Aside0.mk (blk_drew BK111.out)
        have n2_ := Aside0.mk (below_drew1 HB.out)
        clear BK103
        clear BK111
        clear HB
        have BK103 := n0_
        have BK111 := n1_
        have HB := n2_
        clear n0_ n1_ n2_
        refine start_ (n := 12) (S := fun w' => w'.cell? ⟨gb103, 0, none⟩ = some (.int .i64 a0_0) ∧ w'.cell? ⟨gb103, 1, none⟩ = some (.int .i64 a0_1) ∧ w'.cell? ⟨gb103, 2, none⟩ = some (.int .i64 a0_2) ∧ w'.cell? ⟨gb103, 3, none⟩ = some (.int .i64 a0_3) ∧ w'.cell? ⟨gb103, 4, none⟩ = some (.string a0_4) ∧ w'.cell? ⟨gb103, 5, none⟩ = some (.string a0_5) ∧ w'.cell? ⟨gb103, 6, none⟩ = some (.bool a0_6) ∧ w'.cell? ⟨gb103, 7, none⟩ = some (.slice A0_7 l0_7.length c0_7) ∧ w'.cell? ⟨gb103, 8, none⟩ = some (.slice A0_8 l0_8.length c0_8)) (ds := []) #[false, false, false, false, false, false, false, false, false, false, false, false] (by kernel_rfl) rfl rfl ⟨(blk_cell BK103.out 0).trans rfl, (blk_cell BK103.out 1).trans rfl, (blk_cell BK103.out 2).trans rfl, (blk_cell BK103.out 3).trans rfl, (blk_cell BK103.out 4).trans rfl, (blk_cell BK103.out 5).trans rfl, (blk_cell BK103.out 6).trans rfl, (blk_cell BK103.out 7).trans rfl, (blk_cell BK103.out 8).trans rfl⟩ (fun hHeld => ?_); refine with_tabW record_Check.tab7 record_Check.bits7 (fun HT_ HW_ => ?_)
        generalize w35.drew = w36 at BK103 BK111 HB hHeld ⊢
        refine pure_ (i := 0) (N := some 47) (v := ?_) (a' := ?_) #[true, false, false, false, false, false, false, false, false, false, false, false] rfl rfl (any_of HT_.out (by kernel_rfl)) (fun _ _ _ h => h) (Or.inl ⟨by rfl, ?_⟩) ?_ ?_
        rotate_left
        ·intro w'
         go_simp
         with_reducible rfl
        rotate_left
        ·simp only [Act.put, List.setIfInBounds_toArray, List.set_cons_zero, List.set_cons_succ, i64_w, i32_w]
         rfl
        refine take_ (i := 1) (N := some 48) (v := ?_) (a' := ?_) #[true, true, false, false, false, false, false, false, false, false, false, false] rfl rfl (take_ofW HT_.out HW_.out (by kernel_rfl)) (fun _ _ _ h => h) (Or.inl ⟨by rfl, ?_⟩) hHeld ?_ ?_
        rotate_left
        ·rintro w' ⟨s0, s1, s2, s3, s4, s5, s6, s7, s8⟩
         go_simp
         with_reducible rfl
        rotate_left
        ·simp only [Act.put, List.setIfInBounds_toArray, List.set_cons_zero, List.set_cons_succ, i64_w, i32_w]
         rfl
        refine pure_ (i := 9) (N := some 56) (v := ?_) (a' := ?_) #[true, true, false, false, false, false, false, false, false, true, false, false] rfl rfl (any_of HT_.out (by kernel_rfl)) (fun _ _ _ h => h) (Or.inl ⟨by rfl, ?_⟩) ?_ ?_
        rotate_left
        ·intro w'
         go_simp
         with_reducible rfl
        rotate_left
        ·simp only [Act.put, List.setIfInBounds_toArray, List.set_cons_zero, List.set_cons_succ, i64_w, i32_w]
         rfl
        refine take_ (i := 2) (N := some 49) (v := ?_) (a' := ?_) #[true, true, true, false, false, false, false, false, false, true, false, false] rfl rfl (take_ofW HT_.out HW_.out (by kernel_rfl)) (fun _ _ _ h => h) (Or.inl ⟨by rfl, ?_⟩) hHeld ?_ ?_
        rotate_left
        ·rintro w' ⟨s0, s1, s2, s3, s4, s5, s6, s7, s8⟩
         go_simp
         with_reducible rfl
        rotate_left
        ·simp only [Act.put, List.setIfInBounds_toArray, List.set_cons_zero, List.set_cons_succ, i64_w, i32_w]
         rfl
        refine one_ (i := 3) (N := some 50) #[true, true, true, true, false, false, false, false, false, true, false, false] rfl rfl (one_of HT_.out (by kernel_rfl)) (by decide) (fun K hK => ?_)
        refine goes_ Try.func74 (by kernel_rfl) rfl #[.agg #[.int .i64 a0_0, .int .i64 a0_1, .int .i64 a0_2, .int .i64 a0_3, .string a0_4, .string a0_5, .bool a0_6, .slice A0_7 l0_7.length c0_7, .slice A0_8 l0_8.length c0_8]] (by rfl) rfl rfl (by (try simp only [List.map_toArray, List.map_cons, List.map_nil]); first | done | rfl | (simp only [List.length_drop, List.length_take]; rfl)) ?_
        with_reducible refine (record_listed.calls kj1 a0_0 a0_1 a0_2 a0_3 a0_4 a0_5 a0_6 _ _ l0_7 _ _ l0_8 true _ ?side1 ?side2 ?side3 ?side4 A18.out).mono ?_
        (case side1 => repeat (first | exact (Kd.C_below HR0_7.out HB.out) | (with_reducible refine Kd.C_alloc ?_ _) | (with_reducible refine Kd.C_drewN ?_ _) | (with_reducible refine Kd.C_drew ?_)))
        (case side2 => exact HC0_7.out)
        (case side3 => repeat (first | exact (Kd.C_below HR0_8.out HB.out) | (with_reducible refine Kd.C_alloc ?_ _) | (with_reducible refine Kd.C_drewN ?_ _) | (with_reducible refine Kd.C_drew ?_)))
        (case side4 => exact HC0_8.out)
        rintro e w37 ⟨rfl, hb⟩
        refine ⟨_, rfl, ?_⟩
        have n0_ := Aside0.mk (blk_below (g := gb103) (o := .cells #[.int .i64 a0_0, .int .i64 a0_1, .int .i64 a0_2, .int .i64 a0_3, .string a0_4, .string a0_5, .bool a0_6, .slice A0_7 l0_7.length c0_7, .slice A0_8 l0_8.length c0_8] 35 (0, 0)) (by (with_reducible repeat (first | refine blk_drewN ?_ _ | refine blk_drew ?_ | refine blk_alloc ?_ _)); exact BK103.out) hb)
        have n1_ := Aside0.mk (blk_below (g := gb111) (o := .cells #[.int .i64 t104, .int .i64 t105, .int .i64 t106, .int .i64 t107, .string t108, .string t109, .bool t110] 129 (0, 0)) (by (with_reducible repeat (first | refine blk_drewN ?_ _ | refine blk_drew ?_ | refine blk_alloc ?_ _)); exact BK111.out) hb)
        have n2_ := Aside0.mk (below_step (by repeat (first | (with_reducible first | exact HB.out | apply below_alloc | apply pw_below_drewN | apply below_drew1 | refine below_set ?_ GE103.out | refine below_set ?_ GE111.out) | exact HB.out)) hb)
        clear BK103
        clear BK111
        clear HB
        have BK103 := n0_
        have BK111 := n1_
        have HB := n2_
        clear n0_ n1_ n2_
        (try clear hb)
        (try clear hb2)
        (try clear hk)
        (try clear hi)
        refine hK.out _ _ ⟨(blk_cell BK103.out 0).trans rfl, (blk_cell BK103.out 1).trans rfl, (blk_cell BK103.out 2).trans rfl, (blk_cell BK103.out 3).trans rfl, (blk_cell BK103.out 4).trans rfl, (blk_cell BK103.out 5).trans rfl, (blk_cell BK103.out 6).trans rfl, (blk_cell BK103.out 7).trans rfl, (blk_cell BK103.out 8).trans rfl⟩ (fun hHeld => ?_)
        clear hK K
        refine norm_ (a' := ?_) ?_ ?_
        rotate_left
        ·show Act.put _ (some 50) _ = _
         simp only [Act.put, List.setIfInBounds_toArray, List.set_cons_zero, List.set_cons_succ, i64_w, i32_w]
         rfl
        refine pure_ (i := 4) (N := some 51) (v := ?_) (a' := ?_) #[true, true, true, true, true, false, false, false, false, true, false, false] rfl rfl (any_of HT_.out (by kernel_rfl)) (fun _ _ _ h => h) (Or.inl ⟨by rfl, ?_⟩) ?_ ?_
        rotate_left
        ·intro w'
         go_simp
         with_reducible rfl
        rotate_left
        ·simp only [Act.put, List.setIfInBounds_toArray, List.set_cons_zero, List.set_cons_succ, i64_w, i32_w]
         rfl
        refine pure_ (i := 5) (N := some 52) (v := ?_) (a' := ?_) #[true, true, true, true, true, true, false, false, false, true, false, false] rfl rfl (any_of HT_.out (by kernel_rfl)) (fun _ _ _ h => h) (Or.inl ⟨by rfl, ?_⟩) ?_ ?_
        rotate_left
        ·intro w'
         go_simp
         with_reducible rfl
        rotate_left
        ·simp only [Act.put, List.setIfInBounds_toArray, List.set_cons_zero, List.set_cons_succ, i64_w, i32_w]
         rfl
        refine take_ (i := 6) (N := some 53) (v := ?_) (a' := ?_) #[true, true, true, true, true, true, true, false, false, true, false, false] rfl rfl (take_ofW HT_.out HW_.out (by kernel_rfl)) (fun _ _ _ h => h) (Or.inl ⟨by rfl, ?_⟩) hHeld ?_ ?_
        rotate_left
        ·rintro w' ⟨s0, s1, s2, s3, s4, s5, s6, s7, s8⟩
         go_simp
         with_reducible rfl
        rotate_left
        ·simp only [Act.put, List.setIfInBounds_toArray, List.set_cons_zero, List.set_cons_succ, i64_w, i32_w]
         rfl
        refine pure_ (i := 7) (N := some 54) (v := ?_) (a' := ?_) #[true, true, true, true, true, true, true, true, false, true, false, false] rfl rfl (any_of HT_.out (by kernel_rfl)) (fun _ _ _ h => h) (Or.inl ⟨by rfl, ?_⟩) ?_ ?_
        rotate_left
        ·intro w'
         go_simp
         with_reducible rfl
        rotate_left
        ·simp only [Act.put, List.setIfInBounds_toArray, List.set_cons_zero, List.set_cons_succ, i64_w, i32_w]
         rfl
        refine pure_ (i := 8) (N := some 55) (v := ?_) (a' := ?_) #[true, true, true, true, true, true, true, true, true, true, false, false] rfl rfl (any_of HT_.out (by kernel_rfl)) (fun _ _ _ h => h) (Or.inl ⟨by rfl, ?_⟩) ?_ ?_
        rotate_left
        ·intro w'
         go_simp
         with_reducible rfl
        rotate_left
        ·simp only [Act.put, List.setIfInBounds_toArray, List.set_cons_zero, List.set_cons_succ, i64_w, i32_w]
         rfl
        refine one_ (i := 10) (N := none) #[true, true, true, true, true, true, true, true, true, true, true, false] rfl rfl (one_of HT_.out (by kernel_rfl)) (by decide) (fun K hK => ?_)
        have hs38 : w37.cell? ⟨gb111, 3, none⟩ = some (.int .i64 t107) := (blk_cell BK111.out 3).trans rfl
        have hfs38 := blk_frozen BK111.out 3
        have hns38_0 := NB103_111.out
        have hms38_0 := NB111_103.out
        refine skip_ (w1 := ?_) (by rfl) rfl ?_ ?_
        rotate_left
        ·go_simp
         rfl
        refine hK.out _ _ ⟨((cell_far (p := ⟨gb111, _, none⟩) NB103_111.out _).trans (hHeld.1)), ((cell_far (p := ⟨gb111, _, none⟩) NB103_111.out _).trans (hHeld.2.1)), ((cell_far (p := ⟨gb111, _, none⟩) NB103_111.out _).trans (hHeld.2.2.1)), ((cell_far (p := ⟨gb111, _, none⟩) NB103_111.out _).trans (hHeld.2.2.2.1)), ((cell_far (p := ⟨gb111, _, none⟩) NB103_111.out _).trans (hHeld.2.2.2.2.1)), ((cell_far (p := ⟨gb111, _, none⟩) NB103_111.out _).trans (hHeld.2.2.2.2.2.1)), ((cell_far (p := ⟨gb111, _, none⟩) NB103_111.out _).trans (hHeld.2.2.2.2.2.2.1)), ((cell_far (p := ⟨gb111, _, none⟩) NB103_111.out _).trans (hHeld.2.2.2.2.2.2.2.1)), ((cell_far (p := ⟨gb111, _, none⟩) NB103_111.out _).trans (hHeld.2.2.2.2.2.2.2.2))⟩ (fun hHeld => ?_)
        clear hK K
        refine pure_ (i := 11) (N := some 4) (v := ?_) (a' := ?_) #[true, true, true, true, true, true, true, true, true, true, true, true] rfl rfl (any_of HT_.out (by kernel_rfl)) (fun _ _ _ h => h) (Or.inl ⟨by rfl, ?_⟩) ?_ ?_
        rotate_left
        ·intro w'
         go_simp
         with_reducible rfl
        rotate_left
        ·simp only [Act.put, List.setIfInBounds_toArray, List.set_cons_zero, List.set_cons_succ, i64_w, i32_w]
         rfl
        refine done_ (done_of HT_.out (by kernel_rfl)) ?_
        have hcz39_0 : w37.cell? ⟨gb111, 0, none⟩ = some (.int .i64 t104) := (blk_cell BK111.out 0).trans rfl
        have hcz39_1 : w37.cell? ⟨gb111, 1, none⟩ = some (.int .i64 t105) := (blk_cell BK111.out 1).trans rfl
        have hcz39_2 : w37.cell? ⟨gb111, 2, none⟩ = some (.int .i64 t106) := (blk_cell BK111.out 2).trans rfl
        have hcz39_3 : w37.cell? ⟨gb111, 3, none⟩ = some (.int .i64 t107) := (blk_cell BK111.out 3).trans rfl
        have hcz39_4 : w37.cell? ⟨gb111, 4, none⟩ = some (.string t108) := (blk_cell BK111.out 4).trans rfl
        have hcz39_5 : w37.cell? ⟨gb111, 5, none⟩ = some (.string t109) := (blk_cell BK111.out 5).trans rfl
        have hcz39_6 : w37.cell? ⟨gb111, 6, none⟩ = some (.bool t110) := (blk_cell BK111.out 6).trans rfl
        have hfz39_0 := blk_frozen BK111.out 0
        have hfz39_1 := blk_frozen BK111.out 1
        have hfz39_2 := blk_frozen BK111.out 2
        have hfz39_3 := blk_frozen BK111.out 3
        have hfz39_4 := blk_frozen BK111.out 4
        have hfz39_5 := blk_frozen BK111.out 5
        have hfz39_6 := blk_frozen BK111.out 6
        have hcz40_0 : w37.cell? ⟨gb103, 0, none⟩ = some (.int .i64 a0_0) := (blk_cell BK103.out 0).trans rfl
        have hcz40_1 : w37.cell? ⟨gb103, 1, none⟩ = some (.int .i64 a0_1) := (blk_cell BK103.out 1).trans rfl
        have hcz40_2 : w37.cell? ⟨gb103, 2, none⟩ = some (.int .i64 a0_2) := (blk_cell BK103.out 2).trans rfl
        have hcz40_3 : w37.cell? ⟨gb103, 3, none⟩ = some (.int .i64 a0_3) := (blk_cell BK103.out 3).trans rfl
        have hcz40_4 : w37.cell? ⟨gb103, 4, none⟩ = some (.string a0_4) := (blk_cell BK103.out 4).trans rfl
        have hcz40_5 : w37.cell? ⟨gb103, 5, none⟩ = some (.string a0_5) := (blk_cell BK103.out 5).trans rfl
        have hcz40_6 : w37.cell? ⟨gb103, 6, none⟩ = some (.bool a0_6) := (blk_cell BK103.out 6).trans rfl
        have hcz40_7 : w37.cell? ⟨gb103, 7, none⟩ = some (.slice A0_7 l0_7.length c0_7) := (blk_cell BK103.out 7).trans rfl
        have hcz40_8 : w37.cell? ⟨gb103, 8, none⟩ = some (.slice A0_8 l0_8.length c0_8) := (blk_cell BK103.out 8).trans rfl
        have hfz40_0 := blk_frozen BK103.out 0
        have hfz40_1 := blk_frozen BK103.out 1
        have hfz40_2 := blk_frozen BK103.out 2
        have hfz40_3 := blk_frozen BK103.out 3
        have hfz40_4 := blk_frozen BK103.out 4
        have hfz40_5 := blk_frozen BK103.out 5
        have hfz40_6 := blk_frozen BK103.out 6
        have hfz40_7 := blk_frozen BK103.out 7
        have hfz40_8 := blk_frozen BK103.out 8
        try go_wp2
        go_ret
        exact ⟨by rw [HV.out]; rfl, by repeat (first | (with_reducible first | exact HB.out | apply below_alloc | apply pw_below_drewN | apply below_drew1 | refine below_set ?_ GE103.out | refine below_set ?_ GE111.out) | exact HB.out)⟩
  have k1b : (a0_0 == 1) = false := beq_eq_false_iff_ne.mpr k1
  have k1c : (a0_0 != 1) = true := bne_iff_ne.mpr k1
  by_cases k2 : a0_0 = 2
  · have HKD := Aside0.mk k2
    have k2b : (a0_0 == 2) = true := beq_iff_eq.mpr k2
    have k2c : (a0_0 != 2) = false := bne_eq_false_iff_eq.mpr k2
    clear k2
    cases hno : noneB l0_7 l0_8 with
    | false =>
      have HV : Aside0 (r = 80) := ⟨by rw [HRV2.out, ok2 HKD.out, hno]; rfl⟩
      go_wp2
      try go_wp2
      go_ret
      exact ⟨by rw [HV.out]; rfl, by repeat (first | (with_reducible first | exact HB.out | apply below_alloc | apply pw_below_drewN | apply below_drew1 | refine below_set ?_ GE103.out | refine below_set ?_ GE111.out) | exact HB.out)⟩
    | true =>
      by_cases p1 : 0 < a0_1
      · have p1b : decide (0 < a0_1) = true := decide_eq_true p1
        clear p1
        by_cases hXt : (a0_3 == 0 && bareB a0_4 a0_5 a0_6) = true
        · have czb : (!(t104 == a0_0) || (!(t105 == a0_1) || (!(t106 == a0_2) || (!(t107 == a0_3) || (!(t108.toList == a0_4.toList) || (!(t109.toList == a0_5.toList) || (!(t110 == a0_6)))))))) = false := by rw [ne2 A16.out, hXt]; rfl
          have HV : Aside0 (r = 0) := ⟨by rw [HRV2.out, ok2 HKD.out, hno, p1b, hXt]; rfl⟩
          clear hXt
          go_wp2
          try go_wp2
          go_ret
          exact ⟨by rw [HV.out]; rfl, by repeat (first | (with_reducible first | exact HB.out | apply below_alloc | apply pw_below_drewN | apply below_drew1 | refine below_set ?_ GE103.out | refine below_set ?_ GE111.out) | exact HB.out)⟩
        · have hXf : (a0_3 == 0 && bareB a0_4 a0_5 a0_6) = false := by simpa only [Bool.not_eq_true] using hXt
          clear hXt
          have czb : (!(t104 == a0_0) || (!(t105 == a0_1) || (!(t106 == a0_2) || (!(t107 == a0_3) || (!(t108.toList == a0_4.toList) || (!(t109.toList == a0_5.toList) || (!(t110 == a0_6)))))))) = true := by rw [ne2 A16.out, hXf]; rfl
          have HV : Aside0 (r = 80) := ⟨by rw [HRV2.out, ok2 HKD.out, hno, p1b, hXf]; rfl⟩
          clear hXf
          go_wp2
          try go_wp2
          go_ret
          exact ⟨by rw [HV.out]; rfl, by repeat (first | (with_reducible first | exact HB.out | apply below_alloc | apply pw_below_drewN | apply below_drew1 | refine below_set ?_ GE103.out | refine below_set ?_ GE111.out) | exact HB.out)⟩
      · have p1b : decide (0 < a0_1) = false := decide_eq_false p1
        clear p1
        have HV : Aside0 (r = 80) := ⟨by rw [HRV2.out, ok2 HKD.out, hno, p1b]; rfl⟩
        go_wp2
        try go_wp2
        go_ret
        exact ⟨by rw [HV.out]; rfl, by repeat (first | (with_reducible first | exact HB.out | apply below_alloc | apply pw_below_drewN | apply below_drew1 | refine below_set ?_ GE103.out | refine below_set ?_ GE111.out) | exact HB.out)⟩
  have k2b : (a0_0 == 2) = false := beq_eq_false_iff_ne.mpr k2
  have k2c : (a0_0 != 2) = true := bne_iff_ne.mpr k2
  by_cases k5 : a0_0 = 5
  · have HKD := Aside0.mk k5
    have k5b : (a0_0 == 5) = true := beq_iff_eq.mpr k5
    have k5c : (a0_0 != 5) = false := bne_eq_false_iff_eq.mpr k5
    clear k5
    cases hno : noneB l0_7 l0_8 with
    | false =>
      have HV : Aside0 (r = 80) := ⟨by rw [HRV2.out, ok5 HKD.out, hno]; rfl⟩
      go_wp2
      try go_wp2
      go_ret
      exact ⟨by rw [HV.out]; rfl, by repeat (first | (with_reducible first | exact HB.out | apply below_alloc | apply pw_below_drewN | apply below_drew1 | refine below_set ?_ GE103.out | refine below_set ?_ GE111.out) | exact HB.out)⟩
    | true =>
      by_cases p1 : 0 < a0_1
      · have p1b : decide (0 < a0_1) = true := decide_eq_true p1
        clear p1
        by_cases p2 : 0 < a0_2
        · have p2b : decide (0 < a0_2) = true := decide_eq_true p2
          clear p2
          by_cases hXt : (a0_3 == 0 && bareB a0_4 a0_5 a0_6) = true
          · have czb : (!(t104 == a0_0) || (!(t105 == a0_1) || (!(t106 == a0_2) || (!(t107 == a0_3) || (!(t108.toList == a0_4.toList) || (!(t109.toList == a0_5.toList) || (!(t110 == a0_6)))))))) = false := by rw [ne5 A16.out, hXt]; rfl
            have HV : Aside0 (r = 0) := ⟨by rw [HRV2.out, ok5 HKD.out, hno, p1b, p2b, hXt]; rfl⟩
            clear hXt
            go_wp2
            try go_wp2
            go_ret
            exact ⟨by rw [HV.out]; rfl, by repeat (first | (with_reducible first | exact HB.out | apply below_alloc | apply pw_below_drewN | apply below_drew1 | refine below_set ?_ GE103.out | refine below_set ?_ GE111.out) | exact HB.out)⟩
          · have hXf : (a0_3 == 0 && bareB a0_4 a0_5 a0_6) = false := by simpa only [Bool.not_eq_true] using hXt
            clear hXt
            have czb : (!(t104 == a0_0) || (!(t105 == a0_1) || (!(t106 == a0_2) || (!(t107 == a0_3) || (!(t108.toList == a0_4.toList) || (!(t109.toList == a0_5.toList) || (!(t110 == a0_6)))))))) = true := by rw [ne5 A16.out, hXf]; rfl
            have HV : Aside0 (r = 80) := ⟨by rw [HRV2.out, ok5 HKD.out, hno, p1b, p2b, hXf]; rfl⟩
            clear hXf
            go_wp2
            try go_wp2
            go_ret
            exact ⟨by rw [HV.out]; rfl, by repeat (first | (with_reducible first | exact HB.out | apply below_alloc | apply pw_below_drewN | apply below_drew1 | refine below_set ?_ GE103.out | refine below_set ?_ GE111.out) | exact HB.out)⟩
        · have p2b : decide (0 < a0_2) = false := decide_eq_false p2
          clear p2
          have HV : Aside0 (r = 80) := ⟨by rw [HRV2.out, ok5 HKD.out, hno, p1b, p2b]; rfl⟩
          go_wp2
          try go_wp2
          go_ret
          exact ⟨by rw [HV.out]; rfl, by repeat (first | (with_reducible first | exact HB.out | apply below_alloc | apply pw_below_drewN | apply below_drew1 | refine below_set ?_ GE103.out | refine below_set ?_ GE111.out) | exact HB.out)⟩
      · have p1b : decide (0 < a0_1) = false := decide_eq_false p1
        clear p1
        have HV : Aside0 (r = 80) := ⟨by rw [HRV2.out, ok5 HKD.out, hno, p1b]; rfl⟩
        go_wp2
        try go_wp2
        go_ret
        exact ⟨by rw [HV.out]; rfl, by repeat (first | (with_reducible first | exact HB.out | apply below_alloc | apply pw_below_drewN | apply below_drew1 | refine below_set ?_ GE103.out | refine below_set ?_ GE111.out) | exact HB.out)⟩
  have k5b : (a0_0 == 5) = false := beq_eq_false_iff_ne.mpr k5
  have k5c : (a0_0 != 5) = true := bne_iff_ne.mpr k5
  by_cases k6 : a0_0 = 6
  · have HKD := Aside0.mk k6
    have k6b : (a0_0 == 6) = true := beq_iff_eq.mpr k6
    have k6c : (a0_0 != 6) = false := bne_eq_false_iff_eq.mpr k6
    clear k6
    cases hno : noneB l0_7 l0_8 with
    | false =>
      have HV : Aside0 (r = 80) := ⟨by rw [HRV2.out, ok6 HKD.out, hno]; rfl⟩
      go_wp2
      have n0_ := Aside0.mk (blk_drew BK103.out)
      have n1_ := Aside0.mk (blk_drew BK111.out)
      have n2_ := Aside0.mk (below_drew1 HB.out)
      clear BK103
      clear BK111
      clear HB
      have BK103 := n0_
      have BK111 := n1_
      have HB := n2_
      clear n0_ n1_ n2_
      refine start_ (n := 9) (S := fun w' => True) (ds := []) #[false, false, false, false, false, false, false, false, false] (by kernel_rfl) rfl rfl trivial (fun hHeld => ?_); refine with_tabW record_Check.tab13 record_Check.bits13 (fun HT_ HW_ => ?_)
      generalize w35.drew = w294 at BK103 BK111 HB hHeld ⊢
      refine pure_ (i := 0) (N := some 80) (v := ?_) (a' := ?_) #[true, false, false, false, false, false, false, false, false] rfl rfl (any_of HT_.out (by kernel_rfl)) (fun _ _ _ h => h) (Or.inl ⟨by rfl, ?_⟩) ?_ ?_
      rotate_left
      ·intro w'
       go_simp
       with_reducible rfl
      rotate_left
      ·simp only [Act.put, List.setIfInBounds_toArray, List.set_cons_zero, List.set_cons_succ, i64_w, i32_w]
       rfl
      refine pure_ (i := 1) (N := some 81) (v := ?_) (a' := ?_) #[true, true, false, false, false, false, false, false, false] rfl rfl (any_of HT_.out (by kernel_rfl)) (fun _ _ _ h => h) (Or.inl ⟨by rfl, ?_⟩) ?_ ?_
      rotate_left
      ·intro w'
       go_simp
       with_reducible rfl
      rotate_left
      ·simp only [Act.put, List.setIfInBounds_toArray, List.set_cons_zero, List.set_cons_succ, i64_w, i32_w]
       rfl
      refine pure_ (i := 2) (N := some 82) (v := undef) (a' := ?_) #[true, true, true, false, false, false, false, false, false] rfl rfl (any_of HT_.out (by kernel_rfl)) (fun _ _ _ h => h) (Or.inr ⟨by rfl, rfl⟩) ?_ ?_
      rotate_left
      ·simp only [Act.put, List.setIfInBounds_toArray, List.set_cons_zero, List.set_cons_succ, i64_w, i32_w]
       rfl
      refine pure_ (i := 3) (N := some 83) (v := undef) (a' := ?_) #[true, true, true, true, false, false, false, false, false] rfl rfl (any_of HT_.out (by kernel_rfl)) (fun _ _ _ h => h) (Or.inr ⟨by rfl, rfl⟩) ?_ ?_
      rotate_left
      ·simp only [Act.put, List.setIfInBounds_toArray, List.set_cons_zero, List.set_cons_succ, i64_w, i32_w]
       rfl
      refine pure_ (i := 4) (N := some 84) (v := undef) (a' := ?_) #[true, true, true, true, true, false, false, false, false] rfl rfl (any_of HT_.out (by kernel_rfl)) (fun _ _ _ h => h) (Or.inr ⟨by rfl, rfl⟩) ?_ ?_
      rotate_left
      ·simp only [Act.put, List.setIfInBounds_toArray, List.set_cons_zero, List.set_cons_succ, i64_w, i32_w]
       rfl
      refine pure_ (i := 5) (N := some 85) (v := ?_) (a' := ?_) #[true, true, true, true, true, true, false, false, false] rfl rfl (any_of HT_.out (by kernel_rfl)) (fun _ _ _ h => h) (Or.inl ⟨by rfl, ?_⟩) ?_ ?_
      rotate_left
      ·intro w'
       go_simp
       with_reducible rfl
      rotate_left
      ·simp only [Act.put, List.setIfInBounds_toArray, List.set_cons_zero, List.set_cons_succ, i64_w, i32_w]
       rfl
      refine pure_ (i := 6) (N := some 86) (v := ?_) (a' := ?_) #[true, true, true, true, true, true, true, false, false] rfl rfl (any_of HT_.out (by kernel_rfl)) (fun _ _ _ h => h) (Or.inl ⟨by rfl, ?_⟩) ?_ ?_
      rotate_left
      ·intro w'
       go_simp
       with_reducible rfl
      rotate_left
      ·simp only [Act.put, List.setIfInBounds_toArray, List.set_cons_zero, List.set_cons_succ, i64_w, i32_w]
       rfl
      refine one_ (i := 7) (N := none) #[true, true, true, true, true, true, true, true, false] rfl rfl (one_of HT_.out (by kernel_rfl)) (by decide) (fun K hK => ?_)
      have hs295 : w294.cell? ⟨gb111, 2, none⟩ = some (.int .i64 t106) := (blk_cell BK111.out 2).trans rfl
      have hfs295 := blk_frozen BK111.out 2
      have hns295_0 := NB103_111.out
      have hms295_0 := NB111_103.out
      refine skip_ (w1 := ?_) (by rfl) rfl ?_ ?_
      rotate_left
      ·go_simp
       rfl
      refine hK.out _ _ trivial (fun hHeld => ?_)
      clear hK K
      refine pure_ (i := 8) (N := some 4) (v := ?_) (a' := ?_) #[true, true, true, true, true, true, true, true, true] rfl rfl (any_of HT_.out (by kernel_rfl)) (fun _ _ _ h => h) (Or.inl ⟨by rfl, ?_⟩) ?_ ?_
      rotate_left
      ·intro w'
       go_simp
       with_reducible rfl
      rotate_left
      ·simp only [Act.put, List.setIfInBounds_toArray, List.set_cons_zero, List.set_cons_succ, i64_w, i32_w]
       rfl
      refine done_ (done_of HT_.out (by kernel_rfl)) ?_
      try go_wp2
      go_ret
      exact ⟨by rw [HV.out]; rfl, by repeat (first | (with_reducible first | exact HB.out | apply below_alloc | apply pw_below_drewN | apply below_drew1 | refine below_set ?_ GE103.out | refine below_set ?_ GE111.out) | exact HB.out)⟩
    | true =>
      by_cases p1 : 0 < a0_1
      · have p1b : decide (0 < a0_1) = true := decide_eq_true p1
        clear p1
        by_cases hXt : (a0_2 == 0 && (a0_3 == 0 && bareB a0_4 a0_5 a0_6)) = true
        · have czb : (!(t104 == a0_0) || (!(t105 == a0_1) || (!(0 == a0_2) || (!(t107 == a0_3) || (!(t108.toList == a0_4.toList) || (!(t109.toList == a0_5.toList) || (!(t110 == a0_6)))))))) = false := by rw [ne6 A16.out, hXt]; rfl
          have HV : Aside0 (r = 0) := ⟨by rw [HRV2.out, ok6 HKD.out, hno, p1b, hXt]; rfl⟩
          clear hXt
          go_wp2
          have n0_ := Aside0.mk (blk_drew BK103.out)
          have n1_ := Aside0.mk (blk_drew BK111.out)
          have n2_ := Aside0.mk (below_drew1 HB.out)
          clear BK103
          clear BK111
          clear HB
          have BK103 := n0_
          have BK111 := n1_
          have HB := n2_
          clear n0_ n1_ n2_
          refine start_ (n := 9) (S := fun w' => w'.cell? ⟨gb103, 0, none⟩ = some (.int .i64 a0_0) ∧ w'.cell? ⟨gb103, 1, none⟩ = some (.int .i64 a0_1) ∧ w'.cell? ⟨gb103, 2, none⟩ = some (.int .i64 a0_2) ∧ w'.cell? ⟨gb103, 3, none⟩ = some (.int .i64 a0_3) ∧ w'.cell? ⟨gb103, 4, none⟩ = some (.string a0_4) ∧ w'.cell? ⟨gb103, 5, none⟩ = some (.string a0_5) ∧ w'.cell? ⟨gb103, 6, none⟩ = some (.bool a0_6) ∧ w'.cell? ⟨gb103, 7, none⟩ = some (.slice A0_7 l0_7.length c0_7) ∧ w'.cell? ⟨gb103, 8, none⟩ = some (.slice A0_8 l0_8.length c0_8)) (ds := []) #[false, false, false, false, false, false, false, false, false] (by kernel_rfl) rfl rfl ⟨(blk_cell BK103.out 0).trans rfl, (blk_cell BK103.out 1).trans rfl, (blk_cell BK103.out 2).trans rfl, (blk_cell BK103.out 3).trans rfl, (blk_cell BK103.out 4).trans rfl, (blk_cell BK103.out 5).trans rfl, (blk_cell BK103.out 6).trans rfl, (blk_cell BK103.out 7).trans rfl, (blk_cell BK103.out 8).trans rfl⟩ (fun hHeld => ?_); refine with_tabW record_Check.tab13 record_Check.bits13 (fun HT_ HW_ => ?_)
          generalize w35.drew = w242 at BK103 BK111 HB hHeld ⊢
          refine pure_ (i := 0) (N := some 80) (v := ?_) (a' := ?_) #[true, false, false, false, false, false, false, false, false] rfl rfl (any_of HT_.out (by kernel_rfl)) (fun _ _ _ h => h) (Or.inl ⟨by rfl, ?_⟩) ?_ ?_
          rotate_left
          ·intro w'
           go_simp
           with_reducible rfl
          rotate_left
          ·simp only [Act.put, List.setIfInBounds_toArray, List.set_cons_zero, List.set_cons_succ, i64_w, i32_w]
           rfl
          refine pure_ (i := 1) (N := some 81) (v := ?_) (a' := ?_) #[true, true, false, false, false, false, false, false, false] rfl rfl (any_of HT_.out (by kernel_rfl)) (fun _ _ _ h => h) (Or.inl ⟨by rfl, ?_⟩) ?_ ?_
          rotate_left
          ·intro w'
           go_simp
           with_reducible rfl
          rotate_left
          ·simp only [Act.put, List.setIfInBounds_toArray, List.set_cons_zero, List.set_cons_succ, i64_w, i32_w]
           rfl
          refine pure_ (i := 2) (N := some 82) (v := ?_) (a' := ?_) #[true, true, true, false, false, false, false, false, false] rfl rfl (any_of HT_.out (by kernel_rfl)) (fun _ _ _ h => h) (Or.inl ⟨by rfl, ?_⟩) ?_ ?_
          rotate_left
          ·intro w'
           go_simp
           with_reducible rfl
          rotate_left
          ·simp only [Act.put, List.setIfInBounds_toArray, List.set_cons_zero, List.set_cons_succ, i64_w, i32_w]
           rfl
          refine pure_ (i := 6) (N := some 86) (v := ?_) (a' := ?_) #[true, true, true, false, false, false, true, false, false] rfl rfl (any_of HT_.out (by kernel_rfl)) (fun _ _ _ h => h) (Or.inl ⟨by rfl, ?_⟩) ?_ ?_
          rotate_left
          ·intro w'
           go_simp
           with_reducible rfl
          rotate_left
          ·simp only [Act.put, List.setIfInBounds_toArray, List.set_cons_zero, List.set_cons_succ, i64_w, i32_w]
           rfl
          refine take_ (i := 3) (N := some 83) (v := ?_) (a' := ?_) #[true, true, true, true, false, false, true, false, false] rfl rfl (take_ofW HT_.out HW_.out (by kernel_rfl)) (fun _ _ _ h => h) (Or.inl ⟨by rfl, ?_⟩) hHeld ?_ ?_
          rotate_left
          ·rintro w' ⟨s0, s1, s2, s3, s4, s5, s6, s7, s8⟩
           go_simp
           with_reducible rfl
          rotate_left
          ·simp only [Act.put, List.setIfInBounds_toArray, List.set_cons_zero, List.set_cons_succ, i64_w, i32_w]
           rfl
          refine pure_ (i := 4) (N := some 84) (v := ?_) (a' := ?_) #[true, true, true, true, true, false, true, false, false] rfl rfl (any_of HT_.out (by kernel_rfl)) (fun _ _ _ h => h) (Or.inl ⟨by rfl, ?_⟩) ?_ ?_
          rotate_left
          ·intro w'
           go_simp
           with_reducible rfl
          rotate_left
          ·simp only [Act.put, List.setIfInBounds_toArray, List.set_cons_zero, List.set_cons_succ, i64_w, i32_w]
           rfl
          refine pure_ (i := 5) (N := some 85) (v := ?_) (a' := ?_) #[true, true, true, true, true, true, true, false, false] rfl rfl (any_of HT_.out (by kernel_rfl)) (fun _ _ _ h => h) (Or.inl ⟨by rfl, ?_⟩) ?_ ?_
          rotate_left
          ·intro w'
           go_simp
           with_reducible rfl
          rotate_left
          ·simp only [Act.put, List.setIfInBounds_toArray, List.set_cons_zero, List.set_cons_succ, i64_w, i32_w]
           rfl
          refine one_ (i := 7) (N := none) #[true, true, true, true, true, true, true, true, false] rfl rfl (one_of HT_.out (by kernel_rfl)) (by decide) (fun K hK => ?_)
          have hs243 : w242.cell? ⟨gb111, 2, none⟩ = some (.int .i64 t106) := (blk_cell BK111.out 2).trans rfl
          have hfs243 := blk_frozen BK111.out 2
          have hns243_0 := NB103_111.out
          have hms243_0 := NB111_103.out
          refine skip_ (w1 := ?_) (by rfl) rfl ?_ ?_
          rotate_left
          ·go_simp
           rfl
          refine hK.out _ _ ⟨((cell_far (p := ⟨gb111, _, none⟩) NB103_111.out _).trans (hHeld.1)), ((cell_far (p := ⟨gb111, _, none⟩) NB103_111.out _).trans (hHeld.2.1)), ((cell_far (p := ⟨gb111, _, none⟩) NB103_111.out _).trans (hHeld.2.2.1)), ((cell_far (p := ⟨gb111, _, none⟩) NB103_111.out _).trans (hHeld.2.2.2.1)), ((cell_far (p := ⟨gb111, _, none⟩) NB103_111.out _).trans (hHeld.2.2.2.2.1)), ((cell_far (p := ⟨gb111, _, none⟩) NB103_111.out _).trans (hHeld.2.2.2.2.2.1)), ((cell_far (p := ⟨gb111, _, none⟩) NB103_111.out _).trans (hHeld.2.2.2.2.2.2.1)), ((cell_far (p := ⟨gb111, _, none⟩) NB103_111.out _).trans (hHeld.2.2.2.2.2.2.2.1)), ((cell_far (p := ⟨gb111, _, none⟩) NB103_111.out _).trans (hHeld.2.2.2.2.2.2.2.2))⟩ (fun hHeld => ?_)
          clear hK K
          refine pure_ (i := 8) (N := some 4) (v := ?_) (a' := ?_) #[true, true, true, true, true, true, true, true, true] rfl rfl (any_of HT_.out (by kernel_rfl)) (fun _ _ _ h => h) (Or.inl ⟨by rfl, ?_⟩) ?_ ?_
          rotate_left
          ·intro w'
           go_simp
           with_reducible rfl
          rotate_left
          ·simp only [Act.put, List.setIfInBounds_toArray, List.set_cons_zero, List.set_cons_succ, i64_w, i32_w]
           rfl
          refine done_ (done_of HT_.out (by kernel_rfl)) ?_
          have hcz244_0 : w242.cell? ⟨gb111, 0, none⟩ = some (.int .i64 t104) := (blk_cell BK111.out 0).trans rfl
          have hcz244_1 : w242.cell? ⟨gb111, 1, none⟩ = some (.int .i64 t105) := (blk_cell BK111.out 1).trans rfl
          have hcz244_2 : w242.cell? ⟨gb111, 2, none⟩ = some (.int .i64 t106) := (blk_cell BK111.out 2).trans rfl
          have hcz244_3 : w242.cell? ⟨gb111, 3, none⟩ = some (.int .i64 t107) := (blk_cell BK111.out 3).trans rfl
          have hcz244_4 : w242.cell? ⟨gb111, 4, none⟩ = some (.string t108) := (blk_cell BK111.out 4).trans rfl
          have hcz244_5 : w242.cell? ⟨gb111, 5, none⟩ = some (.string t109) := (blk_cell BK111.out 5).trans rfl
          have hcz244_6 : w242.cell? ⟨gb111, 6, none⟩ = some (.bool t110) := (blk_cell BK111.out 6).trans rfl
          have hfz244_0 := blk_frozen BK111.out 0
          have hfz244_1 := blk_frozen BK111.out 1
          have hfz244_2 := blk_frozen BK111.out 2
          have hfz244_3 := blk_frozen BK111.out 3
          have hfz244_4 := blk_frozen BK111.out 4
          have hfz244_5 := blk_frozen BK111.out 5
          have hfz244_6 := blk_frozen BK111.out 6
          have hcz245_0 : w242.cell? ⟨gb103, 0, none⟩ = some (.int .i64 a0_0) := (blk_cell BK103.out 0).trans rfl
          have hcz245_1 : w242.cell? ⟨gb103, 1, none⟩ = some (.int .i64 a0_1) := (blk_cell BK103.out 1).trans rfl
          have hcz245_2 : w242.cell? ⟨gb103, 2, none⟩ = some (.int .i64 a0_2) := (blk_cell BK103.out 2).trans rfl
          have hcz245_3 : w242.cell? ⟨gb103, 3, none⟩ = some (.int .i64 a0_3) := (blk_cell BK103.out 3).trans rfl
          have hcz245_4 : w242.cell? ⟨gb103, 4, none⟩ = some (.string a0_4) := (blk_cell BK103.out 4).trans rfl
          have hcz245_5 : w242.cell? ⟨gb103, 5, none⟩ = some (.string a0_5) := (blk_cell BK103.out 5).trans rfl
          have hcz245_6 : w242.cell? ⟨gb103, 6, none⟩ = some (.bool a0_6) := (blk_cell BK103.out 6).trans rfl
          have hcz245_7 : w242.cell? ⟨gb103, 7, none⟩ = some (.slice A0_7 l0_7.length c0_7) := (blk_cell BK103.out 7).trans rfl
          have hcz245_8 : w242.cell? ⟨gb103, 8, none⟩ = some (.slice A0_8 l0_8.length c0_8) := (blk_cell BK103.out 8).trans rfl
          have hfz245_0 := blk_frozen BK103.out 0
          have hfz245_1 := blk_frozen BK103.out 1
          have hfz245_2 := blk_frozen BK103.out 2
          have hfz245_3 := blk_frozen BK103.out 3
          have hfz245_4 := blk_frozen BK103.out 4
          have hfz245_5 := blk_frozen BK103.out 5
          have hfz245_6 := blk_frozen BK103.out 6
          have hfz245_7 := blk_frozen BK103.out 7
          have hfz245_8 := blk_frozen BK103.out 8
          try go_wp2
          go_ret
          exact ⟨by rw [HV.out]; rfl, by repeat (first | (with_reducible first | exact HB.out | apply below_alloc | apply pw_below_drewN | apply below_drew1 | refine below_set ?_ GE103.out | refine below_set ?_ GE111.out) | exact HB.out)⟩
        · have hXf : (a0_2 == 0 && (a0_3 == 0 && bareB a0_4 a0_5 a0_6)) = false := by simpa only [Bool.not_eq_true] using hXt
          clear hXt
          have czb : (!(t104 == a0_0) || (!(t105 == a0_1) || (!(0 == a0_2) || (!(t107 == a0_3) || (!(t108.toList == a0_4.toList) || (!(t109.toList == a0_5.toList) || (!(t110 == a0_6)))))))) = true := by rw [ne6 A16.out, hXf]; rfl
          have HV : Aside0 (r = 80) := ⟨by rw [HRV2.out, ok6 HKD.out, hno, p1b, hXf]; rfl⟩
          clear hXf
          go_wp2
          have n0_ := Aside0.mk (blk_drew BK103.out)
          have n1_ := Aside0.mk (blk_drew BK111.out)
          have n2_ := Aside0.mk (below_drew1 HB.out)
          clear BK103
          clear BK111
          clear HB
          have BK103 := n0_
          have BK111 := n1_
          have HB := n2_
          clear n0_ n1_ n2_
          refine start_ (n := 9) (S := fun w' => w'.cell? ⟨gb103, 0, none⟩ = some (.int .i64 a0_0) ∧ w'.cell? ⟨gb103, 1, none⟩ = some (.int .i64 a0_1) ∧ w'.cell? ⟨gb103, 2, none⟩ = some (.int .i64 a0_2) ∧ w'.cell? ⟨gb103, 3, none⟩ = some (.int .i64 a0_3) ∧ w'.cell? ⟨gb103, 4, none⟩ = some (.string a0_4) ∧ w'.cell? ⟨gb103, 5, none⟩ = some (.string a0_5) ∧ w'.cell? ⟨gb103, 6, none⟩ = some (.bool a0_6) ∧ w'.cell? ⟨gb103, 7, none⟩ = some (.slice A0_7 l0_7.length c0_7) ∧ w'.cell? ⟨gb103, 8, none⟩ = some (.slice A0_8 l0_8.length c0_8)) (ds := []) #[false, false, false, false, false, false, false, false, false] (by kernel_rfl) rfl rfl ⟨(blk_cell BK103.out 0).trans rfl, (blk_cell BK103.out 1).trans rfl, (blk_cell BK103.out 2).trans rfl, (blk_cell BK103.out 3).trans rfl, (blk_cell BK103.out 4).trans rfl, (blk_cell BK103.out 5).trans rfl, (blk_cell BK103.out 6).trans rfl, (blk_cell BK103.out 7).trans rfl, (blk_cell BK103.out 8).trans rfl⟩ (fun hHeld => ?_); refine with_tabW record_Check.tab13 record_Check.bits13 (fun HT_ HW_ => ?_)
          generalize w35.drew = w242 at BK103 BK111 HB hHeld ⊢
          refine pure_ (i := 0) (N := some 80) (v := ?_) (a' := ?_) #[true, false, false, false, false, false, false, false, false] rfl rfl (any_of HT_.out (by kernel_rfl)) (fun _ _ _ h => h) (Or.inl ⟨by rfl, ?_⟩) ?_ ?_
          rotate_left
          ·intro w'
           go_simp
           with_reducible rfl
          rotate_left
          ·simp only [Act.put, List.setIfInBounds_toArray, List.set_cons_zero, List.set_cons_succ, i64_w, i32_w]
           rfl
          refine pure_ (i := 1) (N := some 81) (v := ?_) (a' := ?_) #[true, true, false, false, false, false, false, false, false] rfl rfl (any_of HT_.out (by kernel_rfl)) (fun _ _ _ h => h) (Or.inl ⟨by rfl, ?_⟩) ?_ ?_
          rotate_left
          ·intro w'
           go_simp
           with_reducible rfl
          rotate_left
          ·simp only [Act.put, List.setIfInBounds_toArray, List.set_cons_zero, List.set_cons_succ, i64_w, i32_w]
           rfl
          refine pure_ (i := 2) (N := some 82) (v := ?_) (a' := ?_) #[true, true, true, false, false, false, false, false, false] rfl rfl (any_of HT_.out (by kernel_rfl)) (fun _ _ _ h => h) (Or.inl ⟨by rfl, ?_⟩) ?_ ?_
          rotate_left
          ·intro w'
           go_simp
           with_reducible rfl
          rotate_left
          ·simp only [Act.put, List.setIfInBounds_toArray, List.set_cons_zero, List.set_cons_succ, i64_w, i32_w]
           rfl
          refine pure_ (i := 6) (N := some 86) (v := ?_) (a' := ?_) #[true, true, true, false, false, false, true, false, false] rfl rfl (any_of HT_.out (by kernel_rfl)) (fun _ _ _ h => h) (Or.inl ⟨by rfl, ?_⟩) ?_ ?_
          rotate_left
          ·intro w'
           go_simp
           with_reducible rfl
          rotate_left
          ·simp only [Act.put, List.setIfInBounds_toArray, List.set_cons_zero, List.set_cons_succ, i64_w, i32_w]
           rfl
          refine take_ (i := 3) (N := some 83) (v := ?_) (a' := ?_) #[true, true, true, true, false, false, true, false, false] rfl rfl (take_ofW HT_.out HW_.out (by kernel_rfl)) (fun _ _ _ h => h) (Or.inl ⟨by rfl, ?_⟩) hHeld ?_ ?_
          rotate_left
          ·rintro w' ⟨s0, s1, s2, s3, s4, s5, s6, s7, s8⟩
           go_simp
           with_reducible rfl
          rotate_left
          ·simp only [Act.put, List.setIfInBounds_toArray, List.set_cons_zero, List.set_cons_succ, i64_w, i32_w]
           rfl
          refine pure_ (i := 4) (N := some 84) (v := ?_) (a' := ?_) #[true, true, true, true, true, false, true, false, false] rfl rfl (any_of HT_.out (by kernel_rfl)) (fun _ _ _ h => h) (Or.inl ⟨by rfl, ?_⟩) ?_ ?_
          rotate_left
          ·intro w'
           go_simp
           with_reducible rfl
          rotate_left
          ·simp only [Act.put, List.setIfInBounds_toArray, List.set_cons_zero, List.set_cons_succ, i64_w, i32_w]
           rfl
          refine pure_ (i := 5) (N := some 85) (v := ?_) (a' := ?_) #[true, true, true, true, true, true, true, false, false] rfl rfl (any_of HT_.out (by kernel_rfl)) (fun _ _ _ h => h) (Or.inl ⟨by rfl, ?_⟩) ?_ ?_
          rotate_left
          ·intro w'
           go_simp
           with_reducible rfl
          rotate_left
          ·simp only [Act.put, List.setIfInBounds_toArray, List.set_cons_zero, List.set_cons_succ, i64_w, i32_w]
           rfl
          refine one_ (i := 7) (N := none) #[true, true, true, true, true, true, true, true, false] rfl rfl (one_of HT_.out (by kernel_rfl)) (by decide) (fun K hK => ?_)
          have hs243 : w242.cell? ⟨gb111, 2, none⟩ = some (.int .i64 t106) := (blk_cell BK111.out 2).trans rfl
          have hfs243 := blk_frozen BK111.out 2
          have hns243_0 := NB103_111.out
          have hms243_0 := NB111_103.out
          refine skip_ (w1 := ?_) (by rfl) rfl ?_ ?_
          rotate_left
          ·go_simp
           rfl
          refine hK.out _ _ ⟨((cell_far (p := ⟨gb111, _, none⟩) NB103_111.out _).trans (hHeld.1)), ((cell_far (p := ⟨gb111, _, none⟩) NB103_111.out _).trans (hHeld.2.1)), ((cell_far (p := ⟨gb111, _, none⟩) NB103_111.out _).trans (hHeld.2.2.1)), ((cell_far (p := ⟨gb111, _, none⟩) NB103_111.out _).trans (hHeld.2.2.2.1)), ((cell_far (p := ⟨gb111, _, none⟩) NB103_111.out _).trans (hHeld.2.2.2.2.1)), ((cell_far (p := ⟨gb111, _, none⟩) NB103_111.out _).trans (hHeld.2.2.2.2.2.1)), ((cell_far (p := ⟨gb111, _, none⟩) NB103_111.out _).trans (hHeld.2.2.2.2.2.2.1)), ((cell_far (p := ⟨gb111, _, none⟩) NB103_111.out _).trans (hHeld.2.2.2.2.2.2.2.1)), ((cell_far (p := ⟨gb111, _, none⟩) NB103_111.out _).trans (hHeld.2.2.2.2.2.2.2.2))⟩ (fun hHeld => ?_)
          clear hK K
          refine pure_ (i := 8) (N := some 4) (v := ?_) (a' := ?_) #[true, true, true, true, true, true, true, true, true] rfl rfl (any_of HT_.out (by kernel_rfl)) (fun _ _ _ h => h) (Or.inl ⟨by rfl, ?_⟩) ?_ ?_
          rotate_left
          ·intro w'
           go_simp
           with_reducible rfl
          rotate_left
          ·simp only [Act.put, List.setIfInBounds_toArray, List.set_cons_zero, List.set_cons_succ, i64_w, i32_w]
           rfl
          refine done_ (done_of HT_.out (by kernel_rfl)) ?_
          have hcz244_0 : w242.cell? ⟨gb111, 0, none⟩ = some (.int .i64 t104) := (blk_cell BK111.out 0).trans rfl
          have hcz244_1 : w242.cell? ⟨gb111, 1, none⟩ = some (.int .i64 t105) := (blk_cell BK111.out 1).trans rfl
          have hcz244_2 : w242.cell? ⟨gb111, 2, none⟩ = some (.int .i64 t106) := (blk_cell BK111.out 2).trans rfl
          have hcz244_3 : w242.cell? ⟨gb111, 3, none⟩ = some (.int .i64 t107) := (blk_cell BK111.out 3).trans rfl
          have hcz244_4 : w242.cell? ⟨gb111, 4, none⟩ = some (.string t108) := (blk_cell BK111.out 4).trans rfl
          have hcz244_5 : w242.cell? ⟨gb111, 5, none⟩ = some (.string t109) := (blk_cell BK111.out 5).trans rfl
          have hcz244_6 : w242.cell? ⟨gb111, 6, none⟩ = some (.bool t110) := (blk_cell BK111.out 6).trans rfl
          have hfz244_0 := blk_frozen BK111.out 0
          have hfz244_1 := blk_frozen BK111.out 1
          have hfz244_2 := blk_frozen BK111.out 2
          have hfz244_3 := blk_frozen BK111.out 3
          have hfz244_4 := blk_frozen BK111.out 4
          have hfz244_5 := blk_frozen BK111.out 5
          have hfz244_6 := blk_frozen BK111.out 6
          have hcz245_0 : w242.cell? ⟨gb103, 0, none⟩ = some (.int .i64 a0_0) := (blk_cell BK103.out 0).trans rfl
          have hcz245_1 : w242.cell? ⟨gb103, 1, none⟩ = some (.int .i64 a0_1) := (blk_cell BK103.out 1).trans rfl
          have hcz245_2 : w242.cell? ⟨gb103, 2, none⟩ = some (.int .i64 a0_2) := (blk_cell BK103.out 2).trans rfl
          have hcz245_3 : w242.cell? ⟨gb103, 3, none⟩ = some (.int .i64 a0_3) := (blk_cell BK103.out 3).trans rfl
          have hcz245_4 : w242.cell? ⟨gb103, 4, none⟩ = some (.string a0_4) := (blk_cell BK103.out 4).trans rfl
          have hcz245_5 : w242.cell? ⟨gb103, 5, none⟩ = some (.string a0_5) := (blk_cell BK103.out 5).trans rfl
          have hcz245_6 : w242.cell? ⟨gb103, 6, none⟩ = some (.bool a0_6) := (blk_cell BK103.out 6).trans rfl
          have hcz245_7 : w242.cell? ⟨gb103, 7, none⟩ = some (.slice A0_7 l0_7.length c0_7) := (blk_cell BK103.out 7).trans rfl
          have hcz245_8 : w242.cell? ⟨gb103, 8, none⟩ = some (.slice A0_8 l0_8.length c0_8) := (blk_cell BK103.out 8).trans rfl
          have hfz245_0 := blk_frozen BK103.out 0
          have hfz245_1 := blk_frozen BK103.out 1
          have hfz245_2 := blk_frozen BK103.out 2
          have hfz245_3 := blk_frozen BK103.out 3
          have hfz245_4 := blk_frozen BK103.out 4
          have hfz245_5 := blk_frozen BK103.out 5
          have hfz245_6 := blk_frozen BK103.out 6
          have hfz245_7 := blk_frozen BK103.out 7
          have hfz245_8 := blk_frozen BK103.out 8
          try go_wp2
          go_ret
          exact ⟨by rw [HV.out]; rfl, by repeat (first | (with_reducible first | exact HB.out | apply below_alloc | apply pw_below_drewN | apply below_drew1 | refine below_set ?_ GE103.out | refine below_set ?_ GE111.out) | exact HB.out)⟩
      · have p1b : decide (0 < a0_1) = false := decide_eq_false p1
        clear p1
        have HV : Aside0 (r = 80) := ⟨by rw [HRV2.out, ok6 HKD.out, hno, p1b]; rfl⟩
        go_wp2
        have n0_ := Aside0.mk (blk_drew BK103.out)
        have n1_ := Aside0.mk (blk_drew BK111.out)
        have n2_ := Aside0.mk (below_drew1 HB.out)
        clear BK103
        clear BK111
        clear HB
        have BK103 := n0_
        have BK111 := n1_
        have HB := n2_
        clear n0_ n1_ n2_
        refine start_ (n := 9) (S := fun w' => w'.cell? ⟨gb103, 0, none⟩ = some (.int .i64 a0_0) ∧ w'.cell? ⟨gb103, 1, none⟩ = some (.int .i64 a0_1) ∧ w'.cell? ⟨gb103, 2, none⟩ = some (.int .i64 a0_2) ∧ w'.cell? ⟨gb103, 3, none⟩ = some (.int .i64 a0_3) ∧ w'.cell? ⟨gb103, 4, none⟩ = some (.string a0_4) ∧ w'.cell? ⟨gb103, 5, none⟩ = some (.string a0_5) ∧ w'.cell? ⟨gb103, 6, none⟩ = some (.bool a0_6) ∧ w'.cell? ⟨gb103, 7, none⟩ = some (.slice A0_7 l0_7.length c0_7) ∧ w'.cell? ⟨gb103, 8, none⟩ = some (.slice A0_8 l0_8.length c0_8)) (ds := []) #[false, false, false, false, false, false, false, false, false] (by kernel_rfl) rfl rfl ⟨(blk_cell BK103.out 0).trans rfl, (blk_cell BK103.out 1).trans rfl, (blk_cell BK103.out 2).trans rfl, (blk_cell BK103.out 3).trans rfl, (blk_cell BK103.out 4).trans rfl, (blk_cell BK103.out 5).trans rfl, (blk_cell BK103.out 6).trans rfl, (blk_cell BK103.out 7).trans rfl, (blk_cell BK103.out 8).trans rfl⟩ (fun hHeld => ?_); refine with_tabW record_Check.tab13 record_Check.bits13 (fun HT_ HW_ => ?_)
        generalize w35.drew = w242 at BK103 BK111 HB hHeld ⊢
        refine pure_ (i := 0) (N := some 80) (v := ?_) (a' := ?_) #[true, false, false, false, false, false, false, false, false] rfl rfl (any_of HT_.out (by kernel_rfl)) (fun _ _ _ h => h) (Or.inl ⟨by rfl, ?_⟩) ?_ ?_
        rotate_left
        ·intro w'
         go_simp
         with_reducible rfl
        rotate_left
        ·simp only [Act.put, List.setIfInBounds_toArray, List.set_cons_zero, List.set_cons_succ, i64_w, i32_w]
         rfl
        refine pure_ (i := 1) (N := some 81) (v := ?_) (a' := ?_) #[true, true, false, false, false, false, false, false, false] rfl rfl (any_of HT_.out (by kernel_rfl)) (fun _ _ _ h => h) (Or.inl ⟨by rfl, ?_⟩) ?_ ?_
        rotate_left
        ·intro w'
         go_simp
         with_reducible rfl
        rotate_left
        ·simp only [Act.put, List.setIfInBounds_toArray, List.set_cons_zero, List.set_cons_succ, i64_w, i32_w]
         rfl
        refine pure_ (i := 2) (N := some 82) (v := ?_) (a' := ?_) #[true, true, true, false, false, false, false, false, false] rfl rfl (any_of HT_.out (by kernel_rfl)) (fun _ _ _ h => h) (Or.inl ⟨by rfl, ?_⟩) ?_ ?_
        rotate_left
        ·intro w'
         go_simp
         with_reducible rfl
        rotate_left
        ·simp only [Act.put, List.setIfInBounds_toArray, List.set_cons_zero, List.set_cons_succ, i64_w, i32_w]
         rfl
        refine pure_ (i := 6) (N := some 86) (v := ?_) (a' := ?_) #[true, true, true, false, false, false, true, false, false] rfl rfl (any_of HT_.out (by kernel_rfl)) (fun _ _ _ h => h) (Or.inl ⟨by rfl, ?_⟩) ?_ ?_
        rotate_left
        ·intro w'
         go_simp
         with_reducible rfl
        rotate_left
        ·simp only [Act.put, List.setIfInBounds_toArray, List.set_cons_zero, List.set_cons_succ, i64_w, i32_w]
         rfl
        refine take_ (i := 3) (N := some 83) (v := ?_) (a' := ?_) #[true, true, true, true, false, false, true, false, false] rfl rfl (take_ofW HT_.out HW_.out (by kernel_rfl)) (fun _ _ _ h => h) (Or.inl ⟨by rfl, ?_⟩) hHeld ?_ ?_
        rotate_left
        ·rintro w' ⟨s0, s1, s2, s3, s4, s5, s6, s7, s8⟩
         go_simp
         with_reducible rfl
        rotate_left
        ·simp only [Act.put, List.setIfInBounds_toArray, List.set_cons_zero, List.set_cons_succ, i64_w, i32_w]
         rfl
        refine pure_ (i := 4) (N := some 84) (v := ?_) (a' := ?_) #[true, true, true, true, true, false, true, false, false] rfl rfl (any_of HT_.out (by kernel_rfl)) (fun _ _ _ h => h) (Or.inl ⟨by rfl, ?_⟩) ?_ ?_
        rotate_left
        ·intro w'
         go_simp
         with_reducible rfl
        rotate_left
        ·simp only [Act.put, List.setIfInBounds_toArray, List.set_cons_zero, List.set_cons_succ, i64_w, i32_w]
         rfl
        refine pure_ (i := 5) (N := some 85) (v := ?_) (a' := ?_) #[true, true, true, true, true, true, true, false, false] rfl rfl (any_of HT_.out (by kernel_rfl)) (fun _ _ _ h => h) (Or.inl ⟨by rfl, ?_⟩) ?_ ?_
        rotate_left
        ·intro w'
         go_simp
         with_reducible rfl
        rotate_left
        ·simp only [Act.put, List.setIfInBounds_toArray, List.set_cons_zero, List.set_cons_succ, i64_w, i32_w]
         rfl
        refine one_ (i := 7) (N := none) #[true, true, true, true, true, true, true, true, false] rfl rfl (one_of HT_.out (by kernel_rfl)) (by decide) (fun K hK => ?_)
        have hs243 : w242.cell? ⟨gb111, 2, none⟩ = some (.int .i64 t106) := (blk_cell BK111.out 2).trans rfl
        have hfs243 := blk_frozen BK111.out 2
        have hns243_0 := NB103_111.out
        have hms243_0 := NB111_103.out
        refine skip_ (w1 := ?_) (by rfl) rfl ?_ ?_
        rotate_left
        ·go_simp
         rfl
        refine hK.out _ _ ⟨((cell_far (p := ⟨gb111, _, none⟩) NB103_111.out _).trans (hHeld.1)), ((cell_far (p := ⟨gb111, _, none⟩) NB103_111.out _).trans (hHeld.2.1)), ((cell_far (p := ⟨gb111, _, none⟩) NB103_111.out _).trans (hHeld.2.2.1)), ((cell_far (p := ⟨gb111, _, none⟩) NB103_111.out _).trans (hHeld.2.2.2.1)), ((cell_far (p := ⟨gb111, _, none⟩) NB103_111.out _).trans (hHeld.2.2.2.2.1)), ((cell_far (p := ⟨gb111, _, none⟩) NB103_111.out _).trans (hHeld.2.2.2.2.2.1)), ((cell_far (p := ⟨gb111, _, none⟩) NB103_111.out _).trans (hHeld.2.2.2.2.2.2.1)), ((cell_far (p := ⟨gb111, _, none⟩) NB103_111.out _).trans (hHeld.2.2.2.2.2.2.2.1)), ((cell_far (p := ⟨gb111, _, none⟩) NB103_111.out _).trans (hHeld.2.2.2.2.2.2.2.2))⟩ (fun hHeld => ?_)
        clear hK K
        refine pure_ (i := 8) (N := some 4) (v := ?_) (a' := ?_) #[true, true, true, true, true, true, true, true, true] rfl rfl (any_of HT_.out (by kernel_rfl)) (fun _ _ _ h => h) (Or.inl ⟨by rfl, ?_⟩) ?_ ?_
        rotate_left
        ·intro w'
         go_simp
         with_reducible rfl
        rotate_left
        ·simp only [Act.put, List.setIfInBounds_toArray, List.set_cons_zero, List.set_cons_succ, i64_w, i32_w]
         rfl
        refine done_ (done_of HT_.out (by kernel_rfl)) ?_
        have hcz244_0 : w242.cell? ⟨gb111, 0, none⟩ = some (.int .i64 t104) := (blk_cell BK111.out 0).trans rfl
        have hcz244_1 : w242.cell? ⟨gb111, 1, none⟩ = some (.int .i64 t105) := (blk_cell BK111.out 1).trans rfl
        have hcz244_2 : w242.cell? ⟨gb111, 2, none⟩ = some (.int .i64 t106) := (blk_cell BK111.out 2).trans rfl
        have hcz244_3 : w242.cell? ⟨gb111, 3, none⟩ = some (.int .i64 t107) := (blk_cell BK111.out 3).trans rfl
        have hcz244_4 : w242.cell? ⟨gb111, 4, none⟩ = some (.string t108) := (blk_cell BK111.out 4).trans rfl
        have hcz244_5 : w242.cell? ⟨gb111, 5, none⟩ = some (.string t109) := (blk_cell BK111.out 5).trans rfl
        have hcz244_6 : w242.cell? ⟨gb111, 6, none⟩ = some (.bool t110) := (blk_cell BK111.out 6).trans rfl
        have hfz244_0 := blk_frozen BK111.out 0
        have hfz244_1 := blk_frozen BK111.out 1
        have hfz244_2 := blk_frozen BK111.out 2
        have hfz244_3 := blk_frozen BK111.out 3
        have hfz244_4 := blk_frozen BK111.out 4
        have hfz244_5 := blk_frozen BK111.out 5
        have hfz244_6 := blk_frozen BK111.out 6
        have hcz245_0 : w242.cell? ⟨gb103, 0, none⟩ = some (.int .i64 a0_0) := (blk_cell BK103.out 0).trans rfl
        have hcz245_1 : w242.cell? ⟨gb103, 1, none⟩ = some (.int .i64 a0_1) := (blk_cell BK103.out 1).trans rfl
        have hcz245_2 : w242.cell? ⟨gb103, 2, none⟩ = some (.int .i64 a0_2) := (blk_cell BK103.out 2).trans rfl
        have hcz245_3 : w242.cell? ⟨gb103, 3, none⟩ = some (.int .i64 a0_3) := (blk_cell BK103.out 3).trans rfl
        have hcz245_4 : w242.cell? ⟨gb103, 4, none⟩ = some (.string a0_4) := (blk_cell BK103.out 4).trans rfl
        have hcz245_5 : w242.cell? ⟨gb103, 5, none⟩ = some (.string a0_5) := (blk_cell BK103.out 5).trans rfl
        have hcz245_6 : w242.cell? ⟨gb103, 6, none⟩ = some (.bool a0_6) := (blk_cell BK103.out 6).trans rfl
        have hcz245_7 : w242.cell? ⟨gb103, 7, none⟩ = some (.slice A0_7 l0_7.length c0_7) := (blk_cell BK103.out 7).trans rfl
        have hcz245_8 : w242.cell? ⟨gb103, 8, none⟩ = some (.slice A0_8 l0_8.length c0_8) := (blk_cell BK103.out 8).trans rfl
        have hfz245_0 := blk_frozen BK103.out 0
        have hfz245_1 := blk_frozen BK103.out 1
        have hfz245_2 := blk_frozen BK103.out 2
        have hfz245_3 := blk_frozen BK103.out 3
        have hfz245_4 := blk_frozen BK103.out 4
        have hfz245_5 := blk_frozen BK103.out 5
        have hfz245_6 := blk_frozen BK103.out 6
        have hfz245_7 := blk_frozen BK103.out 7
        have hfz245_8 := blk_frozen BK103.out 8
        try go_wp2
        go_ret
        exact ⟨by rw [HV.out]; rfl, by repeat (first | (with_reducible first | exact HB.out | apply below_alloc | apply pw_below_drewN | apply below_drew1 | refine below_set ?_ GE103.out | refine below_set ?_ GE111.out) | exact HB.out)⟩
  have k6b : (a0_0 == 6) = false := beq_eq_false_iff_ne.mpr k6
  have k6c : (a0_0 != 6) = true := bne_iff_ne.mpr k6
  by_cases k3 : a0_0 = 3
  · have HKD := Aside0.mk k3
    have k3b : (a0_0 == 3) = true := beq_iff_eq.mpr k3
    have k3c : (a0_0 != 3) = false := bne_eq_false_iff_eq.mpr k3
    clear k3
    cases hno : noneB l0_7 l0_8 with
    | false =>
      have HV : Aside0 (r = 80) := ⟨by rw [HRV2.out, ok3 HKD.out, hno]; rfl⟩
      go_wp2
      try go_wp2
      go_ret
      exact ⟨by rw [HV.out]; rfl, by repeat (first | (with_reducible first | exact HB.out | apply below_alloc | apply pw_below_drewN | apply below_drew1 | refine below_set ?_ GE103.out | refine below_set ?_ GE111.out) | exact HB.out)⟩
    | true =>
      by_cases p2 : 0 < a0_2
      · have p2b : decide (0 < a0_2) = true := decide_eq_true p2
        clear p2
        obtain ⟨t142, A2990⟩ : ∃ t142, letter_Key.f a0_4 = some t142 := ⟨_, key_f a0_4⟩
        have hk4 : keyB a0_4 = t142 := by have h := A2990; rw [key_f] at h; injection h
        have A299 := Aside0.mk A2990
        clear A2990
        have HK4 := Aside0.mk hk4
        clear hk4
        cases t142 with
        | true =>
          by_cases p5 : a0_5.size ≤ 2052
          · have p5b : decide (a0_5.size ≤ 2052) = true := decide_eq_true p5
            have p5c : decide ((a0_5.size : Int) ≤ 2052) = true := decide_eq_true (by omega)
            clear p5
            cases hd6 : a0_6 with
            | false =>
              subst hd6
              by_cases hXt : (a0_1 == 0 && a0_3 == 0) = true
              · have czb : (!(0 == a0_1) || (!(0 == a0_3))) = false := by rw [ne3 A16.out, hXt]; rfl
                have HV : Aside0 (r = 0) := ⟨by rw [HRV2.out, ok3 HKD.out, hno, p2b, HK4.out, p5b, show (!(false && !a0_5.toList.isEmpty)) = true from rfl, hXt]; rfl⟩
                clear hXt
                go_wp2_with (first | (go_at_call 75; (with_reducible refine (letter_Key.calls a0_4 true _ A299.out).mono ?_); rintro e w' ⟨rfl, ⟨nd, rfl⟩⟩))
                go_ret
                exact ⟨by rw [HV.out]; rfl, by repeat (first | (with_reducible first | exact HB.out | apply below_alloc | apply pw_below_drewN | apply below_drew1 | refine below_set ?_ GE103.out | refine below_set ?_ GE111.out) | exact HB.out)⟩
              · have hXf : (a0_1 == 0 && a0_3 == 0) = false := by simpa only [Bool.not_eq_true] using hXt
                clear hXt
                have czb : (!(0 == a0_1) || (!(0 == a0_3))) = true := by rw [ne3 A16.out, hXf]; rfl
                have HV : Aside0 (r = 80) := ⟨by rw [HRV2.out, ok3 HKD.out, hno, p2b, HK4.out, p5b, show (!(false && !a0_5.toList.isEmpty)) = true from rfl, hXf]; rfl⟩
                clear hXf
                go_wp2_with (first | (go_at_call 75; (with_reducible refine (letter_Key.calls a0_4 true _ A299.out).mono ?_); rintro e w' ⟨rfl, ⟨nd, rfl⟩⟩))
                go_ret
                exact ⟨by rw [HV.out]; rfl, by repeat (first | (with_reducible first | exact HB.out | apply below_alloc | apply pw_below_drewN | apply below_drew1 | refine below_set ?_ GE103.out | refine below_set ?_ GE111.out) | exact HB.out)⟩
            | true =>
              subst hd6
              by_cases p6 : a0_5.toList = ([] : List UInt8)
              · have p6b : (a0_5.toList == ([] : List UInt8)) = true := beq_iff_eq.mpr p6
                have p6c : (a0_5.toList != ([] : List UInt8)) = false := bne_eq_false_iff_eq.mpr p6
                have p6d : (!(true && !a0_5.toList.isEmpty)) = true := by rw [p6]; rfl
                clear p6
                by_cases hXt : (a0_1 == 0 && a0_3 == 0) = true
                · have czb : (!(0 == a0_1) || (!(0 == a0_3))) = false := by rw [ne3 A16.out, hXt]; rfl
                  have HV : Aside0 (r = 0) := ⟨by rw [HRV2.out, ok3 HKD.out, hno, p2b, HK4.out, p5b, p6d, hXt]; rfl⟩
                  clear hXt
                  go_wp2_with (first | (go_at_call 75; (with_reducible refine (letter_Key.calls a0_4 true _ A299.out).mono ?_); rintro e w' ⟨rfl, ⟨nd, rfl⟩⟩))
                  go_ret
                  exact ⟨by rw [HV.out]; rfl, by repeat (first | (with_reducible first | exact HB.out | apply below_alloc | apply pw_below_drewN | apply below_drew1 | refine below_set ?_ GE103.out | refine below_set ?_ GE111.out) | exact HB.out)⟩
                · have hXf : (a0_1 == 0 && a0_3 == 0) = false := by simpa only [Bool.not_eq_true] using hXt
                  clear hXt
                  have czb : (!(0 == a0_1) || (!(0 == a0_3))) = true := by rw [ne3 A16.out, hXf]; rfl
                  have HV : Aside0 (r = 80) := ⟨by rw [HRV2.out, ok3 HKD.out, hno, p2b, HK4.out, p5b, p6d, hXf]; rfl⟩
                  clear hXf
                  go_wp2_with (first | (go_at_call 75; (with_reducible refine (letter_Key.calls a0_4 true _ A299.out).mono ?_); rintro e w' ⟨rfl, ⟨nd, rfl⟩⟩))
                  go_ret
                  exact ⟨by rw [HV.out]; rfl, by repeat (first | (with_reducible first | exact HB.out | apply below_alloc | apply pw_below_drewN | apply below_drew1 | refine below_set ?_ GE103.out | refine below_set ?_ GE111.out) | exact HB.out)⟩
              · have p6b : (a0_5.toList == ([] : List UInt8)) = false := beq_eq_false_iff_ne.mpr p6
                have p6c : (a0_5.toList != ([] : List UInt8)) = true := bne_iff_ne.mpr p6
                have p6d : (!(true && !a0_5.toList.isEmpty)) = false := by simp [p6]
                clear p6
                have HV : Aside0 (r = 80) := ⟨by rw [HRV2.out, ok3 HKD.out, hno, p2b, HK4.out, p5b, p6d]; rfl⟩
                go_wp2_with (first | (go_at_call 75; (with_reducible refine (letter_Key.calls a0_4 true _ A299.out).mono ?_); rintro e w' ⟨rfl, ⟨nd, rfl⟩⟩))
                go_ret
                exact ⟨by rw [HV.out]; rfl, by repeat (first | (with_reducible first | exact HB.out | apply below_alloc | apply pw_below_drewN | apply below_drew1 | refine below_set ?_ GE103.out | refine below_set ?_ GE111.out) | exact HB.out)⟩
          · have p5b : decide (a0_5.size ≤ 2052) = false := decide_eq_false p5
            have p5c : decide ((a0_5.size : Int) ≤ 2052) = false := decide_eq_false (by omega)
            clear p5
            have HV : Aside0 (r = 80) := ⟨by rw [HRV2.out, ok3 HKD.out, hno, p2b, HK4.out, p5b]; rfl⟩
            go_wp2_with (first | (go_at_call 75; (with_reducible refine (letter_Key.calls a0_4 true _ A299.out).mono ?_); rintro e w' ⟨rfl, ⟨nd, rfl⟩⟩))
            go_ret
            exact ⟨by rw [HV.out]; rfl, by repeat (first | (with_reducible first | exact HB.out | apply below_alloc | apply pw_below_drewN | apply below_drew1 | refine below_set ?_ GE103.out | refine below_set ?_ GE111.out) | exact HB.out)⟩
        | false =>
          have HV : Aside0 (r = 80) := ⟨by rw [HRV2.out, ok3 HKD.out, hno, p2b, HK4.out]; rfl⟩
          go_wp2_with (first | (go_at_call 75; (with_reducible refine (letter_Key.calls a0_4 false _ A299.out).mono ?_); rintro e w' ⟨rfl, ⟨nd, rfl⟩⟩))
          go_ret
          exact ⟨by rw [HV.out]; rfl, by repeat (first | (with_reducible first | exact HB.out | apply below_alloc | apply pw_below_drewN | apply below_drew1 | refine below_set ?_ GE103.out | refine below_set ?_ GE111.out) | exact HB.out)⟩
      · have p2b : decide (0 < a0_2) = false := decide_eq_false p2
        clear p2
        have HV : Aside0 (r = 80) := ⟨by rw [HRV2.out, ok3 HKD.out, hno, p2b]; rfl⟩
        go_wp2
        try go_wp2
        go_ret
        exact ⟨by rw [HV.out]; rfl, by repeat (first | (with_reducible first | exact HB.out | apply below_alloc | apply pw_below_drewN | apply below_drew1 | refine below_set ?_ GE103.out | refine below_set ?_ GE111.out) | exact HB.out)⟩
  have k3b : (a0_0 == 3) = false := beq_eq_false_iff_ne.mpr k3
  have k3c : (a0_0 != 3) = true := bne_iff_ne.mpr k3
  by_cases k4 : a0_0 = 4
  · have HKD := Aside0.mk k4
    have k4b : (a0_0 == 4) = true := beq_iff_eq.mpr k4
    have k4c : (a0_0 != 4) = false := bne_eq_false_iff_eq.mpr k4
    clear k4
    cases hno : noneB l0_7 l0_8 with
    | false =>
      have HV : Aside0 (r = 80) := ⟨by rw [HRV2.out, ok4 HKD.out, hno]; rfl⟩
      go_wp2
      try go_wp2
      go_ret
      exact ⟨by rw [HV.out]; rfl, by repeat (first | (with_reducible first | exact HB.out | apply below_alloc | apply pw_below_drewN | apply below_drew1 | refine below_set ?_ GE103.out | refine below_set ?_ GE111.out) | exact HB.out)⟩
    | true =>
      by_cases hXt : (a0_1 == 0 && (a0_3 == 0 && bareB a0_4 a0_5 a0_6)) = true
      · have czb : (!(t104 == a0_0) || (!(0 == a0_1) || (!(t106 == a0_2) || (!(t107 == a0_3) || (!(t108.toList == a0_4.toList) || (!(t109.toList == a0_5.toList) || (!(t110 == a0_6)))))))) = false := by rw [ne4 A16.out, hXt]; rfl
        have HV : Aside0 (r = 0) := ⟨by rw [HRV2.out, ok4 HKD.out, hno, hXt]; rfl⟩
        clear hXt
        go_wp2
        try go_wp2
        go_ret
        exact ⟨by rw [HV.out]; rfl, by repeat (first | (with_reducible first | exact HB.out | apply below_alloc | apply pw_below_drewN | apply below_drew1 | refine below_set ?_ GE103.out | refine below_set ?_ GE111.out) | exact HB.out)⟩
      · have hXf : (a0_1 == 0 && (a0_3 == 0 && bareB a0_4 a0_5 a0_6)) = false := by simpa only [Bool.not_eq_true] using hXt
        clear hXt
        have czb : (!(t104 == a0_0) || (!(0 == a0_1) || (!(t106 == a0_2) || (!(t107 == a0_3) || (!(t108.toList == a0_4.toList) || (!(t109.toList == a0_5.toList) || (!(t110 == a0_6)))))))) = true := by rw [ne4 A16.out, hXf]; rfl
        have HV : Aside0 (r = 80) := ⟨by rw [HRV2.out, ok4 HKD.out, hno, hXf]; rfl⟩
        clear hXf
        go_wp2
        try go_wp2
        go_ret
        exact ⟨by rw [HV.out]; rfl, by repeat (first | (with_reducible first | exact HB.out | apply below_alloc | apply pw_below_drewN | apply below_drew1 | refine below_set ?_ GE103.out | refine below_set ?_ GE111.out) | exact HB.out)⟩
  have k4b : (a0_0 == 4) = false := beq_eq_false_iff_ne.mpr k4
  have k4c : (a0_0 != 4) = true := bne_iff_ne.mpr k4
  by_cases k7 : a0_0 = 7
  · have HKD := Aside0.mk k7
    have k7b : (a0_0 == 7) = true := beq_iff_eq.mpr k7
    have k7c : (a0_0 != 7) = false := bne_eq_false_iff_eq.mpr k7
    clear k7
    cases hno : noneB l0_7 l0_8 with
    | false =>
      have HV : Aside0 (r = 80) := ⟨by rw [HRV2.out, ok7 HKD.out, hno]; rfl⟩
      go_wp2
      have n0_ := Aside0.mk (blk_drew BK103.out)
      have n1_ := Aside0.mk (blk_drew BK111.out)
      have n2_ := Aside0.mk (below_drew1 HB.out)
      clear BK103
      clear BK111
      clear HB
      have BK103 := n0_
      have BK111 := n1_
      have HB := n2_
      clear n0_ n1_ n2_
      refine start_ (n := 9) (S := fun w' => True) (ds := []) #[false, false, false, false, false, false, false, false, false] (by kernel_rfl) rfl rfl trivial (fun hHeld => ?_); refine with_tabW record_Check.tab20 record_Check.bits20 (fun HT_ HW_ => ?_)
      generalize w35.drew = w547 at BK103 BK111 HB hHeld ⊢
      refine pure_ (i := 0) (N := some 132) (v := ?_) (a' := ?_) #[true, false, false, false, false, false, false, false, false] rfl rfl (any_of HT_.out (by kernel_rfl)) (fun _ _ _ h => h) (Or.inl ⟨by rfl, ?_⟩) ?_ ?_
      rotate_left
      ·intro w'
       go_simp
       with_reducible rfl
      rotate_left
      ·simp only [Act.put, List.setIfInBounds_toArray, List.set_cons_zero, List.set_cons_succ, i64_w, i32_w]
       rfl
      refine pure_ (i := 1) (N := some 133) (v := ?_) (a' := ?_) #[true, true, false, false, false, false, false, false, false] rfl rfl (any_of HT_.out (by kernel_rfl)) (fun _ _ _ h => h) (Or.inl ⟨by rfl, ?_⟩) ?_ ?_
      rotate_left
      ·intro w'
       go_simp
       with_reducible rfl
      rotate_left
      ·simp only [Act.put, List.setIfInBounds_toArray, List.set_cons_zero, List.set_cons_succ, i64_w, i32_w]
       rfl
      refine pure_ (i := 2) (N := some 134) (v := undef) (a' := ?_) #[true, true, true, false, false, false, false, false, false] rfl rfl (any_of HT_.out (by kernel_rfl)) (fun _ _ _ h => h) (Or.inr ⟨by rfl, rfl⟩) ?_ ?_
      rotate_left
      ·simp only [Act.put, List.setIfInBounds_toArray, List.set_cons_zero, List.set_cons_succ, i64_w, i32_w]
       rfl
      refine pure_ (i := 3) (N := some 135) (v := undef) (a' := ?_) #[true, true, true, true, false, false, false, false, false] rfl rfl (any_of HT_.out (by kernel_rfl)) (fun _ _ _ h => h) (Or.inr ⟨by rfl, rfl⟩) ?_ ?_
      rotate_left
      ·simp only [Act.put, List.setIfInBounds_toArray, List.set_cons_zero, List.set_cons_succ, i64_w, i32_w]
       rfl
      refine pure_ (i := 4) (N := some 136) (v := undef) (a' := ?_) #[true, true, true, true, true, false, false, false, false] rfl rfl (any_of HT_.out (by kernel_rfl)) (fun _ _ _ h => h) (Or.inr ⟨by rfl, rfl⟩) ?_ ?_
      rotate_left
      ·simp only [Act.put, List.setIfInBounds_toArray, List.set_cons_zero, List.set_cons_succ, i64_w, i32_w]
       rfl
      refine pure_ (i := 5) (N := some 137) (v := ?_) (a' := ?_) #[true, true, true, true, true, true, false, false, false] rfl rfl (any_of HT_.out (by kernel_rfl)) (fun _ _ _ h => h) (Or.inl ⟨by rfl, ?_⟩) ?_ ?_
      rotate_left
      ·intro w'
       go_simp
       with_reducible rfl
      rotate_left
      ·simp only [Act.put, List.setIfInBounds_toArray, List.set_cons_zero, List.set_cons_succ, i64_w, i32_w]
       rfl
      refine pure_ (i := 6) (N := some 138) (v := ?_) (a' := ?_) #[true, true, true, true, true, true, true, false, false] rfl rfl (any_of HT_.out (by kernel_rfl)) (fun _ _ _ h => h) (Or.inl ⟨by rfl, ?_⟩) ?_ ?_
      rotate_left
      ·intro w'
       go_simp
       with_reducible rfl
      rotate_left
      ·simp only [Act.put, List.setIfInBounds_toArray, List.set_cons_zero, List.set_cons_succ, i64_w, i32_w]
       rfl
      refine one_ (i := 7) (N := none) #[true, true, true, true, true, true, true, true, false] rfl rfl (one_of HT_.out (by kernel_rfl)) (by decide) (fun K hK => ?_)
      have hs548 : w547.cell? ⟨gb111, 1, none⟩ = some (.int .i64 t105) := (blk_cell BK111.out 1).trans rfl
      have hfs548 := blk_frozen BK111.out 1
      have hns548_0 := NB103_111.out
      have hms548_0 := NB111_103.out
      refine skip_ (w1 := ?_) (by rfl) rfl ?_ ?_
      rotate_left
      ·go_simp
       rfl
      refine hK.out _ _ trivial (fun hHeld => ?_)
      clear hK K
      refine pure_ (i := 8) (N := some 4) (v := ?_) (a' := ?_) #[true, true, true, true, true, true, true, true, true] rfl rfl (any_of HT_.out (by kernel_rfl)) (fun _ _ _ h => h) (Or.inl ⟨by rfl, ?_⟩) ?_ ?_
      rotate_left
      ·intro w'
       go_simp
       with_reducible rfl
      rotate_left
      ·simp only [Act.put, List.setIfInBounds_toArray, List.set_cons_zero, List.set_cons_succ, i64_w, i32_w]
       rfl
      refine done_ (done_of HT_.out (by kernel_rfl)) ?_
      try go_wp2
      go_ret
      exact ⟨by rw [HV.out]; rfl, by repeat (first | (with_reducible first | exact HB.out | apply below_alloc | apply pw_below_drewN | apply below_drew1 | refine below_set ?_ GE103.out | refine below_set ?_ GE111.out) | exact HB.out)⟩
    | true =>
      by_cases p2 : 0 < a0_2
      · have p2b : decide (0 < a0_2) = true := decide_eq_true p2
        clear p2
        by_cases hXt : (a0_1 == 0 && (a0_3 == 0 && bareB a0_4 a0_5 a0_6)) = true
        · have czb : (!(t104 == a0_0) || (!(0 == a0_1) || (!(t106 == a0_2) || (!(t107 == a0_3) || (!(t108.toList == a0_4.toList) || (!(t109.toList == a0_5.toList) || (!(t110 == a0_6)))))))) = false := by rw [ne7 A16.out, hXt]; rfl
          have HV : Aside0 (r = 0) := ⟨by rw [HRV2.out, ok7 HKD.out, hno, p2b, hXt]; rfl⟩
          clear hXt
          go_wp2
          have n0_ := Aside0.mk (blk_drew BK103.out)
          have n1_ := Aside0.mk (blk_drew BK111.out)
          have n2_ := Aside0.mk (below_drew1 HB.out)
          clear BK103
          clear BK111
          clear HB
          have BK103 := n0_
          have BK111 := n1_
          have HB := n2_
          clear n0_ n1_ n2_
          refine start_ (n := 9) (S := fun w' => w'.cell? ⟨gb103, 0, none⟩ = some (.int .i64 a0_0) ∧ w'.cell? ⟨gb103, 1, none⟩ = some (.int .i64 a0_1) ∧ w'.cell? ⟨gb103, 2, none⟩ = some (.int .i64 a0_2) ∧ w'.cell? ⟨gb103, 3, none⟩ = some (.int .i64 a0_3) ∧ w'.cell? ⟨gb103, 4, none⟩ = some (.string a0_4) ∧ w'.cell? ⟨gb103, 5, none⟩ = some (.string a0_5) ∧ w'.cell? ⟨gb103, 6, none⟩ = some (.bool a0_6) ∧ w'.cell? ⟨gb103, 7, none⟩ = some (.slice A0_7 l0_7.length c0_7) ∧ w'.cell? ⟨gb103, 8, none⟩ = some (.slice A0_8 l0_8.length c0_8)) (ds := []) #[false, false, false, false, false, false, false, false, false] (by kernel_rfl) rfl rfl ⟨(blk_cell BK103.out 0).trans rfl, (blk_cell BK103.out 1).trans rfl, (blk_cell BK103.out 2).trans rfl, (blk_cell BK103.out 3).trans rfl, (blk_cell BK103.out 4).trans rfl, (blk_cell BK103.out 5).trans rfl, (blk_cell BK103.out 6).trans rfl, (blk_cell BK103.out 7).trans rfl, (blk_cell BK103.out 8).trans rfl⟩ (fun hHeld => ?_); refine with_tabW record_Check.tab20 record_Check.bits20 (fun HT_ HW_ => ?_)
          generalize w35.drew = w495 at BK103 BK111 HB hHeld ⊢
          refine pure_ (i := 0) (N := some 132) (v := ?_) (a' := ?_) #[true, false, false, false, false, false, false, false, false] rfl rfl (any_of HT_.out (by kernel_rfl)) (fun _ _ _ h => h) (Or.inl ⟨by rfl, ?_⟩) ?_ ?_
          rotate_left
          ·intro w'
           go_simp
           with_reducible rfl
          rotate_left
          ·simp only [Act.put, List.setIfInBounds_toArray, List.set_cons_zero, List.set_cons_succ, i64_w, i32_w]
           rfl
          refine pure_ (i := 1) (N := some 133) (v := ?_) (a' := ?_) #[true, true, false, false, false, false, false, false, false] rfl rfl (any_of HT_.out (by kernel_rfl)) (fun _ _ _ h => h) (Or.inl ⟨by rfl, ?_⟩) ?_ ?_
          rotate_left
          ·intro w'
           go_simp
           with_reducible rfl
          rotate_left
          ·simp only [Act.put, List.setIfInBounds_toArray, List.set_cons_zero, List.set_cons_succ, i64_w, i32_w]
           rfl
          refine pure_ (i := 2) (N := some 134) (v := ?_) (a' := ?_) #[true, true, true, false, false, false, false, false, false] rfl rfl (any_of HT_.out (by kernel_rfl)) (fun _ _ _ h => h) (Or.inl ⟨by rfl, ?_⟩) ?_ ?_
          rotate_left
          ·intro w'
           go_simp
           with_reducible rfl
          rotate_left
          ·simp only [Act.put, List.setIfInBounds_toArray, List.set_cons_zero, List.set_cons_succ, i64_w, i32_w]
           rfl
          refine pure_ (i := 6) (N := some 138) (v := ?_) (a' := ?_) #[true, true, true, false, false, false, true, false, false] rfl rfl (any_of HT_.out (by kernel_rfl)) (fun _ _ _ h => h) (Or.inl ⟨by rfl, ?_⟩) ?_ ?_
          rotate_left
          ·intro w'
           go_simp
           with_reducible rfl
          rotate_left
          ·simp only [Act.put, List.setIfInBounds_toArray, List.set_cons_zero, List.set_cons_succ, i64_w, i32_w]
           rfl
          refine take_ (i := 3) (N := some 135) (v := ?_) (a' := ?_) #[true, true, true, true, false, false, true, false, false] rfl rfl (take_ofW HT_.out HW_.out (by kernel_rfl)) (fun _ _ _ h => h) (Or.inl ⟨by rfl, ?_⟩) hHeld ?_ ?_
          rotate_left
          ·rintro w' ⟨s0, s1, s2, s3, s4, s5, s6, s7, s8⟩
           go_simp
           with_reducible rfl
          rotate_left
          ·simp only [Act.put, List.setIfInBounds_toArray, List.set_cons_zero, List.set_cons_succ, i64_w, i32_w]
           rfl
          refine pure_ (i := 4) (N := some 136) (v := ?_) (a' := ?_) #[true, true, true, true, true, false, true, false, false] rfl rfl (any_of HT_.out (by kernel_rfl)) (fun _ _ _ h => h) (Or.inl ⟨by rfl, ?_⟩) ?_ ?_
          rotate_left
          ·intro w'
           go_simp
           with_reducible rfl
          rotate_left
          ·simp only [Act.put, List.setIfInBounds_toArray, List.set_cons_zero, List.set_cons_succ, i64_w, i32_w]
           rfl
          refine pure_ (i := 5) (N := some 137) (v := ?_) (a' := ?_) #[true, true, true, true, true, true, true, false, false] rfl rfl (any_of HT_.out (by kernel_rfl)) (fun _ _ _ h => h) (Or.inl ⟨by rfl, ?_⟩) ?_ ?_
          rotate_left
          ·intro w'
           go_simp
           with_reducible rfl
          rotate_left
          ·simp only [Act.put, List.setIfInBounds_toArray, List.set_cons_zero, List.set_cons_succ, i64_w, i32_w]
           rfl
          refine one_ (i := 7) (N := none) #[true, true, true, true, true, true, true, true, false] rfl rfl (one_of HT_.out (by kernel_rfl)) (by decide) (fun K hK => ?_)
          have hs496 : w495.cell? ⟨gb111, 1, none⟩ = some (.int .i64 t105) := (blk_cell BK111.out 1).trans rfl
          have hfs496 := blk_frozen BK111.out 1
          have hns496_0 := NB103_111.out
          have hms496_0 := NB111_103.out
          refine skip_ (w1 := ?_) (by rfl) rfl ?_ ?_
          rotate_left
          ·go_simp
           rfl
          refine hK.out _ _ ⟨((cell_far (p := ⟨gb111, _, none⟩) NB103_111.out _).trans (hHeld.1)), ((cell_far (p := ⟨gb111, _, none⟩) NB103_111.out _).trans (hHeld.2.1)), ((cell_far (p := ⟨gb111, _, none⟩) NB103_111.out _).trans (hHeld.2.2.1)), ((cell_far (p := ⟨gb111, _, none⟩) NB103_111.out _).trans (hHeld.2.2.2.1)), ((cell_far (p := ⟨gb111, _, none⟩) NB103_111.out _).trans (hHeld.2.2.2.2.1)), ((cell_far (p := ⟨gb111, _, none⟩) NB103_111.out _).trans (hHeld.2.2.2.2.2.1)), ((cell_far (p := ⟨gb111, _, none⟩) NB103_111.out _).trans (hHeld.2.2.2.2.2.2.1)), ((cell_far (p := ⟨gb111, _, none⟩) NB103_111.out _).trans (hHeld.2.2.2.2.2.2.2.1)), ((cell_far (p := ⟨gb111, _, none⟩) NB103_111.out _).trans (hHeld.2.2.2.2.2.2.2.2))⟩ (fun hHeld => ?_)
          clear hK K
          refine pure_ (i := 8) (N := some 4) (v := ?_) (a' := ?_) #[true, true, true, true, true, true, true, true, true] rfl rfl (any_of HT_.out (by kernel_rfl)) (fun _ _ _ h => h) (Or.inl ⟨by rfl, ?_⟩) ?_ ?_
          rotate_left
          ·intro w'
           go_simp
           with_reducible rfl
          rotate_left
          ·simp only [Act.put, List.setIfInBounds_toArray, List.set_cons_zero, List.set_cons_succ, i64_w, i32_w]
           rfl
          refine done_ (done_of HT_.out (by kernel_rfl)) ?_
          have hcz497_0 : w495.cell? ⟨gb111, 0, none⟩ = some (.int .i64 t104) := (blk_cell BK111.out 0).trans rfl
          have hcz497_1 : w495.cell? ⟨gb111, 1, none⟩ = some (.int .i64 t105) := (blk_cell BK111.out 1).trans rfl
          have hcz497_2 : w495.cell? ⟨gb111, 2, none⟩ = some (.int .i64 t106) := (blk_cell BK111.out 2).trans rfl
          have hcz497_3 : w495.cell? ⟨gb111, 3, none⟩ = some (.int .i64 t107) := (blk_cell BK111.out 3).trans rfl
          have hcz497_4 : w495.cell? ⟨gb111, 4, none⟩ = some (.string t108) := (blk_cell BK111.out 4).trans rfl
          have hcz497_5 : w495.cell? ⟨gb111, 5, none⟩ = some (.string t109) := (blk_cell BK111.out 5).trans rfl
          have hcz497_6 : w495.cell? ⟨gb111, 6, none⟩ = some (.bool t110) := (blk_cell BK111.out 6).trans rfl
          have hfz497_0 := blk_frozen BK111.out 0
          have hfz497_1 := blk_frozen BK111.out 1
          have hfz497_2 := blk_frozen BK111.out 2
          have hfz497_3 := blk_frozen BK111.out 3
          have hfz497_4 := blk_frozen BK111.out 4
          have hfz497_5 := blk_frozen BK111.out 5
          have hfz497_6 := blk_frozen BK111.out 6
          have hcz498_0 : w495.cell? ⟨gb103, 0, none⟩ = some (.int .i64 a0_0) := (blk_cell BK103.out 0).trans rfl
          have hcz498_1 : w495.cell? ⟨gb103, 1, none⟩ = some (.int .i64 a0_1) := (blk_cell BK103.out 1).trans rfl
          have hcz498_2 : w495.cell? ⟨gb103, 2, none⟩ = some (.int .i64 a0_2) := (blk_cell BK103.out 2).trans rfl
          have hcz498_3 : w495.cell? ⟨gb103, 3, none⟩ = some (.int .i64 a0_3) := (blk_cell BK103.out 3).trans rfl
          have hcz498_4 : w495.cell? ⟨gb103, 4, none⟩ = some (.string a0_4) := (blk_cell BK103.out 4).trans rfl
          have hcz498_5 : w495.cell? ⟨gb103, 5, none⟩ = some (.string a0_5) := (blk_cell BK103.out 5).trans rfl
          have hcz498_6 : w495.cell? ⟨gb103, 6, none⟩ = some (.bool a0_6) := (blk_cell BK103.out 6).trans rfl
          have hcz498_7 : w495.cell? ⟨gb103, 7, none⟩ = some (.slice A0_7 l0_7.length c0_7) := (blk_cell BK103.out 7).trans rfl
          have hcz498_8 : w495.cell? ⟨gb103, 8, none⟩ = some (.slice A0_8 l0_8.length c0_8) := (blk_cell BK103.out 8).trans rfl
          have hfz498_0 := blk_frozen BK103.out 0
          have hfz498_1 := blk_frozen BK103.out 1
          have hfz498_2 := blk_frozen BK103.out 2
          have hfz498_3 := blk_frozen BK103.out 3
          have hfz498_4 := blk_frozen BK103.out 4
          have hfz498_5 := blk_frozen BK103.out 5
          have hfz498_6 := blk_frozen BK103.out 6
          have hfz498_7 := blk_frozen BK103.out 7
          have hfz498_8 := blk_frozen BK103.out 8
          try go_wp2
          go_ret
          exact ⟨by rw [HV.out]; rfl, by repeat (first | (with_reducible first | exact HB.out | apply below_alloc | apply pw_below_drewN | apply below_drew1 | refine below_set ?_ GE103.out | refine below_set ?_ GE111.out) | exact HB.out)⟩
        · have hXf : (a0_1 == 0 && (a0_3 == 0 && bareB a0_4 a0_5 a0_6)) = false := by simpa only [Bool.not_eq_true] using hXt
          clear hXt
          have czb : (!(t104 == a0_0) || (!(0 == a0_1) || (!(t106 == a0_2) || (!(t107 == a0_3) || (!(t108.toList == a0_4.toList) || (!(t109.toList == a0_5.toList) || (!(t110 == a0_6)))))))) = true := by rw [ne7 A16.out, hXf]; rfl
          have HV : Aside0 (r = 80) := ⟨by rw [HRV2.out, ok7 HKD.out, hno, p2b, hXf]; rfl⟩
          clear hXf
          go_wp2
          have n0_ := Aside0.mk (blk_drew BK103.out)
          have n1_ := Aside0.mk (blk_drew BK111.out)
          have n2_ := Aside0.mk (below_drew1 HB.out)
          clear BK103
          clear BK111
          clear HB
          have BK103 := n0_
          have BK111 := n1_
          have HB := n2_
          clear n0_ n1_ n2_
          refine start_ (n := 9) (S := fun w' => w'.cell? ⟨gb103, 0, none⟩ = some (.int .i64 a0_0) ∧ w'.cell? ⟨gb103, 1, none⟩ = some (.int .i64 a0_1) ∧ w'.cell? ⟨gb103, 2, none⟩ = some (.int .i64 a0_2) ∧ w'.cell? ⟨gb103, 3, none⟩ = some (.int .i64 a0_3) ∧ w'.cell? ⟨gb103, 4, none⟩ = some (.string a0_4) ∧ w'.cell? ⟨gb103, 5, none⟩ = some (.string a0_5) ∧ w'.cell? ⟨gb103, 6, none⟩ = some (.bool a0_6) ∧ w'.cell? ⟨gb103, 7, none⟩ = some (.slice A0_7 l0_7.length c0_7) ∧ w'.cell? ⟨gb103, 8, none⟩ = some (.slice A0_8 l0_8.length c0_8)) (ds := []) #[false, false, false, false, false, false, false, false, false] (by kernel_rfl) rfl rfl ⟨(blk_cell BK103.out 0).trans rfl, (blk_cell BK103.out 1).trans rfl, (blk_cell BK103.out 2).trans rfl, (blk_cell BK103.out 3).trans rfl, (blk_cell BK103.out 4).trans rfl, (blk_cell BK103.out 5).trans rfl, (blk_cell BK103.out 6).trans rfl, (blk_cell BK103.out 7).trans rfl, (blk_cell BK103.out 8).trans rfl⟩ (fun hHeld => ?_); refine with_tabW record_Check.tab20 record_Check.bits20 (fun HT_ HW_ => ?_)
          generalize w35.drew = w495 at BK103 BK111 HB hHeld ⊢
          refine pure_ (i := 0) (N := some 132) (v := ?_) (a' := ?_) #[true, false, false, false, false, false, false, false, false] rfl rfl (any_of HT_.out (by kernel_rfl)) (fun _ _ _ h => h) (Or.inl ⟨by rfl, ?_⟩) ?_ ?_
          rotate_left
          ·intro w'
           go_simp
           with_reducible rfl
          rotate_left
          ·simp only [Act.put, List.setIfInBounds_toArray, List.set_cons_zero, List.set_cons_succ, i64_w, i32_w]
           rfl
          refine pure_ (i := 1) (N := some 133) (v := ?_) (a' := ?_) #[true, true, false, false, false, false, false, false, false] rfl rfl (any_of HT_.out (by kernel_rfl)) (fun _ _ _ h => h) (Or.inl ⟨by rfl, ?_⟩) ?_ ?_
          rotate_left
          ·intro w'
           go_simp
           with_reducible rfl
          rotate_left
          ·simp only [Act.put, List.setIfInBounds_toArray, List.set_cons_zero, List.set_cons_succ, i64_w, i32_w]
           rfl
          refine pure_ (i := 2) (N := some 134) (v := ?_) (a' := ?_) #[true, true, true, false, false, false, false, false, false] rfl rfl (any_of HT_.out (by kernel_rfl)) (fun _ _ _ h => h) (Or.inl ⟨by rfl, ?_⟩) ?_ ?_
          rotate_left
          ·intro w'
           go_simp
           with_reducible rfl
          rotate_left
          ·simp only [Act.put, List.setIfInBounds_toArray, List.set_cons_zero, List.set_cons_succ, i64_w, i32_w]
           rfl
          refine pure_ (i := 6) (N := some 138) (v := ?_) (a' := ?_) #[true, true, true, false, false, false, true, false, false] rfl rfl (any_of HT_.out (by kernel_rfl)) (fun _ _ _ h => h) (Or.inl ⟨by rfl, ?_⟩) ?_ ?_
          rotate_left
          ·intro w'
           go_simp
           with_reducible rfl
          rotate_left
          ·simp only [Act.put, List.setIfInBounds_toArray, List.set_cons_zero, List.set_cons_succ, i64_w, i32_w]
           rfl
          refine take_ (i := 3) (N := some 135) (v := ?_) (a' := ?_) #[true, true, true, true, false, false, true, false, false] rfl rfl (take_ofW HT_.out HW_.out (by kernel_rfl)) (fun _ _ _ h => h) (Or.inl ⟨by rfl, ?_⟩) hHeld ?_ ?_
          rotate_left
          ·rintro w' ⟨s0, s1, s2, s3, s4, s5, s6, s7, s8⟩
           go_simp
           with_reducible rfl
          rotate_left
          ·simp only [Act.put, List.setIfInBounds_toArray, List.set_cons_zero, List.set_cons_succ, i64_w, i32_w]
           rfl
          refine pure_ (i := 4) (N := some 136) (v := ?_) (a' := ?_) #[true, true, true, true, true, false, true, false, false] rfl rfl (any_of HT_.out (by kernel_rfl)) (fun _ _ _ h => h) (Or.inl ⟨by rfl, ?_⟩) ?_ ?_
          rotate_left
          ·intro w'
           go_simp
           with_reducible rfl
          rotate_left
          ·simp only [Act.put, List.setIfInBounds_toArray, List.set_cons_zero, List.set_cons_succ, i64_w, i32_w]
           rfl
          refine pure_ (i := 5) (N := some 137) (v := ?_) (a' := ?_) #[true, true, true, true, true, true, true, false, false] rfl rfl (any_of HT_.out (by kernel_rfl)) (fun _ _ _ h => h) (Or.inl ⟨by rfl, ?_⟩) ?_ ?_
          rotate_left
          ·intro w'
           go_simp
           with_reducible rfl
          rotate_left
          ·simp only [Act.put, List.setIfInBounds_toArray, List.set_cons_zero, List.set_cons_succ, i64_w, i32_w]
           rfl
          refine one_ (i := 7) (N := none) #[true, true, true, true, true, true, true, true, false] rfl rfl (one_of HT_.out (by kernel_rfl)) (by decide) (fun K hK => ?_)
          have hs496 : w495.cell? ⟨gb111, 1, none⟩ = some (.int .i64 t105) := (blk_cell BK111.out 1).trans rfl
          have hfs496 := blk_frozen BK111.out 1
          have hns496_0 := NB103_111.out
          have hms496_0 := NB111_103.out
          refine skip_ (w1 := ?_) (by rfl) rfl ?_ ?_
          rotate_left
          ·go_simp
           rfl
          refine hK.out _ _ ⟨((cell_far (p := ⟨gb111, _, none⟩) NB103_111.out _).trans (hHeld.1)), ((cell_far (p := ⟨gb111, _, none⟩) NB103_111.out _).trans (hHeld.2.1)), ((cell_far (p := ⟨gb111, _, none⟩) NB103_111.out _).trans (hHeld.2.2.1)), ((cell_far (p := ⟨gb111, _, none⟩) NB103_111.out _).trans (hHeld.2.2.2.1)), ((cell_far (p := ⟨gb111, _, none⟩) NB103_111.out _).trans (hHeld.2.2.2.2.1)), ((cell_far (p := ⟨gb111, _, none⟩) NB103_111.out _).trans (hHeld.2.2.2.2.2.1)), ((cell_far (p := ⟨gb111, _, none⟩) NB103_111.out _).trans (hHeld.2.2.2.2.2.2.1)), ((cell_far (p := ⟨gb111, _, none⟩) NB103_111.out _).trans (hHeld.2.2.2.2.2.2.2.1)), ((cell_far (p := ⟨gb111, _, none⟩) NB103_111.out _).trans (hHeld.2.2.2.2.2.2.2.2))⟩ (fun hHeld => ?_)
          clear hK K
          refine pure_ (i := 8) (N := some 4) (v := ?_) (a' := ?_) #[true, true, true, true, true, true, true, true, true] rfl rfl (any_of HT_.out (by kernel_rfl)) (fun _ _ _ h => h) (Or.inl ⟨by rfl, ?_⟩) ?_ ?_
          rotate_left
          ·intro w'
           go_simp
           with_reducible rfl
          rotate_left
          ·simp only [Act.put, List.setIfInBounds_toArray, List.set_cons_zero, List.set_cons_succ, i64_w, i32_w]
           rfl
          refine done_ (done_of HT_.out (by kernel_rfl)) ?_
          have hcz497_0 : w495.cell? ⟨gb111, 0, none⟩ = some (.int .i64 t104) := (blk_cell BK111.out 0).trans rfl
          have hcz497_1 : w495.cell? ⟨gb111, 1, none⟩ = some (.int .i64 t105) := (blk_cell BK111.out 1).trans rfl
          have hcz497_2 : w495.cell? ⟨gb111, 2, none⟩ = some (.int .i64 t106) := (blk_cell BK111.out 2).trans rfl
          have hcz497_3 : w495.cell? ⟨gb111, 3, none⟩ = some (.int .i64 t107) := (blk_cell BK111.out 3).trans rfl
          have hcz497_4 : w495.cell? ⟨gb111, 4, none⟩ = some (.string t108) := (blk_cell BK111.out 4).trans rfl
          have hcz497_5 : w495.cell? ⟨gb111, 5, none⟩ = some (.string t109) := (blk_cell BK111.out 5).trans rfl
          have hcz497_6 : w495.cell? ⟨gb111, 6, none⟩ = some (.bool t110) := (blk_cell BK111.out 6).trans rfl
          have hfz497_0 := blk_frozen BK111.out 0
          have hfz497_1 := blk_frozen BK111.out 1
          have hfz497_2 := blk_frozen BK111.out 2
          have hfz497_3 := blk_frozen BK111.out 3
          have hfz497_4 := blk_frozen BK111.out 4
          have hfz497_5 := blk_frozen BK111.out 5
          have hfz497_6 := blk_frozen BK111.out 6
          have hcz498_0 : w495.cell? ⟨gb103, 0, none⟩ = some (.int .i64 a0_0) := (blk_cell BK103.out 0).trans rfl
          have hcz498_1 : w495.cell? ⟨gb103, 1, none⟩ = some (.int .i64 a0_1) := (blk_cell BK103.out 1).trans rfl
          have hcz498_2 : w495.cell? ⟨gb103, 2, none⟩ = some (.int .i64 a0_2) := (blk_cell BK103.out 2).trans rfl
          have hcz498_3 : w495.cell? ⟨gb103, 3, none⟩ = some (.int .i64 a0_3) := (blk_cell BK103.out 3).trans rfl
          have hcz498_4 : w495.cell? ⟨gb103, 4, none⟩ = some (.string a0_4) := (blk_cell BK103.out 4).trans rfl
          have hcz498_5 : w495.cell? ⟨gb103, 5, none⟩ = some (.string a0_5) := (blk_cell BK103.out 5).trans rfl
          have hcz498_6 : w495.cell? ⟨gb103, 6, none⟩ = some (.bool a0_6) := (blk_cell BK103.out 6).trans rfl
          have hcz498_7 : w495.cell? ⟨gb103, 7, none⟩ = some (.slice A0_7 l0_7.length c0_7) := (blk_cell BK103.out 7).trans rfl
          have hcz498_8 : w495.cell? ⟨gb103, 8, none⟩ = some (.slice A0_8 l0_8.length c0_8) := (blk_cell BK103.out 8).trans rfl
          have hfz498_0 := blk_frozen BK103.out 0
          have hfz498_1 := blk_frozen BK103.out 1
          have hfz498_2 := blk_frozen BK103.out 2
          have hfz498_3 := blk_frozen BK103.out 3
          have hfz498_4 := blk_frozen BK103.out 4
          have hfz498_5 := blk_frozen BK103.out 5
          have hfz498_6 := blk_frozen BK103.out 6
          have hfz498_7 := blk_frozen BK103.out 7
          have hfz498_8 := blk_frozen BK103.out 8
          try go_wp2
          go_ret
          exact ⟨by rw [HV.out]; rfl, by repeat (first | (with_reducible first | exact HB.out | apply below_alloc | apply pw_below_drewN | apply below_drew1 | refine below_set ?_ GE103.out | refine below_set ?_ GE111.out) | exact HB.out)⟩
      · have p2b : decide (0 < a0_2) = false := decide_eq_false p2
        clear p2
        have HV : Aside0 (r = 80) := ⟨by rw [HRV2.out, ok7 HKD.out, hno, p2b]; rfl⟩
        go_wp2
        have n0_ := Aside0.mk (blk_drew BK103.out)
        have n1_ := Aside0.mk (blk_drew BK111.out)
        have n2_ := Aside0.mk (below_drew1 HB.out)
        clear BK103
        clear BK111
        clear HB
        have BK103 := n0_
        have BK111 := n1_
        have HB := n2_
        clear n0_ n1_ n2_
        refine start_ (n := 9) (S := fun w' => w'.cell? ⟨gb103, 0, none⟩ = some (.int .i64 a0_0) ∧ w'.cell? ⟨gb103, 1, none⟩ = some (.int .i64 a0_1) ∧ w'.cell? ⟨gb103, 2, none⟩ = some (.int .i64 a0_2) ∧ w'.cell? ⟨gb103, 3, none⟩ = some (.int .i64 a0_3) ∧ w'.cell? ⟨gb103, 4, none⟩ = some (.string a0_4) ∧ w'.cell? ⟨gb103, 5, none⟩ = some (.string a0_5) ∧ w'.cell? ⟨gb103, 6, none⟩ = some (.bool a0_6) ∧ w'.cell? ⟨gb103, 7, none⟩ = some (.slice A0_7 l0_7.length c0_7) ∧ w'.cell? ⟨gb103, 8, none⟩ = some (.slice A0_8 l0_8.length c0_8)) (ds := []) #[false, false, false, false, false, false, false, false, false] (by kernel_rfl) rfl rfl ⟨(blk_cell BK103.out 0).trans rfl, (blk_cell BK103.out 1).trans rfl, (blk_cell BK103.out 2).trans rfl, (blk_cell BK103.out 3).trans rfl, (blk_cell BK103.out 4).trans rfl, (blk_cell BK103.out 5).trans rfl, (blk_cell BK103.out 6).trans rfl, (blk_cell BK103.out 7).trans rfl, (blk_cell BK103.out 8).trans rfl⟩ (fun hHeld => ?_); refine with_tabW record_Check.tab20 record_Check.bits20 (fun HT_ HW_ => ?_)
        generalize w35.drew = w495 at BK103 BK111 HB hHeld ⊢
        refine pure_ (i := 0) (N := some 132) (v := ?_) (a' := ?_) #[true, false, false, false, false, false, false, false, false] rfl rfl (any_of HT_.out (by kernel_rfl)) (fun _ _ _ h => h) (Or.inl ⟨by rfl, ?_⟩) ?_ ?_
        rotate_left
        ·intro w'
         go_simp
         with_reducible rfl
        rotate_left
        ·simp only [Act.put, List.setIfInBounds_toArray, List.set_cons_zero, List.set_cons_succ, i64_w, i32_w]
         rfl
        refine pure_ (i := 1) (N := some 133) (v := ?_) (a' := ?_) #[true, true, false, false, false, false, false, false, false] rfl rfl (any_of HT_.out (by kernel_rfl)) (fun _ _ _ h => h) (Or.inl ⟨by rfl, ?_⟩) ?_ ?_
        rotate_left
        ·intro w'
         go_simp
         with_reducible rfl
        rotate_left
        ·simp only [Act.put, List.setIfInBounds_toArray, List.set_cons_zero, List.set_cons_succ, i64_w, i32_w]
         rfl
        refine pure_ (i := 2) (N := some 134) (v := ?_) (a' := ?_) #[true, true, true, false, false, false, false, false, false] rfl rfl (any_of HT_.out (by kernel_rfl)) (fun _ _ _ h => h) (Or.inl ⟨by rfl, ?_⟩) ?_ ?_
        rotate_left
        ·intro w'
         go_simp
         with_reducible rfl
        rotate_left
        ·simp only [Act.put, List.setIfInBounds_toArray, List.set_cons_zero, List.set_cons_succ, i64_w, i32_w]
         rfl
        refine pure_ (i := 6) (N := some 138) (v := ?_) (a' := ?_) #[true, true, true, false, false, false, true, false, false] rfl rfl (any_of HT_.out (by kernel_rfl)) (fun _ _ _ h => h) (Or.inl ⟨by rfl, ?_⟩) ?_ ?_
        rotate_left
        ·intro w'
         go_simp
         with_reducible rfl
        rotate_left
        ·simp only [Act.put, List.setIfInBounds_toArray, List.set_cons_zero, List.set_cons_succ, i64_w, i32_w]
         rfl
        refine take_ (i := 3) (N := some 135) (v := ?_) (a' := ?_) #[true, true, true, true, false, false, true, false, false] rfl rfl (take_ofW HT_.out HW_.out (by kernel_rfl)) (fun _ _ _ h => h) (Or.inl ⟨by rfl, ?_⟩) hHeld ?_ ?_
        rotate_left
        ·rintro w' ⟨s0, s1, s2, s3, s4, s5, s6, s7, s8⟩
         go_simp
         with_reducible rfl
        rotate_left
        ·simp only [Act.put, List.setIfInBounds_toArray, List.set_cons_zero, List.set_cons_succ, i64_w, i32_w]
         rfl
        refine pure_ (i := 4) (N := some 136) (v := ?_) (a' := ?_) #[true, true, true, true, true, false, true, false, false] rfl rfl (any_of HT_.out (by kernel_rfl)) (fun _ _ _ h => h) (Or.inl ⟨by rfl, ?_⟩) ?_ ?_
        rotate_left
        ·intro w'
         go_simp
         with_reducible rfl
        rotate_left
        ·simp only [Act.put, List.setIfInBounds_toArray, List.set_cons_zero, List.set_cons_succ, i64_w, i32_w]
         rfl
        refine pure_ (i := 5) (N := some 137) (v := ?_) (a' := ?_) #[true, true, true, true, true, true, true, false, false] rfl rfl (any_of HT_.out (by kernel_rfl)) (fun _ _ _ h => h) (Or.inl ⟨by rfl, ?_⟩) ?_ ?_
        rotate_left
        ·intro w'
         go_simp
         with_reducible rfl
        rotate_left
        ·simp only [Act.put, List.setIfInBounds_toArray, List.set_cons_zero, List.set_cons_succ, i64_w, i32_w]
         rfl
        refine one_ (i := 7) (N := none) #[true, true, true, true, true, true, true, true, false] rfl rfl (one_of HT_.out (by kernel_rfl)) (by decide) (fun K hK => ?_)
        have hs496 : w495.cell? ⟨gb111, 1, none⟩ = some (.int .i64 t105) := (blk_cell BK111.out 1).trans rfl
        have hfs496 := blk_frozen BK111.out 1
        have hns496_0 := NB103_111.out
        have hms496_0 := NB111_103.out
        refine skip_ (w1 := ?_) (by rfl) rfl ?_ ?_
        rotate_left
        ·go_simp
         rfl
        refine hK.out _ _ ⟨((cell_far (p := ⟨gb111, _, none⟩) NB103_111.out _).trans (hHeld.1)), ((cell_far (p := ⟨gb111, _, none⟩) NB103_111.out _).trans (hHeld.2.1)), ((cell_far (p := ⟨gb111, _, none⟩) NB103_111.out _).trans (hHeld.2.2.1)), ((cell_far (p := ⟨gb111, _, none⟩) NB103_111.out _).trans (hHeld.2.2.2.1)), ((cell_far (p := ⟨gb111, _, none⟩) NB103_111.out _).trans (hHeld.2.2.2.2.1)), ((cell_far (p := ⟨gb111, _, none⟩) NB103_111.out _).trans (hHeld.2.2.2.2.2.1)), ((cell_far (p := ⟨gb111, _, none⟩) NB103_111.out _).trans (hHeld.2.2.2.2.2.2.1)), ((cell_far (p := ⟨gb111, _, none⟩) NB103_111.out _).trans (hHeld.2.2.2.2.2.2.2.1)), ((cell_far (p := ⟨gb111, _, none⟩) NB103_111.out _).trans (hHeld.2.2.2.2.2.2.2.2))⟩ (fun hHeld => ?_)
        clear hK K
        refine pure_ (i := 8) (N := some 4) (v := ?_) (a' := ?_) #[true, true, true, true, true, true, true, true, true] rfl rfl (any_of HT_.out (by kernel_rfl)) (fun _ _ _ h => h) (Or.inl ⟨by rfl, ?_⟩) ?_ ?_
        rotate_left
        ·intro w'
         go_simp
         with_reducible rfl
        rotate_left
        ·simp only [Act.put, List.setIfInBounds_toArray, List.set_cons_zero, List.set_cons_succ, i64_w, i32_w]
         rfl
        refine done_ (done_of HT_.out (by kernel_rfl)) ?_
        have hcz497_0 : w495.cell? ⟨gb111, 0, none⟩ = some (.int .i64 t104) := (blk_cell BK111.out 0).trans rfl
        have hcz497_1 : w495.cell? ⟨gb111, 1, none⟩ = some (.int .i64 t105) := (blk_cell BK111.out 1).trans rfl
        have hcz497_2 : w495.cell? ⟨gb111, 2, none⟩ = some (.int .i64 t106) := (blk_cell BK111.out 2).trans rfl
        have hcz497_3 : w495.cell? ⟨gb111, 3, none⟩ = some (.int .i64 t107) := (blk_cell BK111.out 3).trans rfl
        have hcz497_4 : w495.cell? ⟨gb111, 4, none⟩ = some (.string t108) := (blk_cell BK111.out 4).trans rfl
        have hcz497_5 : w495.cell? ⟨gb111, 5, none⟩ = some (.string t109) := (blk_cell BK111.out 5).trans rfl
        have hcz497_6 : w495.cell? ⟨gb111, 6, none⟩ = some (.bool t110) := (blk_cell BK111.out 6).trans rfl
        have hfz497_0 := blk_frozen BK111.out 0
        have hfz497_1 := blk_frozen BK111.out 1
        have hfz497_2 := blk_frozen BK111.out 2
        have hfz497_3 := blk_frozen BK111.out 3
        have hfz497_4 := blk_frozen BK111.out 4
        have hfz497_5 := blk_frozen BK111.out 5
        have hfz497_6 := blk_frozen BK111.out 6
        have hcz498_0 : w495.cell? ⟨gb103, 0, none⟩ = some (.int .i64 a0_0) := (blk_cell BK103.out 0).trans rfl
        have hcz498_1 : w495.cell? ⟨gb103, 1, none⟩ = some (.int .i64 a0_1) := (blk_cell BK103.out 1).trans rfl
        have hcz498_2 : w495.cell? ⟨gb103, 2, none⟩ = some (.int .i64 a0_2) := (blk_cell BK103.out 2).trans rfl
        have hcz498_3 : w495.cell? ⟨gb103, 3, none⟩ = some (.int .i64 a0_3) := (blk_cell BK103.out 3).trans rfl
        have hcz498_4 : w495.cell? ⟨gb103, 4, none⟩ = some (.string a0_4) := (blk_cell BK103.out 4).trans rfl
        have hcz498_5 : w495.cell? ⟨gb103, 5, none⟩ = some (.string a0_5) := (blk_cell BK103.out 5).trans rfl
        have hcz498_6 : w495.cell? ⟨gb103, 6, none⟩ = some (.bool a0_6) := (blk_cell BK103.out 6).trans rfl
        have hcz498_7 : w495.cell? ⟨gb103, 7, none⟩ = some (.slice A0_7 l0_7.length c0_7) := (blk_cell BK103.out 7).trans rfl
        have hcz498_8 : w495.cell? ⟨gb103, 8, none⟩ = some (.slice A0_8 l0_8.length c0_8) := (blk_cell BK103.out 8).trans rfl
        have hfz498_0 := blk_frozen BK103.out 0
        have hfz498_1 := blk_frozen BK103.out 1
        have hfz498_2 := blk_frozen BK103.out 2
        have hfz498_3 := blk_frozen BK103.out 3
        have hfz498_4 := blk_frozen BK103.out 4
        have hfz498_5 := blk_frozen BK103.out 5
        have hfz498_6 := blk_frozen BK103.out 6
        have hfz498_7 := blk_frozen BK103.out 7
        have hfz498_8 := blk_frozen BK103.out 8
        try go_wp2
        go_ret
        exact ⟨by rw [HV.out]; rfl, by repeat (first | (with_reducible first | exact HB.out | apply below_alloc | apply pw_below_drewN | apply below_drew1 | refine below_set ?_ GE103.out | refine below_set ?_ GE111.out) | exact HB.out)⟩
  have k7b : (a0_0 == 7) = false := beq_eq_false_iff_ne.mpr k7
  have k7c : (a0_0 != 7) = true := bne_iff_ne.mpr k7
  have HV : Aside0 (r = 80) := ⟨by rw [HRV2.out, ok0 k1 k2 k5 k6 k3 k4 k7]; rfl⟩
  clear k1
  clear k2
  clear k5
  clear k6
  clear k3
  clear k4
  clear k7
  go_wp2
  try go_wp2
  go_ret
  exact ⟨by rw [HV.out]; rfl, by repeat (first | (with_reducible first | exact HB.out | apply below_alloc | apply pw_below_drewN | apply below_drew1 | refine below_set ?_ GE103.out | refine below_set ?_ GE111.out) | exact HB.out)⟩
end Go.Proofs.Ytaldfbmjmpkmmaa.PL
