/- Texts of this proof, one behind the other (merged by a program of this session). -/
import Derived.Test.YtaldfbmjmpkmmaaGreatMf5ad65
import Derived.Lib.Strings
import Derived.StillTailTactics
import Derived.Lib.SliceRun
import Derived.Shelf.SlGeneric
import Derived.Shelf.SlSorted.Search
import Derived.Shelf.SlMaps.Clone
import Derived.Shelf.SlMaps.DeleteFunc
import Derived.Ground.SlsoProg
import Derived.Shelf.Spec.SlicesGrow
import Derived.Ground.Names8Prog
import Derived.Ground.SlmcProg
import Derived.Ground.SlmdProg
import Derived.Test.YtaldfbmjmpkmmaaGreatProg
import Derived.Sort.Walk0
namespace Go.Proofs.YtaldfbmjmpkmmaaGreat.PL
open Go.RowKit Go.Proofs.YtaldfbmjmpkmmaaGreatW.PrintWords Go.Proofs.YtaldfbmjmpkmmaaGreatW.PrintLast Go.Proofs.YtaldfbmjmpkmmaaGreatW.PrintMore
attribute [local go_sem] Mk.str_leq Mk.str_gtr Mk.str_geq max2_int min2_int max_two min_two max_three min_three max_four min_four
set_option linter.unusedVariables false
set_option linter.unusedSimpArgs false
theorem eqA105 (d : Nat) (w : World) (x0 y0 : Int) (x1 y1 : Int) (x2 y2 : Int) (x3 y3 : Int) (x4 y4 : ByteArray) (x5 y5 : ByteArray) (x6 y6 : Bool) :
  (Op.equalIn (d + 2) 105 (.agg #[.int .i64 x0, .int .i64 x1, .int .i64 x2, .int .i64 x3, .string x4, .string x5, .bool x6]) (.agg #[.int .i64 y0, .int .i64 y1, .int .i64 y2, .int .i64 y3, .string y4, .string y5, .bool y6])).run Tryz.prog w = .ok (x0 == y0 && (x1 == y1 && (x2 == y2 && (x3 == y3 && (x4.toList == y4.toList && (x5.toList == y5.toList && (x6 == y6))))))) w := by
 refine eqA_of Tryz.underlying105 (by kernel_rfl) ?_
 refine eqf_cons (by rfl) (by go_simp; rfl) (by go_simp; rfl) (by go_simp) ?_
 refine eqf_cons (by rfl) (by go_simp; rfl) (by go_simp; rfl) (by go_simp) ?_
 refine eqf_cons (by rfl) (by go_simp; rfl) (by go_simp; rfl) (by go_simp) ?_
 refine eqf_cons (by rfl) (by go_simp; rfl) (by go_simp; rfl) (by go_simp) ?_
 refine eqf_cons (by rfl) (by go_simp; rfl) (by go_simp; rfl) (by go_simp) ?_
 refine eqf_cons (by rfl) (by go_simp; rfl) (by go_simp; rfl) (by go_simp) ?_
 exact eqf_last (by rfl) (by go_simp; rfl) (by go_simp; rfl) (by go_simp)
attribute [local go_sem high] eqA105
def rangeBad (a1 a2 a3 : Int) : Bool := decide (a1 < 0) || (decide (1125899906842623 < a1) || (decide (a2 < 0) || (decide (1125899906842624 < a2) || (decide (a3 < 0) || decide (16 ≤ a3)))))
def bareB (a4 a5 : ByteArray) (a6 : Bool) : Bool := a4.toList.isEmpty && (a5.toList.isEmpty && !a6)
def noneB (l7 : List ByteArray) (l8 : List S57) : Bool := l7.isEmpty && l8.isEmpty
def recOk (a0 a1 a2 a3 : Int) (a4 a5 : ByteArray) (a6 : Bool) (l7 : List ByteArray) (l8 : List S57) : Bool :=
  if a0 = 1 then (listedB l7 l8 && decide (0 < a1)) && bareB a4 a5 a6
  else noneB l7 l8 && (
    if a0 = 2 then decide (0 < a1) && (a3 == 0 && bareB a4 a5 a6)
    else if a0 = 5 then decide (0 < a1) && (decide (0 < a2) && (a3 == 0 && bareB a4 a5 a6))
    else if a0 = 6 then decide (0 < a1) && (a2 == 0 && (a3 == 0 && bareB a4 a5 a6))
    else if a0 = 3 then decide (0 < a2) && (keyB a4 && (decide (a5.size ≤ 2052) && (!(a6 && !a5.toList.isEmpty) && (a1 == 0 && a3 == 0))))
    else if a0 = 4 then a1 == 0 && (a3 == 0 && bareB a4 a5 a6)
    else if a0 = 7 then decide (0 < a2) && (a1 == 0 && (a3 == 0 && bareB a4 a5 a6))
    else false)
def recV (a0 a1 a2 a3 : Int) (a4 a5 : ByteArray) (a6 : Bool) (l7 : List ByteArray) (l8 : List S57) : Int :=
  if rangeBad a1 a2 a3 = true then 80 else if recOk a0 a1 a2 a3 a4 a5 a6 l7 l8 = true then 0 else 80
def record_Check.f (a0_0 : Int) (a0_1 : Int) (a0_2 : Int) (a0_3 : Int) (a0_4 : ByteArray) (a0_5 : ByteArray) (a0_6 : Bool) (l0_7 : List ByteArray) (l0_8 : List (S57)) : Option (Int) :=
  if l0_7.length < 8796093022208 ∧ l0_8.length < 8796093022208 then some (recV a0_0 a0_1 a0_2 a0_3 a0_4 a0_5 a0_6 l0_7 l0_8) else none
theorem check_small {a0 a1 a2 a3 : Int} {a4 a5 : ByteArray} {a6 : Bool} {l7 : List ByteArray} {l8 : List S57} {r : Int} (h : record_Check.f a0 a1 a2 a3 a4 a5 a6 l7 l8 = some r) : l7.length < 8796093022208 ∧ l8.length < 8796093022208 := by
  unfold record_Check.f at h
  split at h
  · assumption
  · cases h
theorem check_val {a0 a1 a2 a3 : Int} {a4 a5 : ByteArray} {a6 : Bool} {l7 : List ByteArray} {l8 : List S57} {r : Int} (h : record_Check.f a0 a1 a2 a3 a4 a5 a6 l7 l8 = some r) : r = recV a0 a1 a2 a3 a4 a5 a6 l7 l8 := by
  unfold record_Check.f at h
  split at h
  · injection h with h; exact h.symm
  · cases h
theorem check_bad {a0 a1 a2 a3 : Int} {a4 a5 : ByteArray} {a6 : Bool} {l7 : List ByteArray} {l8 : List S57} {r : Int} (h : r = recV a0 a1 a2 a3 a4 a5 a6 l7 l8) (hb : rangeBad a1 a2 a3 = true) : r = 80 := by
  rw [h]; unfold recV; rw [if_pos hb]
theorem check_good {a0 a1 a2 a3 : Int} {a4 a5 : ByteArray} {a6 : Bool} {l7 : List ByteArray} {l8 : List S57} {r : Int} (h : r = recV a0 a1 a2 a3 a4 a5 a6 l7 l8) (hb : rangeBad a1 a2 a3 = false) : r = if recOk a0 a1 a2 a3 a4 a5 a6 l7 l8 = true then 0 else 80 := by
  rw [h]; unfold recV; rw [if_neg (by rw [hb]; decide)]
theorem ok1 {a0 a1 a2 a3 : Int} {a4 a5 : ByteArray} {a6 : Bool} {l7 : List ByteArray} {l8 : List S57} (h : a0 = 1) : recOk a0 a1 a2 a3 a4 a5 a6 l7 l8 = ((listedB l7 l8 && decide (0 < a1)) && bareB a4 a5 a6) := by
  subst h; rfl
theorem ok2 {a0 a1 a2 a3 : Int} {a4 a5 : ByteArray} {a6 : Bool} {l7 : List ByteArray} {l8 : List S57} (h : a0 = 2) : recOk a0 a1 a2 a3 a4 a5 a6 l7 l8 = (noneB l7 l8 && (decide (0 < a1) && (a3 == 0 && bareB a4 a5 a6))) := by
  subst h; rfl
theorem ok5 {a0 a1 a2 a3 : Int} {a4 a5 : ByteArray} {a6 : Bool} {l7 : List ByteArray} {l8 : List S57} (h : a0 = 5) : recOk a0 a1 a2 a3 a4 a5 a6 l7 l8 = (noneB l7 l8 && (decide (0 < a1) && (decide (0 < a2) && (a3 == 0 && bareB a4 a5 a6)))) := by
  subst h; rfl
theorem ok6 {a0 a1 a2 a3 : Int} {a4 a5 : ByteArray} {a6 : Bool} {l7 : List ByteArray} {l8 : List S57} (h : a0 = 6) : recOk a0 a1 a2 a3 a4 a5 a6 l7 l8 = (noneB l7 l8 && (decide (0 < a1) && (a2 == 0 && (a3 == 0 && bareB a4 a5 a6)))) := by
  subst h; rfl
theorem ok3 {a0 a1 a2 a3 : Int} {a4 a5 : ByteArray} {a6 : Bool} {l7 : List ByteArray} {l8 : List S57} (h : a0 = 3) : recOk a0 a1 a2 a3 a4 a5 a6 l7 l8 = (noneB l7 l8 && (decide (0 < a2) && (keyB a4 && (decide (a5.size ≤ 2052) && (!(a6 && !a5.toList.isEmpty) && (a1 == 0 && a3 == 0)))))) := by
  subst h; rfl
theorem ok4 {a0 a1 a2 a3 : Int} {a4 a5 : ByteArray} {a6 : Bool} {l7 : List ByteArray} {l8 : List S57} (h : a0 = 4) : recOk a0 a1 a2 a3 a4 a5 a6 l7 l8 = (noneB l7 l8 && (a1 == 0 && (a3 == 0 && bareB a4 a5 a6))) := by
  subst h; rfl
theorem ok7 {a0 a1 a2 a3 : Int} {a4 a5 : ByteArray} {a6 : Bool} {l7 : List ByteArray} {l8 : List S57} (h : a0 = 7) : recOk a0 a1 a2 a3 a4 a5 a6 l7 l8 = (noneB l7 l8 && (decide (0 < a2) && (a1 == 0 && (a3 == 0 && bareB a4 a5 a6)))) := by
  subst h; rfl
theorem ok0 {a0 a1 a2 a3 : Int} {a4 a5 : ByteArray} {a6 : Bool} {l7 : List ByteArray} {l8 : List S57} (k1 : ¬ a0 = 1) (k2 : ¬ a0 = 2) (k5 : ¬ a0 = 5) (k6 : ¬ a0 = 6) (k3 : ¬ a0 = 3) (k4 : ¬ a0 = 4) (k7 : ¬ a0 = 7) : recOk a0 a1 a2 a3 a4 a5 a6 l7 l8 = false := by
  unfold recOk; rw [if_neg k1, if_neg k2, if_neg k5, if_neg k6, if_neg k3, if_neg k4, if_neg k7, Bool.and_false]
theorem none_eq (l7 : List ByteArray) (l8 : List S57) (h7 : l7.length < 8796093022208) (h8 : l8.length < 8796093022208) : (wrap64 ((l7.length : Int) + (l8.length : Int)) == 0) = noneB l7 l8 := by
  rw [w64 _ (by omega) (by omega)]
  unfold noneB
  cases l7 <;> cases l8 <;> simp <;> omega
theorem emp (a : ByteArray) : ((⟨#[]⟩ : ByteArray).toList == a.toList) = a.toList.isEmpty := by
  have he : ((⟨#[]⟩ : ByteArray).toList = ([] : List UInt8)) := by simp [ByteArray.toList, ByteArray.toList.loop, ByteArray.size]
  rw [he]; cases a.toList <;> rfl
theorem beq0 (a : Int) : ((0 : Int) == a) = (a == 0) := by rw [Bool.eq_iff_iff, beq_iff_eq, beq_iff_eq]; exact eq_comm
theorem ne1 {a0 a1 a2 a3 : Int} {a4 a5 : ByteArray} {a6 : Bool} {l7 : List ByteArray} {l8 : List S57} {t0 t1 t2 t3 : Int} {t4 t5 : ByteArray} {t6 : Bool} (h : record_bare.f a0 a1 a2 a3 a4 a5 a6 l7 l8 = some (t0, t1, t2, t3, t4, t5, t6)) : (!(t0 == a0) || (!(t1 == a1) || (!(t2 == a2) || (!(t4.toList == a4.toList) || (!(t5.toList == a5.toList) || (!(t6 == a6))))))) = !bareB a4 a5 a6 := by
  simp only [record_bare.f, Option.some.injEq, Prod.mk.injEq] at h
  obtain ⟨rfl, rfl, rfl, rfl, rfl, rfl, rfl⟩ := h
  simp only [emp, beq0, beq_self_eq_true, Bool.not_true, Bool.false_or, bareB, Bool.not_and, Bool.not_not]
  try (cases a6 <;> simp)
theorem ne2 {a0 a1 a2 a3 : Int} {a4 a5 : ByteArray} {a6 : Bool} {l7 : List ByteArray} {l8 : List S57} {t0 t1 t2 t3 : Int} {t4 t5 : ByteArray} {t6 : Bool} (h : record_bare.f a0 a1 a2 a3 a4 a5 a6 l7 l8 = some (t0, t1, t2, t3, t4, t5, t6)) : (!(t0 == a0) || (!(t1 == a1) || (!(t2 == a2) || (!(t3 == a3) || (!(t4.toList == a4.toList) || (!(t5.toList == a5.toList) || (!(t6 == a6)))))))) = !(a3 == 0 && bareB a4 a5 a6) := by
  simp only [record_bare.f, Option.some.injEq, Prod.mk.injEq] at h
  obtain ⟨rfl, rfl, rfl, rfl, rfl, rfl, rfl⟩ := h
  simp only [emp, beq0, beq_self_eq_true, Bool.not_true, Bool.false_or, bareB, Bool.not_and, Bool.not_not]
  try (cases a6 <;> simp)
theorem ne5 {a0 a1 a2 a3 : Int} {a4 a5 : ByteArray} {a6 : Bool} {l7 : List ByteArray} {l8 : List S57} {t0 t1 t2 t3 : Int} {t4 t5 : ByteArray} {t6 : Bool} (h : record_bare.f a0 a1 a2 a3 a4 a5 a6 l7 l8 = some (t0, t1, t2, t3, t4, t5, t6)) : (!(t0 == a0) || (!(t1 == a1) || (!(t2 == a2) || (!(t3 == a3) || (!(t4.toList == a4.toList) || (!(t5.toList == a5.toList) || (!(t6 == a6)))))))) = !(a3 == 0 && bareB a4 a5 a6) := by
  simp only [record_bare.f, Option.some.injEq, Prod.mk.injEq] at h
  obtain ⟨rfl, rfl, rfl, rfl, rfl, rfl, rfl⟩ := h
  simp only [emp, beq0, beq_self_eq_true, Bool.not_true, Bool.false_or, bareB, Bool.not_and, Bool.not_not]
  try (cases a6 <;> simp)
theorem ne6 {a0 a1 a2 a3 : Int} {a4 a5 : ByteArray} {a6 : Bool} {l7 : List ByteArray} {l8 : List S57} {t0 t1 t2 t3 : Int} {t4 t5 : ByteArray} {t6 : Bool} (h : record_bare.f a0 a1 a2 a3 a4 a5 a6 l7 l8 = some (t0, t1, t2, t3, t4, t5, t6)) : (!(t0 == a0) || (!(t1 == a1) || (!(0 == a2) || (!(t3 == a3) || (!(t4.toList == a4.toList) || (!(t5.toList == a5.toList) || (!(t6 == a6)))))))) = !(a2 == 0 && (a3 == 0 && bareB a4 a5 a6)) := by
  simp only [record_bare.f, Option.some.injEq, Prod.mk.injEq] at h
  obtain ⟨rfl, rfl, rfl, rfl, rfl, rfl, rfl⟩ := h
  simp only [emp, beq0, beq_self_eq_true, Bool.not_true, Bool.false_or, bareB, Bool.not_and, Bool.not_not]
  try (cases a6 <;> simp)
theorem ne3 {a0 a1 a2 a3 : Int} {a4 a5 : ByteArray} {a6 : Bool} {l7 : List ByteArray} {l8 : List S57} {t0 t1 t2 t3 : Int} {t4 t5 : ByteArray} {t6 : Bool} (h : record_bare.f a0 a1 a2 a3 a4 a5 a6 l7 l8 = some (t0, t1, t2, t3, t4, t5, t6)) : (!(0 == a1) || (!(0 == a3))) = !(a1 == 0 && a3 == 0) := by
  simp only [record_bare.f, Option.some.injEq, Prod.mk.injEq] at h
  obtain ⟨rfl, rfl, rfl, rfl, rfl, rfl, rfl⟩ := h
  simp only [emp, beq0, beq_self_eq_true, Bool.not_true, Bool.false_or, bareB, Bool.not_and, Bool.not_not]
  try (cases a6 <;> simp)
theorem ne4 {a0 a1 a2 a3 : Int} {a4 a5 : ByteArray} {a6 : Bool} {l7 : List ByteArray} {l8 : List S57} {t0 t1 t2 t3 : Int} {t4 t5 : ByteArray} {t6 : Bool} (h : record_bare.f a0 a1 a2 a3 a4 a5 a6 l7 l8 = some (t0, t1, t2, t3, t4, t5, t6)) : (!(t0 == a0) || (!(0 == a1) || (!(t2 == a2) || (!(t3 == a3) || (!(t4.toList == a4.toList) || (!(t5.toList == a5.toList) || (!(t6 == a6)))))))) = !(a1 == 0 && (a3 == 0 && bareB a4 a5 a6)) := by
  simp only [record_bare.f, Option.some.injEq, Prod.mk.injEq] at h
  obtain ⟨rfl, rfl, rfl, rfl, rfl, rfl, rfl⟩ := h
  simp only [emp, beq0, beq_self_eq_true, Bool.not_true, Bool.false_or, bareB, Bool.not_and, Bool.not_not]
  try (cases a6 <;> simp)
theorem ne7 {a0 a1 a2 a3 : Int} {a4 a5 : ByteArray} {a6 : Bool} {l7 : List ByteArray} {l8 : List S57} {t0 t1 t2 t3 : Int} {t4 t5 : ByteArray} {t6 : Bool} (h : record_bare.f a0 a1 a2 a3 a4 a5 a6 l7 l8 = some (t0, t1, t2, t3, t4, t5, t6)) : (!(t0 == a0) || (!(0 == a1) || (!(t2 == a2) || (!(t3 == a3) || (!(t4.toList == a4.toList) || (!(t5.toList == a5.toList) || (!(t6 == a6)))))))) = !(a1 == 0 && (a3 == 0 && bareB a4 a5 a6)) := by
  simp only [record_bare.f, Option.some.injEq, Prod.mk.injEq] at h
  obtain ⟨rfl, rfl, rfl, rfl, rfl, rfl, rfl⟩ := h
  simp only [emp, beq0, beq_self_eq_true, Bool.not_true, Bool.false_or, bareB, Bool.not_and, Bool.not_not]
  try (cases a6 <;> simp)
def record_Check.T3 : Bool × List (List Nat × List Nat) := (true, [([], []), ([0], [0]), ([], []), ([2], [2]), ([3], [3]), ([], []), ([5], [5]), ([6], [6]), ([4, 7], [4, 7]), ([8], [8]), ([], []), ([10, 1, 1, 0, 1, 10], [1, 10]), ([9, 11, 0, 1, 2, 3, 4, 5, 6, 7, 8, 9, 10, 11], [9])])
def record_Check.B3 : List Nat := [0, 1, 0, 4, 12, 0, 32, 96, 252, 508, 0, 1027, 4095]
theorem record_Check.tab3 : rtab .any (opsOf Tryz.f32 3) = record_Check.T3 := by kernel_rfl
theorem record_Check.bits3 : waitsOk record_Check.T3.2 record_Check.B3 = true := by kernel_rfl
def record_Check.T7 : Bool × List (List Nat × List Nat) := (true, [([], []), ([0], [0]), ([], []), ([2], [2]), ([3, 3], [3]), ([4], [4]), ([5, 4], [4, 5]), ([6, 4], [4, 6]), ([4, 7], [4, 7]), ([0, 1], []), ([9, 1, 4, 0, 1], [1, 9]), ([8, 10, 0, 1, 2, 3, 4, 5, 6, 7, 8, 9, 10], [8])])
def record_Check.B7 : List Nat := [0, 1, 0, 4, 12, 28, 60, 124, 252, 3, 543, 2047]
theorem record_Check.tab7 : rtab .any (opsOf Tryz.f32 7) = record_Check.T7 := by kernel_rfl
theorem record_Check.bits7 : waitsOk record_Check.T7.2 record_Check.B7 = true := by kernel_rfl
def record_Check.T13 : Bool × List (List Nat × List Nat) := (true, [([], []), ([0], [0]), ([1], [1]), ([2, 1], [1, 2]), ([3, 1], [1, 3]), ([1, 4], [1, 4]), ([], []), ([6, 1], [6]), ([5, 7, 0, 1, 2, 3, 4, 5, 6, 7], [0, 5])])
def record_Check.B13 : List Nat := [0, 1, 3, 7, 15, 31, 0, 67, 255]
theorem record_Check.tab13 : rtab .any (opsOf Tryz.f32 13) = record_Check.T13 := by kernel_rfl
theorem record_Check.bits13 : waitsOk record_Check.T13.2 record_Check.B13 = true := by kernel_rfl
def record_Check.T20 : Bool × List (List Nat × List Nat) := (true, [([], []), ([0], [0]), ([1], [1]), ([2, 1], [1, 2]), ([3, 1], [1, 3]), ([1, 4], [1, 4]), ([], []), ([6, 1], [6]), ([5, 7, 0, 1, 2, 3, 4, 5, 6, 7], [0, 5])])
def record_Check.B20 : List Nat := [0, 1, 3, 7, 15, 31, 0, 67, 255]
theorem record_Check.tab20 : rtab .any (opsOf Tryz.f32 20) = record_Check.T20 := by kernel_rfl
theorem record_Check.bits20 : waitsOk record_Check.T20.2 record_Check.B20 = true := by kernel_rfl
set_option maxHeartbeats 8000000 in
set_option maxRecDepth 100000 in
theorem record_Check.calls (a0_0 : Int) (a0_1 : Int) (a0_2 : Int) (a0_3 : Int) (a0_4 : ByteArray) (a0_5 : ByteArray) (a0_6 : Bool) (A0_7 : Option Addr) (c0_7 : Nat) (l0_7 : List ByteArray) (A0_8 : Option Addr) (c0_8 : Nat) (l0_8 : List (S57)) (r : Int) (w : World) (hr0_7 : Kd.C Kd.string w A0_7 l0_7.length l0_7) (hc0_7 : l0_7.length ≤ c0_7) (hr0_8 : Kd.C k57 w A0_8 l0_8.length l0_8) (hc0_8 : l0_8.length ≤ c0_8) (h : record_Check.f a0_0 a0_1 a0_2 a0_3 a0_4 a0_5 a0_6 l0_7 l0_8 = some r) :
    Calls Tryz.prog 32 #[.agg #[.int .i64 a0_0, .int .i64 a0_1, .int .i64 a0_2, .int .i64 a0_3, .string a0_4, .string a0_5, .bool a0_6, .slice A0_7 l0_7.length c0_7, .slice A0_8 l0_8.length c0_8]] w fun e w' => e = .returned (.int .i64 r) ∧ Below w.heap.size w w' := by
 have hu26 := Tryz.underlying26
 have hu105 := Tryz.underlying105
 have HR0_7 := Aside0.mk hr0_7
 have HC0_7 := Aside0.mk hc0_7
 have HR0_8 := Aside0.mk hr0_8
 have HC0_8 := Aside0.mk hc0_8
 have HSM := Aside0.mk (check_small h)
 have HRV := Aside0.mk (check_val h)
 clear hr0_7 hc0_7 hr0_8 hc0_8 h
 have HB := Aside0.mk (Below.refl w.heap.size w)
 go_enter Tryz.func32, Tryz.ntmps32
 go_upto_region 1 with (first | ((with_reducible refine gate_dst (N := 1) rfl ?_); (try (refine gate_guard (by rfl) ?_; dsimp only)); refine box_event ?hg (N := 1) ?hd (cs := #[.int .i64 a0_0, .int .i64 a0_1, .int .i64 a0_2, .int .i64 a0_3, .string a0_4, .string a0_5, .bool a0_6, .slice A0_7 l0_7.length c0_7, .slice A0_8 l0_8.length c0_8]) (t := 26) ?hr ?_; (case hd => rfl); (case hg => rfl); (case hr => first | (go_simp; done) | (go_simp; rfl)); intro gb103 hg w3 hbox hb; have n0_ := Aside0.mk (below_step (by repeat (first | (with_reducible first | exact HB.out | apply below_alloc | apply pw_below_drewN | apply below_drew1) | exact HB.out)) hb); have n1_ := Aside0.mk (hbox); have n2_ := Aside0.mk ((by rw [hg]; exact (below_size (by repeat (first | (with_reducible first | exact HB.out | apply below_alloc | apply pw_below_drewN | apply below_drew1) | exact HB.out))) : w.heap.size ≤ gb103)); have n3_ := Aside0.mk ((by rw [hg]; exact (below_size (by repeat (first | (with_reducible first | exact HB.out | apply below_alloc | apply pw_below_drewN | apply below_drew1) | exact HB.out))) : w.heap.size ≤ gb103)); clear HB; have HB := n0_; have BK103 := n1_; have GW103 := n2_; have GE103 := n3_; clear n0_ n1_ n2_ n3_; clear hb hbox hg))
 (try simp only [Act.put, List.setIfInBounds_toArray, List.set_cons_zero, List.set_cons_succ])
 go_cut [32] (fun v32 wc => v32 = .bool (rangeBad a0_1 a0_2 a0_3) ∧ Aside0 (wc.heap[gb103]? = some (.cells #[.int .i64 a0_0, .int .i64 a0_1, .int .i64 a0_2, .int .i64 a0_3, .string a0_4, .string a0_5, .bool a0_6, .slice A0_7 l0_7.length c0_7, .slice A0_8 l0_8.length c0_8] 26 (0, 0))) ∧ Aside0 (Below w.heap.size w wc))
 case first =>
  by_cases c0 : a0_1 < 0
  · have cb0 : decide (a0_1 < 0) = true := decide_eq_true c0
    clear c0
    have HK := Aside0.mk (show rangeBad a0_1 a0_2 a0_3 = true by unfold rangeBad; simp only [cb0, Bool.false_or, Bool.true_or, Bool.or_true, Bool.or_false])
    have hcza0y_0 : w3.cell? ⟨gb103, 0, none⟩ = some (.int .i64 a0_0) := (blk_cell BK103.out 0).trans rfl
    have hcza0y_1 : w3.cell? ⟨gb103, 1, none⟩ = some (.int .i64 a0_1) := (blk_cell BK103.out 1).trans rfl
    have hcza0y_2 : w3.cell? ⟨gb103, 2, none⟩ = some (.int .i64 a0_2) := (blk_cell BK103.out 2).trans rfl
    have hcza0y_3 : w3.cell? ⟨gb103, 3, none⟩ = some (.int .i64 a0_3) := (blk_cell BK103.out 3).trans rfl
    have hcza0y_4 : w3.cell? ⟨gb103, 4, none⟩ = some (.string a0_4) := (blk_cell BK103.out 4).trans rfl
    have hcza0y_5 : w3.cell? ⟨gb103, 5, none⟩ = some (.string a0_5) := (blk_cell BK103.out 5).trans rfl
    have hcza0y_6 : w3.cell? ⟨gb103, 6, none⟩ = some (.bool a0_6) := (blk_cell BK103.out 6).trans rfl
    have hcza0y_7 : w3.cell? ⟨gb103, 7, none⟩ = some (.slice A0_7 l0_7.length c0_7) := (blk_cell BK103.out 7).trans rfl
    have hcza0y_8 : w3.cell? ⟨gb103, 8, none⟩ = some (.slice A0_8 l0_8.length c0_8) := (blk_cell BK103.out 8).trans rfl
    have hfza0y_0 := blk_frozen BK103.out 0
    have hfza0y_1 := blk_frozen BK103.out 1
    have hfza0y_2 := blk_frozen BK103.out 2
    have hfza0y_3 := blk_frozen BK103.out 3
    have hfza0y_4 := blk_frozen BK103.out 4
    have hfza0y_5 := blk_frozen BK103.out 5
    have hfza0y_6 := blk_frozen BK103.out 6
    have hfza0y_7 := blk_frozen BK103.out 7
    have hfza0y_8 := blk_frozen BK103.out 8
    go_wp2
    go_meet
    case rel => exact ⟨by rw [HK.out], ⟨by (with_reducible repeat (first | refine blk_drewN ?_ _ | refine blk_drew ?_ | refine blk_alloc ?_ _)); exact BK103.out⟩, ⟨by repeat (first | (with_reducible first | exact HB.out | apply below_alloc | apply pw_below_drewN | apply below_drew1 | refine below_set ?_ GE103.out) | exact HB.out)⟩⟩
  have cb0 : decide (a0_1 < 0) = false := decide_eq_false c0
  clear c0
  by_cases c1 : 1125899906842623 < a0_1
  · have cb1 : decide (1125899906842623 < a0_1) = true := decide_eq_true c1
    clear c1
    have HK := Aside0.mk (show rangeBad a0_1 a0_2 a0_3 = true by unfold rangeBad; simp only [cb0, cb1, Bool.false_or, Bool.true_or, Bool.or_true, Bool.or_false])
    have hcza1y_0 : w3.cell? ⟨gb103, 0, none⟩ = some (.int .i64 a0_0) := (blk_cell BK103.out 0).trans rfl
    have hcza1y_1 : w3.cell? ⟨gb103, 1, none⟩ = some (.int .i64 a0_1) := (blk_cell BK103.out 1).trans rfl
    have hcza1y_2 : w3.cell? ⟨gb103, 2, none⟩ = some (.int .i64 a0_2) := (blk_cell BK103.out 2).trans rfl
    have hcza1y_3 : w3.cell? ⟨gb103, 3, none⟩ = some (.int .i64 a0_3) := (blk_cell BK103.out 3).trans rfl
    have hcza1y_4 : w3.cell? ⟨gb103, 4, none⟩ = some (.string a0_4) := (blk_cell BK103.out 4).trans rfl
    have hcza1y_5 : w3.cell? ⟨gb103, 5, none⟩ = some (.string a0_5) := (blk_cell BK103.out 5).trans rfl
    have hcza1y_6 : w3.cell? ⟨gb103, 6, none⟩ = some (.bool a0_6) := (blk_cell BK103.out 6).trans rfl
    have hcza1y_7 : w3.cell? ⟨gb103, 7, none⟩ = some (.slice A0_7 l0_7.length c0_7) := (blk_cell BK103.out 7).trans rfl
    have hcza1y_8 : w3.cell? ⟨gb103, 8, none⟩ = some (.slice A0_8 l0_8.length c0_8) := (blk_cell BK103.out 8).trans rfl
    have hfza1y_0 := blk_frozen BK103.out 0
    have hfza1y_1 := blk_frozen BK103.out 1
    have hfza1y_2 := blk_frozen BK103.out 2
    have hfza1y_3 := blk_frozen BK103.out 3
    have hfza1y_4 := blk_frozen BK103.out 4
    have hfza1y_5 := blk_frozen BK103.out 5
    have hfza1y_6 := blk_frozen BK103.out 6
    have hfza1y_7 := blk_frozen BK103.out 7
    have hfza1y_8 := blk_frozen BK103.out 8
    go_wp2
    go_meet
    case rel => exact ⟨by rw [HK.out], ⟨by (with_reducible repeat (first | refine blk_drewN ?_ _ | refine blk_drew ?_ | refine blk_alloc ?_ _)); exact BK103.out⟩, ⟨by repeat (first | (with_reducible first | exact HB.out | apply below_alloc | apply pw_below_drewN | apply below_drew1 | refine below_set ?_ GE103.out) | exact HB.out)⟩⟩
  have cb1 : decide (1125899906842623 < a0_1) = false := decide_eq_false c1
  clear c1
  by_cases c2 : a0_2 < 0
  · have cb2 : decide (a0_2 < 0) = true := decide_eq_true c2
    clear c2
    have HK := Aside0.mk (show rangeBad a0_1 a0_2 a0_3 = true by unfold rangeBad; simp only [cb0, cb1, cb2, Bool.false_or, Bool.true_or, Bool.or_true, Bool.or_false])
    have hcza2y_0 : w3.cell? ⟨gb103, 0, none⟩ = some (.int .i64 a0_0) := (blk_cell BK103.out 0).trans rfl
    have hcza2y_1 : w3.cell? ⟨gb103, 1, none⟩ = some (.int .i64 a0_1) := (blk_cell BK103.out 1).trans rfl
    have hcza2y_2 : w3.cell? ⟨gb103, 2, none⟩ = some (.int .i64 a0_2) := (blk_cell BK103.out 2).trans rfl
    have hcza2y_3 : w3.cell? ⟨gb103, 3, none⟩ = some (.int .i64 a0_3) := (blk_cell BK103.out 3).trans rfl
    have hcza2y_4 : w3.cell? ⟨gb103, 4, none⟩ = some (.string a0_4) := (blk_cell BK103.out 4).trans rfl
    have hcza2y_5 : w3.cell? ⟨gb103, 5, none⟩ = some (.string a0_5) := (blk_cell BK103.out 5).trans rfl
    have hcza2y_6 : w3.cell? ⟨gb103, 6, none⟩ = some (.bool a0_6) := (blk_cell BK103.out 6).trans rfl
    have hcza2y_7 : w3.cell? ⟨gb103, 7, none⟩ = some (.slice A0_7 l0_7.length c0_7) := (blk_cell BK103.out 7).trans rfl
    have hcza2y_8 : w3.cell? ⟨gb103, 8, none⟩ = some (.slice A0_8 l0_8.length c0_8) := (blk_cell BK103.out 8).trans rfl
    have hfza2y_0 := blk_frozen BK103.out 0
    have hfza2y_1 := blk_frozen BK103.out 1
    have hfza2y_2 := blk_frozen BK103.out 2
    have hfza2y_3 := blk_frozen BK103.out 3
    have hfza2y_4 := blk_frozen BK103.out 4
    have hfza2y_5 := blk_frozen BK103.out 5
    have hfza2y_6 := blk_frozen BK103.out 6
    have hfza2y_7 := blk_frozen BK103.out 7
    have hfza2y_8 := blk_frozen BK103.out 8
    go_wp2
    go_meet
    case rel => exact ⟨by rw [HK.out], ⟨by (with_reducible repeat (first | refine blk_drewN ?_ _ | refine blk_drew ?_ | refine blk_alloc ?_ _)); exact BK103.out⟩, ⟨by repeat (first | (with_reducible first | exact HB.out | apply below_alloc | apply pw_below_drewN | apply below_drew1 | refine below_set ?_ GE103.out) | exact HB.out)⟩⟩
  have cb2 : decide (a0_2 < 0) = false := decide_eq_false c2
  clear c2
  by_cases c3 : 1125899906842624 < a0_2
  · have cb3 : decide (1125899906842624 < a0_2) = true := decide_eq_true c3
    clear c3
    have HK := Aside0.mk (show rangeBad a0_1 a0_2 a0_3 = true by unfold rangeBad; simp only [cb0, cb1, cb2, cb3, Bool.false_or, Bool.true_or, Bool.or_true, Bool.or_false])
    have hcza3y_0 : w3.cell? ⟨gb103, 0, none⟩ = some (.int .i64 a0_0) := (blk_cell BK103.out 0).trans rfl
    have hcza3y_1 : w3.cell? ⟨gb103, 1, none⟩ = some (.int .i64 a0_1) := (blk_cell BK103.out 1).trans rfl
    have hcza3y_2 : w3.cell? ⟨gb103, 2, none⟩ = some (.int .i64 a0_2) := (blk_cell BK103.out 2).trans rfl
    have hcza3y_3 : w3.cell? ⟨gb103, 3, none⟩ = some (.int .i64 a0_3) := (blk_cell BK103.out 3).trans rfl
    have hcza3y_4 : w3.cell? ⟨gb103, 4, none⟩ = some (.string a0_4) := (blk_cell BK103.out 4).trans rfl
    have hcza3y_5 : w3.cell? ⟨gb103, 5, none⟩ = some (.string a0_5) := (blk_cell BK103.out 5).trans rfl
    have hcza3y_6 : w3.cell? ⟨gb103, 6, none⟩ = some (.bool a0_6) := (blk_cell BK103.out 6).trans rfl
    have hcza3y_7 : w3.cell? ⟨gb103, 7, none⟩ = some (.slice A0_7 l0_7.length c0_7) := (blk_cell BK103.out 7).trans rfl
    have hcza3y_8 : w3.cell? ⟨gb103, 8, none⟩ = some (.slice A0_8 l0_8.length c0_8) := (blk_cell BK103.out 8).trans rfl
    have hfza3y_0 := blk_frozen BK103.out 0
    have hfza3y_1 := blk_frozen BK103.out 1
    have hfza3y_2 := blk_frozen BK103.out 2
    have hfza3y_3 := blk_frozen BK103.out 3
    have hfza3y_4 := blk_frozen BK103.out 4
    have hfza3y_5 := blk_frozen BK103.out 5
    have hfza3y_6 := blk_frozen BK103.out 6
    have hfza3y_7 := blk_frozen BK103.out 7
    have hfza3y_8 := blk_frozen BK103.out 8
    go_wp2
    go_meet
    case rel => exact ⟨by rw [HK.out], ⟨by (with_reducible repeat (first | refine blk_drewN ?_ _ | refine blk_drew ?_ | refine blk_alloc ?_ _)); exact BK103.out⟩, ⟨by repeat (first | (with_reducible first | exact HB.out | apply below_alloc | apply pw_below_drewN | apply below_drew1 | refine below_set ?_ GE103.out) | exact HB.out)⟩⟩
  have cb3 : decide (1125899906842624 < a0_2) = false := decide_eq_false c3
  clear c3
  by_cases c4 : a0_3 < 0
  · have cb4 : decide (a0_3 < 0) = true := decide_eq_true c4
    clear c4
    have HK := Aside0.mk (show rangeBad a0_1 a0_2 a0_3 = true by unfold rangeBad; simp only [cb0, cb1, cb2, cb3, cb4, Bool.false_or, Bool.true_or, Bool.or_true, Bool.or_false])
    have hcza4y_0 : w3.cell? ⟨gb103, 0, none⟩ = some (.int .i64 a0_0) := (blk_cell BK103.out 0).trans rfl
    have hcza4y_1 : w3.cell? ⟨gb103, 1, none⟩ = some (.int .i64 a0_1) := (blk_cell BK103.out 1).trans rfl
    have hcza4y_2 : w3.cell? ⟨gb103, 2, none⟩ = some (.int .i64 a0_2) := (blk_cell BK103.out 2).trans rfl
    have hcza4y_3 : w3.cell? ⟨gb103, 3, none⟩ = some (.int .i64 a0_3) := (blk_cell BK103.out 3).trans rfl
    have hcza4y_4 : w3.cell? ⟨gb103, 4, none⟩ = some (.string a0_4) := (blk_cell BK103.out 4).trans rfl
    have hcza4y_5 : w3.cell? ⟨gb103, 5, none⟩ = some (.string a0_5) := (blk_cell BK103.out 5).trans rfl
    have hcza4y_6 : w3.cell? ⟨gb103, 6, none⟩ = some (.bool a0_6) := (blk_cell BK103.out 6).trans rfl
    have hcza4y_7 : w3.cell? ⟨gb103, 7, none⟩ = some (.slice A0_7 l0_7.length c0_7) := (blk_cell BK103.out 7).trans rfl
    have hcza4y_8 : w3.cell? ⟨gb103, 8, none⟩ = some (.slice A0_8 l0_8.length c0_8) := (blk_cell BK103.out 8).trans rfl
    have hfza4y_0 := blk_frozen BK103.out 0
    have hfza4y_1 := blk_frozen BK103.out 1
    have hfza4y_2 := blk_frozen BK103.out 2
    have hfza4y_3 := blk_frozen BK103.out 3
    have hfza4y_4 := blk_frozen BK103.out 4
    have hfza4y_5 := blk_frozen BK103.out 5
    have hfza4y_6 := blk_frozen BK103.out 6
    have hfza4y_7 := blk_frozen BK103.out 7
    have hfza4y_8 := blk_frozen BK103.out 8
    go_wp2
    go_meet
    case rel => exact ⟨by rw [HK.out], ⟨by (with_reducible repeat (first | refine blk_drewN ?_ _ | refine blk_drew ?_ | refine blk_alloc ?_ _)); exact BK103.out⟩, ⟨by repeat (first | (with_reducible first | exact HB.out | apply below_alloc | apply pw_below_drewN | apply below_drew1 | refine below_set ?_ GE103.out) | exact HB.out)⟩⟩
  have cb4 : decide (a0_3 < 0) = false := decide_eq_false c4
  clear c4
  have HK := Aside0.mk (show rangeBad a0_1 a0_2 a0_3 = decide (16 ≤ a0_3) by unfold rangeBad; simp only [cb0, cb1, cb2, cb3, cb4, Bool.false_or, Bool.true_or, Bool.or_true, Bool.or_false])
  have hcza5n_0 : w3.cell? ⟨gb103, 0, none⟩ = some (.int .i64 a0_0) := (blk_cell BK103.out 0).trans rfl
  have hcza5n_1 : w3.cell? ⟨gb103, 1, none⟩ = some (.int .i64 a0_1) := (blk_cell BK103.out 1).trans rfl
  have hcza5n_2 : w3.cell? ⟨gb103, 2, none⟩ = some (.int .i64 a0_2) := (blk_cell BK103.out 2).trans rfl
  have hcza5n_3 : w3.cell? ⟨gb103, 3, none⟩ = some (.int .i64 a0_3) := (blk_cell BK103.out 3).trans rfl
  have hcza5n_4 : w3.cell? ⟨gb103, 4, none⟩ = some (.string a0_4) := (blk_cell BK103.out 4).trans rfl
  have hcza5n_5 : w3.cell? ⟨gb103, 5, none⟩ = some (.string a0_5) := (blk_cell BK103.out 5).trans rfl
  have hcza5n_6 : w3.cell? ⟨gb103, 6, none⟩ = some (.bool a0_6) := (blk_cell BK103.out 6).trans rfl
  have hcza5n_7 : w3.cell? ⟨gb103, 7, none⟩ = some (.slice A0_7 l0_7.length c0_7) := (blk_cell BK103.out 7).trans rfl
  have hcza5n_8 : w3.cell? ⟨gb103, 8, none⟩ = some (.slice A0_8 l0_8.length c0_8) := (blk_cell BK103.out 8).trans rfl
  have hfza5n_0 := blk_frozen BK103.out 0
  have hfza5n_1 := blk_frozen BK103.out 1
  have hfza5n_2 := blk_frozen BK103.out 2
  have hfza5n_3 := blk_frozen BK103.out 3
  have hfza5n_4 := blk_frozen BK103.out 4
  have hfza5n_5 := blk_frozen BK103.out 5
  have hfza5n_6 := blk_frozen BK103.out 6
  have hfza5n_7 := blk_frozen BK103.out 7
  have hfza5n_8 := blk_frozen BK103.out 8
  go_wp2
  go_meet
  case rel => exact ⟨by rw [HK.out], ⟨by (with_reducible repeat (first | refine blk_drewN ?_ _ | refine blk_drew ?_ | refine blk_alloc ?_ _)); exact BK103.out⟩, ⟨by repeat (first | (with_reducible first | exact HB.out | apply below_alloc | apply pw_below_drewN | apply below_drew1 | refine below_set ?_ GE103.out) | exact HB.out)⟩⟩
 case rest =>
  obtain ⟨rfl, BK103, HB⟩ := hcut
  by_cases hrb : rangeBad a0_1 a0_2 a0_3 = true
  · rw [hrb]
    have HR80 := Aside0.mk (check_bad HRV.out hrb)
    clear hrb
    go_wp2
    go_ret
    exact ⟨by rw [HR80.out]; rfl, by repeat (first | (with_reducible first | exact HB.out | apply below_alloc | apply pw_below_drewN | apply below_drew1 | refine below_set ?_ GE103.out) | exact HB.out)⟩
  replace hrb : rangeBad a0_1 a0_2 a0_3 = false := by simpa using hrb
  rw [hrb]
  have HRV2 := Aside0.mk (check_good HRV.out hrb)
  clear hrb HRV
  obtain ⟨t104, t105, t106, t107, t108, t109, t110, A160⟩ : ∃ t104 t105 t106 t107 t108 t109 t110, record_bare.f a0_0 a0_1 a0_2 a0_3 a0_4 a0_5 a0_6 l0_7 l0_8 = some (t104, t105, t106, t107, t108, t109, t110) := ⟨_, _, _, _, _, _, _, rfl⟩
  have A16 := Aside0.mk A160
  clear A160
  try go_wp2
  have n0_ := Aside0.mk (blk_drew BK103.out)
  have n1_ := Aside0.mk (below_drew1 HB.out)
  clear BK103
  clear HB
  have BK103 := n0_
  have HB := n1_
  clear n0_ n1_
  refine start_ (n := 13) (S := fun w' => w'.cell? ⟨gb103, 0, none⟩ = some (.int .i64 a0_0) ∧ w'.cell? ⟨gb103, 1, none⟩ = some (.int .i64 a0_1) ∧ w'.cell? ⟨gb103, 2, none⟩ = some (.int .i64 a0_2) ∧ w'.cell? ⟨gb103, 3, none⟩ = some (.int .i64 a0_3) ∧ w'.cell? ⟨gb103, 4, none⟩ = some (.string a0_4) ∧ w'.cell? ⟨gb103, 5, none⟩ = some (.string a0_5) ∧ w'.cell? ⟨gb103, 6, none⟩ = some (.bool a0_6) ∧ w'.cell? ⟨gb103, 7, none⟩ = some (.slice A0_7 l0_7.length c0_7) ∧ w'.cell? ⟨gb103, 8, none⟩ = some (.slice A0_8 l0_8.length c0_8)) (ds := []) #[false, false, false, false, false, false, false, false, false, false, false, false, false] (by kernel_rfl) rfl rfl ⟨(blk_cell BK103.out 0).trans rfl, (blk_cell BK103.out 1).trans rfl, (blk_cell BK103.out 2).trans rfl, (blk_cell BK103.out 3).trans rfl, (blk_cell BK103.out 4).trans rfl, (blk_cell BK103.out 5).trans rfl, (blk_cell BK103.out 6).trans rfl, (blk_cell BK103.out 7).trans rfl, (blk_cell BK103.out 8).trans rfl⟩ (fun hHeld => ?_); refine with_tabW record_Check.tab3 record_Check.bits3 (fun HT_ HW_ => ?_)
  generalize wc.drew = w22 at BK103 HB hHeld ⊢
  refine pure_ (i := 2) (N := some 35) (v := ?_) (a' := ?_) #[false, false, true, false, false, false, false, false, false, false, false, false, false] rfl rfl (any_of HT_.out (by kernel_rfl)) (fun _ _ _ h => h) (Or.inl ⟨by rfl, ?_⟩) ?_ ?_
  rotate_left
  ·intro w'
   go_simp
   with_reducible rfl
  rotate_left
  ·simp only [Act.put, List.setIfInBounds_toArray, List.set_cons_zero, List.set_cons_succ, i64_w, i32_w]
   rfl
  refine pure_ (i := 5) (N := some 38) (v := ?_) (a' := ?_) #[false, false, true, false, false, true, false, false, false, false, false, false, false] rfl rfl (any_of HT_.out (by kernel_rfl)) (fun _ _ _ h => h) (Or.inl ⟨by rfl, ?_⟩) ?_ ?_
  rotate_left
  ·intro w'
   go_simp
   with_reducible rfl
  rotate_left
  ·simp only [Act.put, List.setIfInBounds_toArray, List.set_cons_zero, List.set_cons_succ, i64_w, i32_w]
   rfl
  refine take_ (i := 0) (N := some 33) (v := ?_) (a' := ?_) #[true, false, true, false, false, true, false, false, false, false, false, false, false] rfl rfl (take_ofW HT_.out HW_.out (by kernel_rfl)) (fun _ _ _ h => h) (Or.inl ⟨by rfl, ?_⟩) hHeld ?_ ?_
  rotate_left
  ·rintro w' ⟨s0, s1, s2, s3, s4, s5, s6, s7, s8⟩
   go_simp
   with_reducible rfl
  rotate_left
  ·simp only [Act.put, List.setIfInBounds_toArray, List.set_cons_zero, List.set_cons_succ, i64_w, i32_w]
   rfl
  refine take_ (i := 3) (N := some 36) (v := ?_) (a' := ?_) #[true, false, true, true, false, true, false, false, false, false, false, false, false] rfl rfl (take_ofW HT_.out HW_.out (by kernel_rfl)) (fun _ _ _ h => h) (Or.inl ⟨by rfl, ?_⟩) hHeld ?_ ?_
  rotate_left
  ·rintro w' ⟨s0, s1, s2, s3, s4, s5, s6, s7, s8⟩
   go_simp
   with_reducible rfl
  rotate_left
  ·simp only [Act.put, List.setIfInBounds_toArray, List.set_cons_zero, List.set_cons_succ, i64_w, i32_w]
   rfl
  refine pure_ (i := 4) (N := some 37) (v := ?_) (a' := ?_) #[true, false, true, true, true, true, false, false, false, false, false, false, false] rfl rfl (any_of HT_.out (by kernel_rfl)) (fun _ _ _ h => h) (Or.inl ⟨by rfl, ?_⟩) ?_ ?_
  rotate_left
  ·intro w'
   go_simp
   with_reducible rfl
  rotate_left
  ·simp only [Act.put, List.setIfInBounds_toArray, List.set_cons_zero, List.set_cons_succ, i64_w, i32_w]
   rfl
  refine take_ (i := 6) (N := some 39) (v := ?_) (a' := ?_) #[true, false, true, true, true, true, true, false, false, false, false, false, false] rfl rfl (take_ofW HT_.out HW_.out (by kernel_rfl)) (fun _ _ _ h => h) (Or.inl ⟨by rfl, ?_⟩) hHeld ?_ ?_
  rotate_left
  ·rintro w' ⟨s0, s1, s2, s3, s4, s5, s6, s7, s8⟩
   go_simp
   with_reducible rfl
  rotate_left
  ·simp only [Act.put, List.setIfInBounds_toArray, List.set_cons_zero, List.set_cons_succ, i64_w, i32_w]
   rfl
  refine pure_ (i := 7) (N := some 40) (v := ?_) (a' := ?_) #[true, false, true, true, true, true, true, true, false, false, false, false, false] rfl rfl (any_of HT_.out (by kernel_rfl)) (fun _ _ _ h => h) (Or.inl ⟨by rfl, ?_⟩) ?_ ?_
  rotate_left
  ·intro w'
   go_simp
   with_reducible rfl
  rotate_left
  ·simp only [Act.put, List.setIfInBounds_toArray, List.set_cons_zero, List.set_cons_succ, i64_w, i32_w]
   rfl
  refine pure_ (i := 8) (N := some 41) (v := ?_) (a' := ?_) #[true, false, true, true, true, true, true, true, true, false, false, false, false] rfl rfl (any_of HT_.out (by kernel_rfl)) (fun _ _ _ h => h) (Or.inl ⟨by rfl, ?_⟩) ?_ ?_
  rotate_left
  ·intro w'
   go_simp
   with_reducible rfl
  rotate_left
  ·simp only [Act.put, List.setIfInBounds_toArray, List.set_cons_zero, List.set_cons_succ, i64_w, i32_w]
   rfl
  refine pure_ (i := 9) (N := some 42) (v := ?_) (a' := ?_) #[true, false, true, true, true, true, true, true, true, true, false, false, false] rfl rfl (any_of HT_.out (by kernel_rfl)) (fun _ _ _ h => h) (Or.inl ⟨by rfl, ?_⟩) ?_ ?_
  rotate_left
  ·intro w'
   go_simp
   with_reducible rfl
  rotate_left
  ·simp only [Act.put, List.setIfInBounds_toArray, List.set_cons_zero, List.set_cons_succ, i64_w, i32_w]
   rfl
  refine join_ (σ := Nat) 2 #[true, true, true, true, true, true, true, true, true, true, true, false, false] (fun s_ => [(34, .agg #[.int .i64 t104, .int .i64 t105, .int .i64 t106, .int .i64 t107, .string t108, .string t109, .bool t110]), (3, .pointer (some ⟨s_, 0, none⟩))]) (fun s_ w' => (w'.cell? ⟨gb103, 0, none⟩ = some (.int .i64 a0_0) ∧ w'.cell? ⟨gb103, 1, none⟩ = some (.int .i64 a0_1) ∧ w'.cell? ⟨gb103, 2, none⟩ = some (.int .i64 a0_2) ∧ w'.cell? ⟨gb103, 3, none⟩ = some (.int .i64 a0_3) ∧ w'.cell? ⟨gb103, 4, none⟩ = some (.string a0_4) ∧ w'.cell? ⟨gb103, 5, none⟩ = some (.string a0_5) ∧ w'.cell? ⟨gb103, 6, none⟩ = some (.bool a0_6) ∧ w'.cell? ⟨gb103, 7, none⟩ = some (.slice A0_7 l0_7.length c0_7) ∧ w'.cell? ⟨gb103, 8, none⟩ = some (.slice A0_8 l0_8.length c0_8)) ∧ (w'.heap[gb103]? = some (.cells #[.int .i64 a0_0, .int .i64 a0_1, .int .i64 a0_2, .int .i64 a0_3, .string a0_4, .string a0_5, .bool a0_6, .slice A0_7 l0_7.length c0_7, .slice A0_8 l0_8.length c0_8] 26 (0, 0))) ∧ (w'.heap[s_]? = some (.cells #[.int .i64 0, .int .i64 0, .int .i64 0, .int .i64 0, .string (⟨#[]⟩ : ByteArray), .string (⟨#[]⟩ : ByteArray), .bool false] 105 (0, 0))) ∧ (w.heap.size ≤ s_) ∧ (w.heap.size ≤ s_) ∧ (gb103 ≠ s_) ∧ (s_ ≠ gb103) ∧ (Below w.heap.size w w')) ?_ ?_
  rotate_left
  ·intro hCont
   refine two_ (i := 1) (j := 10) (Ni := some 34) (Nj := some 3) #[true, true, true, true, true, true, true, true, true, true, false, false, false] #[true, false, true, true, true, true, true, true, true, true, true, false, false] rfl rfl rfl rfl (two_of HT_.out (by kernel_rfl)) (by decide) (by decide) (fun K hK => ?_) (fun K hK => ?_)
   ·skip
    refine goes_ Tryz.func70 (by kernel_rfl) rfl #[.agg #[.int .i64 a0_0, .int .i64 a0_1, .int .i64 a0_2, .int .i64 a0_3, .string a0_4, .string a0_5, .bool a0_6, .slice A0_7 l0_7.length c0_7, .slice A0_8 l0_8.length c0_8]] (by rfl) rfl rfl (by (try simp only [List.map_toArray, List.map_cons, List.map_nil]); first | done | rfl | (simp only [List.length_drop, List.length_take]; rfl)) ?_
    with_reducible refine (record_bare.calls a0_0 a0_1 a0_2 a0_3 a0_4 a0_5 a0_6 _ _ l0_7 _ _ l0_8 t104 t105 t106 t107 t108 t109 t110 _ ?side1 ?side2 ?side3 ?side4 A16.out).mono ?_
    (case side1 => repeat (first | exact (Kd.C_below HR0_7.out HB.out) | (with_reducible refine Kd.C_alloc ?_ _) | (with_reducible refine Kd.C_drewN ?_ _) | (with_reducible refine Kd.C_drew ?_)))
    (case side2 => exact HC0_7.out)
    (case side3 => repeat (first | exact (Kd.C_below HR0_8.out HB.out) | (with_reducible refine Kd.C_alloc ?_ _) | (with_reducible refine Kd.C_drewN ?_ _) | (with_reducible refine Kd.C_drew ?_)))
    (case side4 => exact HC0_8.out)
    rintro e w23 ⟨rfl, hb⟩
    refine ⟨_, rfl, ?_⟩
    have n0_ := Aside0.mk (blk_below (g := gb103) (o := .cells #[.int .i64 a0_0, .int .i64 a0_1, .int .i64 a0_2, .int .i64 a0_3, .string a0_4, .string a0_5, .bool a0_6, .slice A0_7 l0_7.length c0_7, .slice A0_8 l0_8.length c0_8] 26 (0, 0)) (by (with_reducible repeat (first | refine blk_drewN ?_ _ | refine blk_drew ?_ | refine blk_alloc ?_ _)); exact BK103.out) hb)
    have n1_ := Aside0.mk (below_step (by repeat (first | (with_reducible first | exact HB.out | apply below_alloc | apply pw_below_drewN | apply below_drew1 | refine below_set ?_ GE103.out) | exact HB.out)) hb)
    clear BK103
    clear HB
    have BK103 := n0_
    have HB := n1_
    clear n0_ n1_
    (try clear hb)
    (try clear hb2)
    (try clear hk)
    (try clear hi)
    refine hK.out _ _ ⟨(blk_cell BK103.out 0).trans rfl, (blk_cell BK103.out 1).trans rfl, (blk_cell BK103.out 2).trans rfl, (blk_cell BK103.out 3).trans rfl, (blk_cell BK103.out 4).trans rfl, (blk_cell BK103.out 5).trans rfl, (blk_cell BK103.out 6).trans rfl, (blk_cell BK103.out 7).trans rfl, (blk_cell BK103.out 8).trans rfl⟩ (fun hHeld => ?_)
    clear hK K
    refine norm_ (a' := ?_) ?_ ?_
    rotate_left
    ·show Act.put _ (some 34) _ = _
     simp only [Act.put, List.setIfInBounds_toArray, List.set_cons_zero, List.set_cons_succ, i64_w, i32_w]
     rfl
    refine one_ (i := 10) (N := some 3) #[true, true, true, true, true, true, true, true, true, true, true, false, false] rfl rfl (one_of HT_.out (by kernel_rfl)) (by decide) (fun K hK => ?_)
    refine box_step ?hg (N := 3) ?hd (cs := #[.int .i64 0, .int .i64 0, .int .i64 0, .int .i64 0, .string (⟨#[]⟩ : ByteArray), .string (⟨#[]⟩ : ByteArray), .bool false]) (t := 105) ?hr ?_; (case hd => rfl); (case hg => rfl); (case hr => first | (go_simp; done) | (go_simp; rfl))
    intro gb111 hg w24 hbox hb
    have n0_ := Aside0.mk (blk_below (g := gb103) (o := .cells #[.int .i64 a0_0, .int .i64 a0_1, .int .i64 a0_2, .int .i64 a0_3, .string a0_4, .string a0_5, .bool a0_6, .slice A0_7 l0_7.length c0_7, .slice A0_8 l0_8.length c0_8] 26 (0, 0)) (by (with_reducible repeat (first | refine blk_drewN ?_ _ | refine blk_drew ?_ | refine blk_alloc ?_ _)); exact BK103.out) hb)
    have n1_ := Aside0.mk (below_step (by repeat (first | (with_reducible first | exact HB.out | apply below_alloc | apply pw_below_drewN | apply below_drew1 | refine below_set ?_ GE103.out) | exact HB.out)) hb)
    have n2_ := Aside0.mk (hbox)
    have n3_ := Aside0.mk ((by rw [hg]; exact (below_size (by repeat (first | (with_reducible first | exact HB.out | apply below_alloc | apply pw_below_drewN | apply below_drew1 | refine below_set ?_ GE103.out) | exact HB.out))) : w.heap.size ≤ gb111))
    have n4_ := Aside0.mk ((by rw [hg]; exact (below_size (by repeat (first | (with_reducible first | exact HB.out | apply below_alloc | apply pw_below_drewN | apply below_drew1 | refine below_set ?_ GE103.out) | exact HB.out))) : w.heap.size ≤ gb111))
    have n5_ := Aside0.mk ((by rw [hg]; exact Nat.ne_of_lt (blk_lt (g := gb103) (o := .cells #[.int .i64 a0_0, .int .i64 a0_1, .int .i64 a0_2, .int .i64 a0_3, .string a0_4, .string a0_5, .bool a0_6, .slice A0_7 l0_7.length c0_7, .slice A0_8 l0_8.length c0_8] 26 (0, 0)) (by (with_reducible repeat (first | refine blk_drewN ?_ _ | refine blk_drew ?_ | refine blk_alloc ?_ _)); exact BK103.out)) : gb103 ≠ gb111))
    have n6_ := Aside0.mk ((by rw [hg]; exact Nat.ne_of_gt (blk_lt (g := gb103) (o := .cells #[.int .i64 a0_0, .int .i64 a0_1, .int .i64 a0_2, .int .i64 a0_3, .string a0_4, .string a0_5, .bool a0_6, .slice A0_7 l0_7.length c0_7, .slice A0_8 l0_8.length c0_8] 26 (0, 0)) (by (with_reducible repeat (first | refine blk_drewN ?_ _ | refine blk_drew ?_ | refine blk_alloc ?_ _)); exact BK103.out)) : gb111 ≠ gb103))
    clear BK103
    clear HB
    have BK103 := n0_
    have HB := n1_
    have BK111 := n2_
    have GW111 := n3_
    have GE111 := n4_
    have NB103_111 := n5_
    have NB111_103 := n6_
    clear n0_ n1_ n2_ n3_ n4_ n5_ n6_
    clear hb hbox hg
    refine hK.out _ _ ⟨(blk_cell BK103.out 0).trans rfl, (blk_cell BK103.out 1).trans rfl, (blk_cell BK103.out 2).trans rfl, (blk_cell BK103.out 3).trans rfl, (blk_cell BK103.out 4).trans rfl, (blk_cell BK103.out 5).trans rfl, (blk_cell BK103.out 6).trans rfl, (blk_cell BK103.out 7).trans rfl, (blk_cell BK103.out 8).trans rfl⟩ (fun hHeld => ?_)
    clear hK K
    refine norm_ (a' := ?_) ?_ ?_
    rotate_left
    ·show Act.put _ (some 3) _ = _
     simp only [Act.put, List.setIfInBounds_toArray, List.set_cons_zero, List.set_cons_succ, i64_w, i32_w]
     rfl
    exact norm_ (by simp only [putAll, Act.put, List.setIfInBounds_toArray, List.set_cons_zero, List.set_cons_succ]) (hCont (gb111) _ ⟨hHeld, (by (with_reducible repeat (first | refine blk_drewN ?_ _ | refine blk_drew ?_ | refine blk_alloc ?_ _)); exact BK103.out), (by (with_reducible repeat (first | refine blk_drewN ?_ _ | refine blk_drew ?_ | refine blk_alloc ?_ _)); exact BK111.out), GW111.out, GE111.out, NB103_111.out, NB111_103.out, (by repeat (first | (with_reducible first | exact HB.out | apply below_alloc | apply pw_below_drewN | apply below_drew1 | refine below_set ?_ GE103.out | refine below_set ?_ GE111.out) | exact HB.out))⟩)
   ·skip
    refine box_step ?hg (N := 3) ?hd (cs := #[.int .i64 0, .int .i64 0, .int .i64 0, .int .i64 0, .string (⟨#[]⟩ : ByteArray), .string (⟨#[]⟩ : ByteArray), .bool false]) (t := 105) ?hr ?_; (case hd => rfl); (case hg => rfl); (case hr => first | (go_simp; done) | (go_simp; rfl))
    intro gb111 hg w23 hbox hb
    have n0_ := Aside0.mk (blk_below (g := gb103) (o := .cells #[.int .i64 a0_0, .int .i64 a0_1, .int .i64 a0_2, .int .i64 a0_3, .string a0_4, .string a0_5, .bool a0_6, .slice A0_7 l0_7.length c0_7, .slice A0_8 l0_8.length c0_8] 26 (0, 0)) (by (with_reducible repeat (first | refine blk_drewN ?_ _ | refine blk_drew ?_ | refine blk_alloc ?_ _)); exact BK103.out) hb)
    have n1_ := Aside0.mk (below_step (by repeat (first | (with_reducible first | exact HB.out | apply below_alloc | apply pw_below_drewN | apply below_drew1 | refine below_set ?_ GE103.out) | exact HB.out)) hb)
    have n2_ := Aside0.mk (hbox)
    have n3_ := Aside0.mk ((by rw [hg]; exact (below_size (by repeat (first | (with_reducible first | exact HB.out | apply below_alloc | apply pw_below_drewN | apply below_drew1 | refine below_set ?_ GE103.out) | exact HB.out))) : w.heap.size ≤ gb111))
    have n4_ := Aside0.mk ((by rw [hg]; exact (below_size (by repeat (first | (with_reducible first | exact HB.out | apply below_alloc | apply pw_below_drewN | apply below_drew1 | refine below_set ?_ GE103.out) | exact HB.out))) : w.heap.size ≤ gb111))
    have n5_ := Aside0.mk ((by rw [hg]; exact Nat.ne_of_lt (blk_lt (g := gb103) (o := .cells #[.int .i64 a0_0, .int .i64 a0_1, .int .i64 a0_2, .int .i64 a0_3, .string a0_4, .string a0_5, .bool a0_6, .slice A0_7 l0_7.length c0_7, .slice A0_8 l0_8.length c0_8] 26 (0, 0)) (by (with_reducible repeat (first | refine blk_drewN ?_ _ | refine blk_drew ?_ | refine blk_alloc ?_ _)); exact BK103.out)) : gb103 ≠ gb111))
    have n6_ := Aside0.mk ((by rw [hg]; exact Nat.ne_of_gt (blk_lt (g := gb103) (o := .cells #[.int .i64 a0_0, .int .i64 a0_1, .int .i64 a0_2, .int .i64 a0_3, .string a0_4, .string a0_5, .bool a0_6, .slice A0_7 l0_7.length c0_7, .slice A0_8 l0_8.length c0_8] 26 (0, 0)) (by (with_reducible repeat (first | refine blk_drewN ?_ _ | refine blk_drew ?_ | refine blk_alloc ?_ _)); exact BK103.out)) : gb111 ≠ gb103))
    clear BK103
    clear HB
    have BK103 := n0_
    have HB := n1_
    have BK111 := n2_
    have GW111 := n3_
    have GE111 := n4_
    have NB103_111 := n5_
    have NB111_103 := n6_
    clear n0_ n1_ n2_ n3_ n4_ n5_ n6_
    clear hb hbox hg
    refine hK.out _ _ ⟨(blk_cell BK103.out 0).trans rfl, (blk_cell BK103.out 1).trans rfl, (blk_cell BK103.out 2).trans rfl, (blk_cell BK103.out 3).trans rfl, (blk_cell BK103.out 4).trans rfl, (blk_cell BK103.out 5).trans rfl, (blk_cell BK103.out 6).trans rfl, (blk_cell BK103.out 7).trans rfl, (blk_cell BK103.out 8).trans rfl⟩ (fun hHeld => ?_)
    clear hK K
    refine norm_ (a' := ?_) ?_ ?_
    rotate_left
    ·show Act.put _ (some 3) _ = _
     simp only [Act.put, List.setIfInBounds_toArray, List.set_cons_zero, List.set_cons_succ, i64_w, i32_w]
     rfl
    refine one_ (i := 1) (N := some 34) #[true, true, true, true, true, true, true, true, true, true, true, false, false] rfl rfl (one_of HT_.out (by kernel_rfl)) (by decide) (fun K hK => ?_)
    refine goes_ Tryz.func70 (by kernel_rfl) rfl #[.agg #[.int .i64 a0_0, .int .i64 a0_1, .int .i64 a0_2, .int .i64 a0_3, .string a0_4, .string a0_5, .bool a0_6, .slice A0_7 l0_7.length c0_7, .slice A0_8 l0_8.length c0_8]] (by rfl) rfl rfl (by (try simp only [List.map_toArray, List.map_cons, List.map_nil]); first | done | rfl | (simp only [List.length_drop, List.length_take]; rfl)) ?_
    with_reducible refine (record_bare.calls a0_0 a0_1 a0_2 a0_3 a0_4 a0_5 a0_6 _ _ l0_7 _ _ l0_8 t104 t105 t106 t107 t108 t109 t110 _ ?side1 ?side2 ?side3 ?side4 A16.out).mono ?_
    (case side1 => repeat (first | exact (Kd.C_below HR0_7.out HB.out) | (with_reducible refine Kd.C_alloc ?_ _) | (with_reducible refine Kd.C_drewN ?_ _) | (with_reducible refine Kd.C_drew ?_)))
    (case side2 => exact HC0_7.out)
    (case side3 => repeat (first | exact (Kd.C_below HR0_8.out HB.out) | (with_reducible refine Kd.C_alloc ?_ _) | (with_reducible refine Kd.C_drewN ?_ _) | (with_reducible refine Kd.C_drew ?_)))
    (case side4 => exact HC0_8.out)
    rintro e w24 ⟨rfl, hb⟩
    refine ⟨_, rfl, ?_⟩
    have n0_ := Aside0.mk (blk_below (g := gb103) (o := .cells #[.int .i64 a0_0, .int .i64 a0_1, .int .i64 a0_2, .int .i64 a0_3, .string a0_4, .string a0_5, .bool a0_6, .slice A0_7 l0_7.length c0_7, .slice A0_8 l0_8.length c0_8] 26 (0, 0)) (by (with_reducible repeat (first | refine blk_drewN ?_ _ | refine blk_drew ?_ | refine blk_alloc ?_ _)); exact BK103.out) hb)
    have n1_ := Aside0.mk (blk_below (g := gb111) (o := .cells #[.int .i64 0, .int .i64 0, .int .i64 0, .int .i64 0, .string (⟨#[]⟩ : ByteArray), .string (⟨#[]⟩ : ByteArray), .bool false] 105 (0, 0)) (by (with_reducible repeat (first | refine blk_drewN ?_ _ | refine blk_drew ?_ | refine blk_alloc ?_ _)); exact BK111.out) hb)
    have n2_ := Aside0.mk (below_step (by repeat (first | (with_reducible first | exact HB.out | apply below_alloc | apply pw_below_drewN | apply below_drew1 | refine below_set ?_ GE103.out | refine below_set ?_ GE111.out) | exact HB.out)) hb)
    clear BK103
    clear BK111
    clear HB
    have BK103 := n0_
    have BK111 := n1_
    have HB := n2_
    clear n0_ n1_ n2_
    (try clear hb)
    (try clear hb2)
    (try clear hk)
    (try clear hi)
    refine hK.out _ _ ⟨(blk_cell BK103.out 0).trans rfl, (blk_cell BK103.out 1).trans rfl, (blk_cell BK103.out 2).trans rfl, (blk_cell BK103.out 3).trans rfl, (blk_cell BK103.out 4).trans rfl, (blk_cell BK103.out 5).trans rfl, (blk_cell BK103.out 6).trans rfl, (blk_cell BK103.out 7).trans rfl, (blk_cell BK103.out 8).trans rfl⟩ (fun hHeld => ?_)
    clear hK K
    refine norm_ (a' := ?_) ?_ ?_
    rotate_left
    ·show Act.put _ (some 34) _ = _
     simp only [Act.put, List.setIfInBounds_toArray, List.set_cons_zero, List.set_cons_succ, i64_w, i32_w]
     rfl
    exact norm_ (by simp only [putAll, Act.put, List.setIfInBounds_toArray, List.set_cons_zero, List.set_cons_succ]) (hCont (gb111) _ ⟨hHeld, (by (with_reducible repeat (first | refine blk_drewN ?_ _ | refine blk_drew ?_ | refine blk_alloc ?_ _)); exact BK103.out), (by (with_reducible repeat (first | refine blk_drewN ?_ _ | refine blk_drew ?_ | refine blk_alloc ?_ _)); exact BK111.out), GW111.out, GE111.out, NB103_111.out, NB111_103.out, (by repeat (first | (with_reducible first | exact HB.out | apply below_alloc | apply pw_below_drewN | apply below_drew1 | refine below_set ?_ GE103.out | refine below_set ?_ GE111.out) | exact HB.out))⟩)
  rintro gb111 w25 ⟨hS_, h0_, h1_, h2_, h3_, h4_, h5_, h6_⟩
  have n0_ : Aside0 (w25.heap[gb103]? = some (.cells #[.int .i64 a0_0, .int .i64 a0_1, .int .i64 a0_2, .int .i64 a0_3, .string a0_4, .string a0_5, .bool a0_6, .slice A0_7 l0_7.length c0_7, .slice A0_8 l0_8.length c0_8] 26 (0, 0))) := ⟨h0_⟩
  have n1_ : Aside0 (w25.heap[gb111]? = some (.cells #[.int .i64 0, .int .i64 0, .int .i64 0, .int .i64 0, .string (⟨#[]⟩ : ByteArray), .string (⟨#[]⟩ : ByteArray), .bool false] 105 (0, 0))) := ⟨h1_⟩
  have n2_ : Aside0 (w.heap.size ≤ gb111) := ⟨h2_⟩
  have n3_ : Aside0 (w.heap.size ≤ gb111) := ⟨h3_⟩
  have n4_ : Aside0 (gb103 ≠ gb111) := ⟨h4_⟩
  have n5_ : Aside0 (gb111 ≠ gb103) := ⟨h5_⟩
  have n6_ : Aside0 (Below w.heap.size w w25) := ⟨h6_⟩
  clear BK103
  clear HB
  clear h0_ h1_ h2_ h3_ h4_ h5_ h6_
  have BK103 := n0_
  have BK111 := n1_
  have GW111 := n2_
  have GE111 := n3_
  have NB103_111 := n4_
  have NB111_103 := n5_
  have HB := n6_
  clear n0_ n1_ n2_ n3_ n4_ n5_ n6_
  have hHeld : w25.cell? ⟨gb103, 0, none⟩ = some (.int .i64 a0_0) ∧ w25.cell? ⟨gb103, 1, none⟩ = some (.int .i64 a0_1) ∧ w25.cell? ⟨gb103, 2, none⟩ = some (.int .i64 a0_2) ∧ w25.cell? ⟨gb103, 3, none⟩ = some (.int .i64 a0_3) ∧ w25.cell? ⟨gb103, 4, none⟩ = some (.string a0_4) ∧ w25.cell? ⟨gb103, 5, none⟩ = some (.string a0_5) ∧ w25.cell? ⟨gb103, 6, none⟩ = some (.bool a0_6) ∧ w25.cell? ⟨gb103, 7, none⟩ = some (.slice A0_7 l0_7.length c0_7) ∧ w25.cell? ⟨gb103, 8, none⟩ = some (.slice A0_8 l0_8.length c0_8) := hS_
  refine norm_ (a' := ?_) ?_ ?_
  rotate_left
  ·simp only [putAll, Act.put, List.setIfInBounds_toArray, List.set_cons_zero, List.set_cons_succ]
   rfl
  refine one_ (i := 11) (N := none) #[true, true, true, true, true, true, true, true, true, true, true, true, false] rfl rfl (one_of HT_.out (by kernel_rfl)) (by decide) (fun K hK => ?_)
  have hs26 : w25.cell? ⟨gb111, 0, none⟩ = some (.int .i64 0) := (blk_cell BK111.out 0).trans rfl
  have hfs26 := blk_frozen BK111.out 0
  have hns26_0 := NB103_111.out
  have hms26_0 := NB111_103.out
  have hs27 : w25.cell? ⟨gb111, 1, none⟩ = some (.int .i64 0) := (blk_cell BK111.out 1).trans rfl
  have hfs27 := blk_frozen BK111.out 1
  have hns27_0 := NB103_111.out
  have hms27_0 := NB111_103.out
  have hs28 : w25.cell? ⟨gb111, 2, none⟩ = some (.int .i64 0) := (blk_cell BK111.out 2).trans rfl
  have hfs28 := blk_frozen BK111.out 2
  have hns28_0 := NB103_111.out
  have hms28_0 := NB111_103.out
  have hs29 : w25.cell? ⟨gb111, 3, none⟩ = some (.int .i64 0) := (blk_cell BK111.out 3).trans rfl
  have hfs29 := blk_frozen BK111.out 3
  have hns29_0 := NB103_111.out
  have hms29_0 := NB111_103.out
  have hs30 : w25.cell? ⟨gb111, 4, none⟩ = some (.string (⟨#[]⟩ : ByteArray)) := (blk_cell BK111.out 4).trans rfl
  have hfs30 := blk_frozen BK111.out 4
  have hns30_0 := NB103_111.out
  have hms30_0 := NB111_103.out
  have hs31 : w25.cell? ⟨gb111, 5, none⟩ = some (.string (⟨#[]⟩ : ByteArray)) := (blk_cell BK111.out 5).trans rfl
  have hfs31 := blk_frozen BK111.out 5
  have hns31_0 := NB103_111.out
  have hms31_0 := NB111_103.out
  have hs32 : w25.cell? ⟨gb111, 6, none⟩ = some (.bool false) := (blk_cell BK111.out 6).trans rfl
  have hfs32 := blk_frozen BK111.out 6
  have hns32_0 := NB103_111.out
  have hms32_0 := NB111_103.out
  refine skip_ (w1 := ?_) (by rfl) rfl ?_ ?_
  rotate_left
  ·go_simp
   rfl
  refine hK.out _ _ ⟨((cell_far (p := ⟨gb111, _, none⟩) NB103_111.out _).trans (((cell_far (p := ⟨gb111, _, none⟩) NB103_111.out _).trans (((cell_far (p := ⟨gb111, _, none⟩) NB103_111.out _).trans (((cell_far (p := ⟨gb111, _, none⟩) NB103_111.out _).trans (((cell_far (p := ⟨gb111, _, none⟩) NB103_111.out _).trans (((cell_far (p := ⟨gb111, _, none⟩) NB103_111.out _).trans (((cell_far (p := ⟨gb111, _, none⟩) NB103_111.out _).trans (hHeld.1)))))))))))))), ((cell_far (p := ⟨gb111, _, none⟩) NB103_111.out _).trans (((cell_far (p := ⟨gb111, _, none⟩) NB103_111.out _).trans (((cell_far (p := ⟨gb111, _, none⟩) NB103_111.out _).trans (((cell_far (p := ⟨gb111, _, none⟩) NB103_111.out _).trans (((cell_far (p := ⟨gb111, _, none⟩) NB103_111.out _).trans (((cell_far (p := ⟨gb111, _, none⟩) NB103_111.out _).trans (((cell_far (p := ⟨gb111, _, none⟩) NB103_111.out _).trans (hHeld.2.1)))))))))))))), ((cell_far (p := ⟨gb111, _, none⟩) NB103_111.out _).trans (((cell_far (p := ⟨gb111, _, none⟩) NB103_111.out _).trans (((cell_far (p := ⟨gb111, _, none⟩) NB103_111.out _).trans (((cell_far (p := ⟨gb111, _, none⟩) NB103_111.out _).trans (((cell_far (p := ⟨gb111, _, none⟩) NB103_111.out _).trans (((cell_far (p := ⟨gb111, _, none⟩) NB103_111.out _).trans (((cell_far (p := ⟨gb111, _, none⟩) NB103_111.out _).trans (hHeld.2.2.1)))))))))))))), ((cell_far (p := ⟨gb111, _, none⟩) NB103_111.out _).trans (((cell_far (p := ⟨gb111, _, none⟩) NB103_111.out _).trans (((cell_far (p := ⟨gb111, _, none⟩) NB103_111.out _).trans (((cell_far (p := ⟨gb111, _, none⟩) NB103_111.out _).trans (((cell_far (p := ⟨gb111, _, none⟩) NB103_111.out _).trans (((cell_far (p := ⟨gb111, _, none⟩) NB103_111.out _).trans (((cell_far (p := ⟨gb111, _, none⟩) NB103_111.out _).trans (hHeld.2.2.2.1)))))))))))))), ((cell_far (p := ⟨gb111, _, none⟩) NB103_111.out _).trans (((cell_far (p := ⟨gb111, _, none⟩) NB103_111.out _).trans (((cell_far (p := ⟨gb111, _, none⟩) NB103_111.out _).trans (((cell_far (p := ⟨gb111, _, none⟩) NB103_111.out _).trans (((cell_far (p := ⟨gb111, _, none⟩) NB103_111.out _).trans (((cell_far (p := ⟨gb111, _, none⟩) NB103_111.out _).trans (((cell_far (p := ⟨gb111, _, none⟩) NB103_111.out _).trans (hHeld.2.2.2.2.1)))))))))))))), ((cell_far (p := ⟨gb111, _, none⟩) NB103_111.out _).trans (((cell_far (p := ⟨gb111, _, none⟩) NB103_111.out _).trans (((cell_far (p := ⟨gb111, _, none⟩) NB103_111.out _).trans (((cell_far (p := ⟨gb111, _, none⟩) NB103_111.out _).trans (((cell_far (p := ⟨gb111, _, none⟩) NB103_111.out _).trans (((cell_far (p := ⟨gb111, _, none⟩) NB103_111.out _).trans (((cell_far (p := ⟨gb111, _, none⟩) NB103_111.out _).trans (hHeld.2.2.2.2.2.1)))))))))))))), ((cell_far (p := ⟨gb111, _, none⟩) NB103_111.out _).trans (((cell_far (p := ⟨gb111, _, none⟩) NB103_111.out _).trans (((cell_far (p := ⟨gb111, _, none⟩) NB103_111.out _).trans (((cell_far (p := ⟨gb111, _, none⟩) NB103_111.out _).trans (((cell_far (p := ⟨gb111, _, none⟩) NB103_111.out _).trans (((cell_far (p := ⟨gb111, _, none⟩) NB103_111.out _).trans (((cell_far (p := ⟨gb111, _, none⟩) NB103_111.out _).trans (hHeld.2.2.2.2.2.2.1)))))))))))))), ((cell_far (p := ⟨gb111, _, none⟩) NB103_111.out _).trans (((cell_far (p := ⟨gb111, _, none⟩) NB103_111.out _).trans (((cell_far (p := ⟨gb111, _, none⟩) NB103_111.out _).trans (((cell_far (p := ⟨gb111, _, none⟩) NB103_111.out _).trans (((cell_far (p := ⟨gb111, _, none⟩) NB103_111.out _).trans (((cell_far (p := ⟨gb111, _, none⟩) NB103_111.out _).trans (((cell_far (p := ⟨gb111, _, none⟩) NB103_111.out _).trans (hHeld.2.2.2.2.2.2.2.1)))))))))))))), ((cell_far (p := ⟨gb111, _, none⟩) NB103_111.out _).trans (((cell_far (p := ⟨gb111, _, none⟩) NB103_111.out _).trans (((cell_far (p := ⟨gb111, _, none⟩) NB103_111.out _).trans (((cell_far (p := ⟨gb111, _, none⟩) NB103_111.out _).trans (((cell_far (p := ⟨gb111, _, none⟩) NB103_111.out _).trans (((cell_far (p := ⟨gb111, _, none⟩) NB103_111.out _).trans (((cell_far (p := ⟨gb111, _, none⟩) NB103_111.out _).trans (hHeld.2.2.2.2.2.2.2.2))))))))))))))⟩ (fun hHeld => ?_)
  clear hK K
  refine pure_ (i := 12) (N := some 4) (v := ?_) (a' := ?_) #[true, true, true, true, true, true, true, true, true, true, true, true, true] rfl rfl (any_of HT_.out (by kernel_rfl)) (fun _ _ _ h => h) (Or.inl ⟨by rfl, ?_⟩) ?_ ?_
  rotate_left
  ·intro w'
   go_simp
   with_reducible rfl
  rotate_left
  ·simp only [Act.put, List.setIfInBounds_toArray, List.set_cons_zero, List.set_cons_succ, i64_w, i32_w]
   rfl
  refine done_ (done_of HT_.out (by kernel_rfl)) ?_
  have hnb33 := NB103_111.out
  have hnc33 := NB111_103.out
  have n0_ : Aside0 ((((((((w25.setCell ⟨gb111, 0, none⟩ (.int .i64 t104)).setCell ⟨gb111, 1, none⟩ (.int .i64 t105)).setCell ⟨gb111, 2, none⟩ (.int .i64 t106)).setCell ⟨gb111, 3, none⟩ (.int .i64 t107)).setCell ⟨gb111, 4, none⟩ (.string t108)).setCell ⟨gb111, 5, none⟩ (.string t109)).setCell ⟨gb111, 6, none⟩ (.bool t110)).heap[gb103]? = some (.cells #[.int .i64 a0_0, .int .i64 a0_1, .int .i64 a0_2, .int .i64 a0_3, .string a0_4, .string a0_5, .bool a0_6, .slice A0_7 l0_7.length c0_7, .slice A0_8 l0_8.length c0_8] 26 (0, 0))) := ⟨by (with_reducible repeat (first | refine blk_drewN ?_ _ | refine blk_drew ?_ | refine blk_alloc ?_ _)); refine blk_far ?_ NB103_111.out _; (with_reducible repeat (first | refine blk_drewN ?_ _ | refine blk_drew ?_ | refine blk_alloc ?_ _)); refine blk_far ?_ NB103_111.out _; (with_reducible repeat (first | refine blk_drewN ?_ _ | refine blk_drew ?_ | refine blk_alloc ?_ _)); refine blk_far ?_ NB103_111.out _; (with_reducible repeat (first | refine blk_drewN ?_ _ | refine blk_drew ?_ | refine blk_alloc ?_ _)); refine blk_far ?_ NB103_111.out _; (with_reducible repeat (first | refine blk_drewN ?_ _ | refine blk_drew ?_ | refine blk_alloc ?_ _)); refine blk_far ?_ NB103_111.out _; (with_reducible repeat (first | refine blk_drewN ?_ _ | refine blk_drew ?_ | refine blk_alloc ?_ _)); refine blk_far ?_ NB103_111.out _; (with_reducible repeat (first | refine blk_drewN ?_ _ | refine blk_drew ?_ | refine blk_alloc ?_ _)); refine blk_far ?_ NB103_111.out _; (with_reducible repeat (first | refine blk_drewN ?_ _ | refine blk_drew ?_ | refine blk_alloc ?_ _)); exact BK103.out⟩
  have n1_ : Aside0 ((((((((w25.setCell ⟨gb111, 0, none⟩ (.int .i64 t104)).setCell ⟨gb111, 1, none⟩ (.int .i64 t105)).setCell ⟨gb111, 2, none⟩ (.int .i64 t106)).setCell ⟨gb111, 3, none⟩ (.int .i64 t107)).setCell ⟨gb111, 4, none⟩ (.string t108)).setCell ⟨gb111, 5, none⟩ (.string t109)).setCell ⟨gb111, 6, none⟩ (.bool t110)).heap[gb111]? = some (.cells #[.int .i64 t104, .int .i64 t105, .int .i64 t106, .int .i64 t107, .string t108, .string t109, .bool t110] 105 (0, 0))) := ⟨by (with_reducible repeat (first | refine blk_drewN ?_ _ | refine blk_drew ?_ | refine blk_alloc ?_ _)); refine blk_put (cs := #[.int .i64 t104, .int .i64 t105, .int .i64 t106, .int .i64 t107, .string t108, .string t109, .bool false]) ?_ 6 _ rfl; (with_reducible repeat (first | refine blk_drewN ?_ _ | refine blk_drew ?_ | refine blk_alloc ?_ _)); refine blk_put (cs := #[.int .i64 t104, .int .i64 t105, .int .i64 t106, .int .i64 t107, .string t108, .string (⟨#[]⟩ : ByteArray), .bool false]) ?_ 5 _ rfl; (with_reducible repeat (first | refine blk_drewN ?_ _ | refine blk_drew ?_ | refine blk_alloc ?_ _)); refine blk_put (cs := #[.int .i64 t104, .int .i64 t105, .int .i64 t106, .int .i64 t107, .string (⟨#[]⟩ : ByteArray), .string (⟨#[]⟩ : ByteArray), .bool false]) ?_ 4 _ rfl; (with_reducible repeat (first | refine blk_drewN ?_ _ | refine blk_drew ?_ | refine blk_alloc ?_ _)); refine blk_put (cs := #[.int .i64 t104, .int .i64 t105, .int .i64 t106, .int .i64 0, .string (⟨#[]⟩ : ByteArray), .string (⟨#[]⟩ : ByteArray), .bool false]) ?_ 3 _ rfl; (with_reducible repeat (first | refine blk_drewN ?_ _ | refine blk_drew ?_ | refine blk_alloc ?_ _)); refine blk_put (cs := #[.int .i64 t104, .int .i64 t105, .int .i64 0, .int .i64 0, .string (⟨#[]⟩ : ByteArray), .string (⟨#[]⟩ : ByteArray), .bool false]) ?_ 2 _ rfl; (with_reducible repeat (first | refine blk_drewN ?_ _ | refine blk_drew ?_ | refine blk_alloc ?_ _)); refine blk_put (cs := #[.int .i64 t104, .int .i64 0, .int .i64 0, .int .i64 0, .string (⟨#[]⟩ : ByteArray), .string (⟨#[]⟩ : ByteArray), .bool false]) ?_ 1 _ rfl; (with_reducible repeat (first | refine blk_drewN ?_ _ | refine blk_drew ?_ | refine blk_alloc ?_ _)); refine blk_put (cs := #[.int .i64 0, .int .i64 0, .int .i64 0, .int .i64 0, .string (⟨#[]⟩ : ByteArray), .string (⟨#[]⟩ : ByteArray), .bool false]) ?_ 0 _ rfl; (with_reducible repeat (first | refine blk_drewN ?_ _ | refine blk_drew ?_ | refine blk_alloc ?_ _)); exact BK111.out⟩
  have n2_ : Aside0 (Below w.heap.size w (((((((w25.setCell ⟨gb111, 0, none⟩ (.int .i64 t104)).setCell ⟨gb111, 1, none⟩ (.int .i64 t105)).setCell ⟨gb111, 2, none⟩ (.int .i64 t106)).setCell ⟨gb111, 3, none⟩ (.int .i64 t107)).setCell ⟨gb111, 4, none⟩ (.string t108)).setCell ⟨gb111, 5, none⟩ (.string t109)).setCell ⟨gb111, 6, none⟩ (.bool t110))) := ⟨by repeat (first | (with_reducible first | exact HB.out | apply below_alloc | apply pw_below_drewN | apply below_drew1 | refine below_set ?_ GE103.out | refine below_set ?_ GE111.out) | exact HB.out)⟩
  (try clear BK103)
  (try clear BK111)
  (try clear HB)
  generalize (((((((w25.setCell ⟨gb111, 0, none⟩ (.int .i64 t104)).setCell ⟨gb111, 1, none⟩ (.int .i64 t105)).setCell ⟨gb111, 2, none⟩ (.int .i64 t106)).setCell ⟨gb111, 3, none⟩ (.int .i64 t107)).setCell ⟨gb111, 4, none⟩ (.string t108)).setCell ⟨gb111, 5, none⟩ (.string t109)).setCell ⟨gb111, 6, none⟩ (.bool t110)) = w35 at n0_ n1_ n2_ ⊢
  have BK103 := n0_
  have BK111 := n1_
  have HB := n2_
  clear n0_ n1_ n2_
  try clear hs26
  try clear hfs26
  try clear hns26_0
  try clear hms26_0
  try clear hs27
  try clear hfs27
  try clear hns27_0
  try clear hms27_0
  try clear hs28
  try clear hfs28
  try clear hns28_0
  try clear hms28_0
  try clear hs29
  try clear hfs29
  try clear hns29_0
  try clear hms29_0
  try clear hs30
  try clear hfs30
  try clear hns30_0
  try clear hms30_0
  try clear hs31
  try clear hfs31
  try clear hns31_0
  try clear hms31_0
  try clear hs32
  try clear hfs32
  try clear hns32_0
  try clear hms32_0
  try clear hnb33
  try clear hnc33
  try clear hHeld
  try clear hS_
  try clear HT_
  try clear HW_
  have hczz_0 : w35.cell? ⟨gb103, 0, none⟩ = some (.int .i64 a0_0) := (blk_cell BK103.out 0).trans rfl
  have hczz_1 : w35.cell? ⟨gb103, 1, none⟩ = some (.int .i64 a0_1) := (blk_cell BK103.out 1).trans rfl
  have hczz_2 : w35.cell? ⟨gb103, 2, none⟩ = some (.int .i64 a0_2) := (blk_cell BK103.out 2).trans rfl
  have hczz_3 : w35.cell? ⟨gb103, 3, none⟩ = some (.int .i64 a0_3) := (blk_cell BK103.out 3).trans rfl
  have hczz_4 : w35.cell? ⟨gb103, 4, none⟩ = some (.string a0_4) := (blk_cell BK103.out 4).trans rfl
  have hczz_5 : w35.cell? ⟨gb103, 5, none⟩ = some (.string a0_5) := (blk_cell BK103.out 5).trans rfl
  have hczz_6 : w35.cell? ⟨gb103, 6, none⟩ = some (.bool a0_6) := (blk_cell BK103.out 6).trans rfl
  have hczz_7 : w35.cell? ⟨gb103, 7, none⟩ = some (.slice A0_7 l0_7.length c0_7) := (blk_cell BK103.out 7).trans rfl
  have hczz_8 : w35.cell? ⟨gb103, 8, none⟩ = some (.slice A0_8 l0_8.length c0_8) := (blk_cell BK103.out 8).trans rfl
  have hfzz_0 := blk_frozen BK103.out 0
  have hfzz_1 := blk_frozen BK103.out 1
  have hfzz_2 := blk_frozen BK103.out 2
  have hfzz_3 := blk_frozen BK103.out 3
  have hfzz_4 := blk_frozen BK103.out 4
  have hfzz_5 := blk_frozen BK103.out 5
  have hfzz_6 := blk_frozen BK103.out 6
  have hfzz_7 := blk_frozen BK103.out 7
  have hfzz_8 := blk_frozen BK103.out 8
  have hczf_0 : w35.cell? ⟨gb111, 0, none⟩ = some (.int .i64 t104) := (blk_cell BK111.out 0).trans rfl
  have hczf_1 : w35.cell? ⟨gb111, 1, none⟩ = some (.int .i64 t105) := (blk_cell BK111.out 1).trans rfl
  have hczf_2 : w35.cell? ⟨gb111, 2, none⟩ = some (.int .i64 t106) := (blk_cell BK111.out 2).trans rfl
  have hczf_3 : w35.cell? ⟨gb111, 3, none⟩ = some (.int .i64 t107) := (blk_cell BK111.out 3).trans rfl
  have hczf_4 : w35.cell? ⟨gb111, 4, none⟩ = some (.string t108) := (blk_cell BK111.out 4).trans rfl
  have hczf_5 : w35.cell? ⟨gb111, 5, none⟩ = some (.string t109) := (blk_cell BK111.out 5).trans rfl
  have hczf_6 : w35.cell? ⟨gb111, 6, none⟩ = some (.bool t110) := (blk_cell BK111.out 6).trans rfl
  have hfzf_0 := blk_frozen BK111.out 0
  have hfzf_1 := blk_frozen BK111.out 1
  have hfzf_2 := blk_frozen BK111.out 2
  have hfzf_3 := blk_frozen BK111.out 3
  have hfzf_4 := blk_frozen BK111.out 4
  have hfzf_5 := blk_frozen BK111.out 5
  have hfzf_6 := blk_frozen BK111.out 6
  have hNE1 := NB103_111.out
  have hNE2 := NB111_103.out
  have hnn := none_eq l0_7 l0_8 HSM.out.1 HSM.out.2
  rw [hnn]
  clear hnn
  by_cases k1 : a0_0 = 1
  · have HKD := Aside0.mk k1
    have k1b : (a0_0 == 1) = true := beq_iff_eq.mpr k1
    have k1c : (a0_0 != 1) = false := bne_eq_false_iff_eq.mpr k1
    clear k1
    obtain ⟨kj1, A180⟩ : ∃ kj1, record_listed.f kj1 a0_0 a0_1 a0_2 a0_3 a0_4 a0_5 a0_6 l0_7 l0_8 = some (listedB l0_7 l0_8) := ⟨_, listed_f _ _ _ _ _ _ _ _ _ (by have := HSM.out.1; omega) HSM.out.2 _ (Nat.lt_succ_self _)⟩
    cases hl : listedB l0_7 l0_8 with
    | false =>
      rw [hl] at A180
      have A18 := Aside0.mk A180
      clear A180
      have HV : Aside0 (r = 80) := ⟨by rw [HRV2.out, ok1 HKD.out, hl]; rfl⟩
      go_wp2
      have n0_ := Aside0.mk (blk_drew BK103.out)
      have n1_ := Aside0.mk (blk_drew BK111.out)
      have n2_ := Aside0.mk (below_drew1 HB.out)
      clear BK103
      clear BK111
      clear HB
      have BK103 := n0_
      have BK111 := n1_
      have HB := n2_
      clear n0_ n1_ n2_
      refine start_ (n := 12) (S := fun w' => w'.cell? ⟨gb103, 0, none⟩ = some (.int .i64 a0_0) ∧ w'.cell? ⟨gb103, 1, none⟩ = some (.int .i64 a0_1) ∧ w'.cell? ⟨gb103, 2, none⟩ = some (.int .i64 a0_2) ∧ w'.cell? ⟨gb103, 3, none⟩ = some (.int .i64 a0_3) ∧ w'.cell? ⟨gb103, 4, none⟩ = some (.string a0_4) ∧ w'.cell? ⟨gb103, 5, none⟩ = some (.string a0_5) ∧ w'.cell? ⟨gb103, 6, none⟩ = some (.bool a0_6) ∧ w'.cell? ⟨gb103, 7, none⟩ = some (.slice A0_7 l0_7.length c0_7) ∧ w'.cell? ⟨gb103, 8, none⟩ = some (.slice A0_8 l0_8.length c0_8)) (ds := []) #[false, false, false, false, false, false, false, false, false, false, false, false] (by kernel_rfl) rfl rfl ⟨(blk_cell BK103.out 0).trans rfl, (blk_cell BK103.out 1).trans rfl, (blk_cell BK103.out 2).trans rfl, (blk_cell BK103.out 3).trans rfl, (blk_cell BK103.out 4).trans rfl, (blk_cell BK103.out 5).trans rfl, (blk_cell BK103.out 6).trans rfl, (blk_cell BK103.out 7).trans rfl, (blk_cell BK103.out 8).trans rfl⟩ (fun hHeld => ?_); refine with_tabW record_Check.tab7 record_Check.bits7 (fun HT_ HW_ => ?_)
      generalize w35.drew = w91 at BK103 BK111 HB hHeld ⊢
      refine pure_ (i := 0) (N := some 47) (v := ?_) (a' := ?_) #[true, false, false, false, false, false, false, false, false, false, false, false] rfl rfl (any_of HT_.out (by kernel_rfl)) (fun _ _ _ h => h) (Or.inl ⟨by rfl, ?_⟩) ?_ ?_
      rotate_left
      ·intro w'
       go_simp
       with_reducible rfl
      rotate_left
      ·simp only [Act.put, List.setIfInBounds_toArray, List.set_cons_zero, List.set_cons_succ, i64_w, i32_w]
       rfl
      refine take_ (i := 1) (N := some 48) (v := ?_) (a' := ?_) #[true, true, false, false, false, false, false, false, false, false, false, false] rfl rfl (take_ofW HT_.out HW_.out (by kernel_rfl)) (fun _ _ _ h => h) (Or.inl ⟨by rfl, ?_⟩) hHeld ?_ ?_
      rotate_left
      ·rintro w' ⟨s0, s1, s2, s3, s4, s5, s6, s7, s8⟩
       go_simp
       with_reducible rfl
      rotate_left
      ·simp only [Act.put, List.setIfInBounds_toArray, List.set_cons_zero, List.set_cons_succ, i64_w, i32_w]
       rfl
      refine pure_ (i := 9) (N := some 56) (v := ?_) (a' := ?_) #[true, true, false, false, false, false, false, false, false, true, false, false] rfl rfl (any_of HT_.out (by kernel_rfl)) (fun _ _ _ h => h) (Or.inl ⟨by rfl, ?_⟩) ?_ ?_
      rotate_left
      ·intro w'
       go_simp
       with_reducible rfl
      rotate_left
      ·simp only [Act.put, List.setIfInBounds_toArray, List.set_cons_zero, List.set_cons_succ, i64_w, i32_w]
       rfl
      refine take_ (i := 2) (N := some 49) (v := ?_) (a' := ?_) #[true, true, true, false, false, false, false, false, false, true, false, false] rfl rfl (take_ofW HT_.out HW_.out (by kernel_rfl)) (fun _ _ _ h => h) (Or.inl ⟨by rfl, ?_⟩) hHeld ?_ ?_
      rotate_left
      ·rintro w' ⟨s0, s1, s2, s3, s4, s5, s6, s7, s8⟩
       go_simp
       with_reducible rfl
      rotate_left
      ·simp only [Act.put, List.setIfInBounds_toArray, List.set_cons_zero, List.set_cons_succ, i64_w, i32_w]
       rfl
      refine one_ (i := 3) (N := some 50) #[true, true, true, true, false, false, false, false, false, true, false, false] rfl rfl (one_of HT_.out (by kernel_rfl)) (by decide) (fun K hK => ?_)
      refine goes_ Tryz.func71 (by kernel_rfl) rfl #[.agg #[.int .i64 a0_0, .int .i64 a0_1, .int .i64 a0_2, .int .i64 a0_3, .string a0_4, .string a0_5, .bool a0_6, .slice A0_7 l0_7.length c0_7, .slice A0_8 l0_8.length c0_8]] (by rfl) rfl rfl (by (try simp only [List.map_toArray, List.map_cons, List.map_nil]); first | done | rfl | (simp only [List.length_drop, List.length_take]; rfl)) ?_
      with_reducible refine (record_listed.calls kj1 a0_0 a0_1 a0_2 a0_3 a0_4 a0_5 a0_6 _ _ l0_7 _ _ l0_8 false _ ?side1 ?side2 ?side3 ?side4 A18.out).mono ?_
      (case side1 => repeat (first | exact (Kd.C_below HR0_7.out HB.out) | (with_reducible refine Kd.C_alloc ?_ _) | (with_reducible refine Kd.C_drewN ?_ _) | (with_reducible refine Kd.C_drew ?_)))
      (case side2 => exact HC0_7.out)
      (case side3 => repeat (first | exact (Kd.C_below HR0_8.out HB.out) | (with_reducible refine Kd.C_alloc ?_ _) | (with_reducible refine Kd.C_drewN ?_ _) | (with_reducible refine Kd.C_drew ?_)))
      (case side4 => exact HC0_8.out)
      rintro e w92 ⟨rfl, hb⟩
      refine ⟨_, rfl, ?_⟩
      have n0_ := Aside0.mk (blk_below (g := gb103) (o := .cells #[.int .i64 a0_0, .int .i64 a0_1, .int .i64 a0_2, .int .i64 a0_3, .string a0_4, .string a0_5, .bool a0_6, .slice A0_7 l0_7.length c0_7, .slice A0_8 l0_8.length c0_8] 26 (0, 0)) (by (with_reducible repeat (first | refine blk_drewN ?_ _ | refine blk_drew ?_ | refine blk_alloc ?_ _)); exact BK103.out) hb)
      have n1_ := Aside0.mk (blk_below (g := gb111) (o := .cells #[.int .i64 t104, .int .i64 t105, .int .i64 t106, .int .i64 t107, .string t108, .string t109, .bool t110] 105 (0, 0)) (by (with_reducible repeat (first | refine blk_drewN ?_ _ | refine blk_drew ?_ | refine blk_alloc ?_ _)); exact BK111.out) hb)
      have n2_ := Aside0.mk (below_step (by repeat (first | (with_reducible first | exact HB.out | apply below_alloc | apply pw_below_drewN | apply below_drew1 | refine below_set ?_ GE103.out | refine below_set ?_ GE111.out) | exact HB.out)) hb)
      clear BK103
      clear BK111
      clear HB
      have BK103 := n0_
      have BK111 := n1_
      have HB := n2_
      clear n0_ n1_ n2_
      (try clear hb)
      (try clear hb2)
      (try clear hk)
      (try clear hi)
      refine hK.out _ _ ⟨(blk_cell BK103.out 0).trans rfl, (blk_cell BK103.out 1).trans rfl, (blk_cell BK103.out 2).trans rfl, (blk_cell BK103.out 3).trans rfl, (blk_cell BK103.out 4).trans rfl, (blk_cell BK103.out 5).trans rfl, (blk_cell BK103.out 6).trans rfl, (blk_cell BK103.out 7).trans rfl, (blk_cell BK103.out 8).trans rfl⟩ (fun hHeld => ?_)
      clear hK K
      refine norm_ (a' := ?_) ?_ ?_
      rotate_left
      ·show Act.put _ (some 50) _ = _
       simp only [Act.put, List.setIfInBounds_toArray, List.set_cons_zero, List.set_cons_succ, i64_w, i32_w]
       rfl
      refine pure_ (i := 4) (N := some 51) (v := ?_) (a' := ?_) #[true, true, true, true, true, false, false, false, false, true, false, false] rfl rfl (any_of HT_.out (by kernel_rfl)) (fun _ _ _ h => h) (Or.inl ⟨by rfl, ?_⟩) ?_ ?_
      rotate_left
      ·intro w'
       go_simp
       with_reducible rfl
      rotate_left
      ·simp only [Act.put, List.setIfInBounds_toArray, List.set_cons_zero, List.set_cons_succ, i64_w, i32_w]
       rfl
      refine pure_ (i := 5) (N := some 52) (v := undef) (a' := ?_) #[true, true, true, true, true, true, false, false, false, true, false, false] rfl rfl (any_of HT_.out (by kernel_rfl)) (fun _ _ _ h => h) (Or.inr ⟨by rfl, rfl⟩) ?_ ?_
      rotate_left
      ·simp only [Act.put, List.setIfInBounds_toArray, List.set_cons_zero, List.set_cons_succ, i64_w, i32_w]
       rfl
      refine pure_ (i := 6) (N := some 53) (v := undef) (a' := ?_) #[true, true, true, true, true, true, true, false, false, true, false, false] rfl rfl (any_of HT_.out (by kernel_rfl)) (fun _ _ _ h => h) (Or.inr ⟨by rfl, rfl⟩) ?_ ?_
      rotate_left
      ·simp only [Act.put, List.setIfInBounds_toArray, List.set_cons_zero, List.set_cons_succ, i64_w, i32_w]
       rfl
      refine pure_ (i := 7) (N := some 54) (v := undef) (a' := ?_) #[true, true, true, true, true, true, true, true, false, true, false, false] rfl rfl (any_of HT_.out (by kernel_rfl)) (fun _ _ _ h => h) (Or.inr ⟨by rfl, rfl⟩) ?_ ?_
      rotate_left
      ·simp only [Act.put, List.setIfInBounds_toArray, List.set_cons_zero, List.set_cons_succ, i64_w, i32_w]
       rfl
      refine pure_ (i := 8) (N := some 55) (v := ?_) (a' := ?_) #[true, true, true, true, true, true, true, true, true, true, false, false] rfl rfl (any_of HT_.out (by kernel_rfl)) (fun _ _ _ h => h) (Or.inl ⟨by rfl, ?_⟩) ?_ ?_
      rotate_left
      ·intro w'
       go_simp
       with_reducible rfl
      rotate_left
      ·simp only [Act.put, List.setIfInBounds_toArray, List.set_cons_zero, List.set_cons_succ, i64_w, i32_w]
       rfl
      refine one_ (i := 10) (N := none) #[true, true, true, true, true, true, true, true, true, true, true, false] rfl rfl (one_of HT_.out (by kernel_rfl)) (by decide) (fun K hK => ?_)
      have hs93 : w92.cell? ⟨gb111, 3, none⟩ = some (.int .i64 t107) := (blk_cell BK111.out 3).trans rfl
      have hfs93 := blk_frozen BK111.out 3
      have hns93_0 := NB103_111.out
      have hms93_0 := NB111_103.out
      refine skip_ (w1 := ?_) (by rfl) rfl ?_ ?_
      rotate_left
      ·go_simp
       rfl
      refine hK.out _ _ ⟨((cell_far (p := ⟨gb111, _, none⟩) NB103_111.out _).trans (hHeld.1)), ((cell_far (p := ⟨gb111, _, none⟩) NB103_111.out _).trans (hHeld.2.1)), ((cell_far (p := ⟨gb111, _, none⟩) NB103_111.out _).trans (hHeld.2.2.1)), ((cell_far (p := ⟨gb111, _, none⟩) NB103_111.out _).trans (hHeld.2.2.2.1)), ((cell_far (p := ⟨gb111, _, none⟩) NB103_111.out _).trans (hHeld.2.2.2.2.1)), ((cell_far (p := ⟨gb111, _, none⟩) NB103_111.out _).trans (hHeld.2.2.2.2.2.1)), ((cell_far (p := ⟨gb111, _, none⟩) NB103_111.out _).trans (hHeld.2.2.2.2.2.2.1)), ((cell_far (p := ⟨gb111, _, none⟩) NB103_111.out _).trans (hHeld.2.2.2.2.2.2.2.1)), ((cell_far (p := ⟨gb111, _, none⟩) NB103_111.out _).trans (hHeld.2.2.2.2.2.2.2.2))⟩ (fun hHeld => ?_)
      clear hK K
      refine pure_ (i := 11) (N := some 4) (v := ?_) (a' := ?_) #[true, true, true, true, true, true, true, true, true, true, true, true] rfl rfl (any_of HT_.out (by kernel_rfl)) (fun _ _ _ h => h) (Or.inl ⟨by rfl, ?_⟩) ?_ ?_
      rotate_left
      ·intro w'
       go_simp
       with_reducible rfl
      rotate_left
      ·simp only [Act.put, List.setIfInBounds_toArray, List.set_cons_zero, List.set_cons_succ, i64_w, i32_w]
       rfl
      refine done_ (done_of HT_.out (by kernel_rfl)) ?_
      try go_wp2
      go_ret
      exact ⟨by rw [HV.out]; rfl, by repeat (first | (with_reducible first | exact HB.out | apply below_alloc | apply pw_below_drewN | apply below_drew1 | refine below_set ?_ GE103.out | refine below_set ?_ GE111.out) | exact HB.out)⟩
    | true =>
      rw [hl] at A180
      have A18 := Aside0.mk A180
      clear A180
      by_cases p1 : 0 < a0_1
      · have p1b : decide (0 < a0_1) = true := decide_eq_true p1
        clear p1
        by_cases hXt : bareB a0_4 a0_5 a0_6 = true
        · have czb : (!(t104 == a0_0) || (!(t105 == a0_1) || (!(t106 == a0_2) || (!(t108.toList == a0_4.toList) || (!(t109.toList == a0_5.toList) || (!(t110 == a0_6))))))) = false := by rw [ne1 A16.out, hXt]; rfl
          have HV : Aside0 (r = 0) := ⟨by rw [HRV2.out, ok1 HKD.out, hl, p1b, hXt]; rfl⟩
          clear hXt
          go_wp2
          have n0_ := Aside0.mk (blk_drew BK103.out)
          have n1_ := Aside0.mk (blk_drew BK111.out)
          have n2_ := Aside0.mk (below_drew1 HB.out)
          clear BK103
          clear BK111
          clear HB
          have BK103 := n0_
          have BK111 := n1_
          have HB := n2_
          clear n0_ n1_ n2_
          refine start_ (n := 12) (S := fun w' => w'.cell? ⟨gb103, 0, none⟩ = some (.int .i64 a0_0) ∧ w'.cell? ⟨gb103, 1, none⟩ = some (.int .i64 a0_1) ∧ w'.cell? ⟨gb103, 2, none⟩ = some (.int .i64 a0_2) ∧ w'.cell? ⟨gb103, 3, none⟩ = some (.int .i64 a0_3) ∧ w'.cell? ⟨gb103, 4, none⟩ = some (.string a0_4) ∧ w'.cell? ⟨gb103, 5, none⟩ = some (.string a0_5) ∧ w'.cell? ⟨gb103, 6, none⟩ = some (.bool a0_6) ∧ w'.cell? ⟨gb103, 7, none⟩ = some (.slice A0_7 l0_7.length c0_7) ∧ w'.cell? ⟨gb103, 8, none⟩ = some (.slice A0_8 l0_8.length c0_8)) (ds := []) #[false, false, false, false, false, false, false, false, false, false, false, false] (by kernel_rfl) rfl rfl ⟨(blk_cell BK103.out 0).trans rfl, (blk_cell BK103.out 1).trans rfl, (blk_cell BK103.out 2).trans rfl, (blk_cell BK103.out 3).trans rfl, (blk_cell BK103.out 4).trans rfl, (blk_cell BK103.out 5).trans rfl, (blk_cell BK103.out 6).trans rfl, (blk_cell BK103.out 7).trans rfl, (blk_cell BK103.out 8).trans rfl⟩ (fun hHeld => ?_); refine with_tabW record_Check.tab7 record_Check.bits7 (fun HT_ HW_ => ?_)
          generalize w35.drew = w36 at BK103 BK111 HB hHeld ⊢
          refine pure_ (i := 0) (N := some 47) (v := ?_) (a' := ?_) #[true, false, false, false, false, false, false, false, false, false, false, false] rfl rfl (any_of HT_.out (by kernel_rfl)) (fun _ _ _ h => h) (Or.inl ⟨by rfl, ?_⟩) ?_ ?_
          rotate_left
          ·intro w'
           go_simp
           with_reducible rfl
          rotate_left
          ·simp only [Act.put, List.setIfInBounds_toArray, List.set_cons_zero, List.set_cons_succ, i64_w, i32_w]
           rfl
          refine take_ (i := 1) (N := some 48) (v := ?_) (a' := ?_) #[true, true, false, false, false, false, false, false, false, false, false, false] rfl rfl (take_ofW HT_.out HW_.out (by kernel_rfl)) (fun _ _ _ h => h) (Or.inl ⟨by rfl, ?_⟩) hHeld ?_ ?_
          rotate_left
          ·rintro w' ⟨s0, s1, s2, s3, s4, s5, s6, s7, s8⟩
           go_simp
           with_reducible rfl
          rotate_left
          ·simp only [Act.put, List.setIfInBounds_toArray, List.set_cons_zero, List.set_cons_succ, i64_w, i32_w]
           rfl
          refine pure_ (i := 9) (N := some 56) (v := ?_) (a' := ?_) #[true, true, false, false, false, false, false, false, false, true, false, false] rfl rfl (any_of HT_.out (by kernel_rfl)) (fun _ _ _ h => h) (Or.inl ⟨by rfl, ?_⟩) ?_ ?_
          rotate_left
          ·intro w'
           go_simp
           with_reducible rfl
          rotate_left
          ·simp only [Act.put, List.setIfInBounds_toArray, List.set_cons_zero, List.set_cons_succ, i64_w, i32_w]
           rfl
          refine take_ (i := 2) (N := some 49) (v := ?_) (a' := ?_) #[true, true, true, false, false, false, false, false, false, true, false, false] rfl rfl (take_ofW HT_.out HW_.out (by kernel_rfl)) (fun _ _ _ h => h) (Or.inl ⟨by rfl, ?_⟩) hHeld ?_ ?_
          rotate_left
          ·rintro w' ⟨s0, s1, s2, s3, s4, s5, s6, s7, s8⟩
           go_simp
           with_reducible rfl
          rotate_left
          ·simp only [Act.put, List.setIfInBounds_toArray, List.set_cons_zero, List.set_cons_succ, i64_w, i32_w]
           rfl
          refine one_ (i := 3) (N := some 50) #[true, true, true, true, false, false, false, false, false, true, false, false] rfl rfl (one_of HT_.out (by kernel_rfl)) (by decide) (fun K hK => ?_)
          refine goes_ Tryz.func71 (by kernel_rfl) rfl #[.agg #[.int .i64 a0_0, .int .i64 a0_1, .int .i64 a0_2, .int .i64 a0_3, .string a0_4, .string a0_5, .bool a0_6, .slice A0_7 l0_7.length c0_7, .slice A0_8 l0_8.length c0_8]] (by rfl) rfl rfl (by (try simp only [List.map_toArray, List.map_cons, List.map_nil]); first | done | rfl | (simp only [List.length_drop, List.length_take]; rfl)) ?_
          with_reducible refine (record_listed.calls kj1 a0_0 a0_1 a0_2 a0_3 a0_4 a0_5 a0_6 _ _ l0_7 _ _ l0_8 true _ ?side1 ?side2 ?side3 ?side4 A18.out).mono ?_
          (case side1 => repeat (first | exact (Kd.C_below HR0_7.out HB.out) | (with_reducible refine Kd.C_alloc ?_ _) | (with_reducible refine Kd.C_drewN ?_ _) | (with_reducible refine Kd.C_drew ?_)))
          (case side2 => exact HC0_7.out)
          (case side3 => repeat (first | exact (Kd.C_below HR0_8.out HB.out) | (with_reducible refine Kd.C_alloc ?_ _) | (with_reducible refine Kd.C_drewN ?_ _) | (with_reducible refine Kd.C_drew ?_)))
          (case side4 => exact HC0_8.out)
          rintro e w37 ⟨rfl, hb⟩
          refine ⟨_, rfl, ?_⟩
          have n0_ := Aside0.mk (blk_below (g := gb103) (o := .cells #[.int .i64 a0_0, .int .i64 a0_1, .int .i64 a0_2, .int .i64 a0_3, .string a0_4, .string a0_5, .bool a0_6, .slice A0_7 l0_7.length c0_7, .slice A0_8 l0_8.length c0_8] 26 (0, 0)) (by (with_reducible repeat (first | refine blk_drewN ?_ _ | refine blk_drew ?_ | refine blk_alloc ?_ _)); exact BK103.out) hb)
          have n1_ := Aside0.mk (blk_below (g := gb111) (o := .cells #[.int .i64 t104, .int .i64 t105, .int .i64 t106, .int .i64 t107, .string t108, .string t109, .bool t110] 105 (0, 0)) (by (with_reducible repeat (first | refine blk_drewN ?_ _ | refine blk_drew ?_ | refine blk_alloc ?_ _)); exact BK111.out) hb)
          have n2_ := Aside0.mk (below_step (by repeat (first | (with_reducible first | exact HB.out | apply below_alloc | apply pw_below_drewN | apply below_drew1 | refine below_set ?_ GE103.out | refine below_set ?_ GE111.out) | exact HB.out)) hb)
          clear BK103
          clear BK111
          clear HB
          have BK103 := n0_
          have BK111 := n1_
          have HB := n2_
          clear n0_ n1_ n2_
          (try clear hb)
          (try clear hb2)
          (try clear hk)
          (try clear hi)
          refine hK.out _ _ ⟨(blk_cell BK103.out 0).trans rfl, (blk_cell BK103.out 1).trans rfl, (blk_cell BK103.out 2).trans rfl, (blk_cell BK103.out 3).trans rfl, (blk_cell BK103.out 4).trans rfl, (blk_cell BK103.out 5).trans rfl, (blk_cell BK103.out 6).trans rfl, (blk_cell BK103.out 7).trans rfl, (blk_cell BK103.out 8).trans rfl⟩ (fun hHeld => ?_)
          clear hK K
          refine norm_ (a' := ?_) ?_ ?_
          rotate_left
          ·show Act.put _ (some 50) _ = _
           simp only [Act.put, List.setIfInBounds_toArray, List.set_cons_zero, List.set_cons_succ, i64_w, i32_w]
           rfl
          refine pure_ (i := 4) (N := some 51) (v := ?_) (a' := ?_) #[true, true, true, true, true, false, false, false, false, true, false, false] rfl rfl (any_of HT_.out (by kernel_rfl)) (fun _ _ _ h => h) (Or.inl ⟨by rfl, ?_⟩) ?_ ?_
          rotate_left
          ·intro w'
           go_simp
           with_reducible rfl
          rotate_left
          ·simp only [Act.put, List.setIfInBounds_toArray, List.set_cons_zero, List.set_cons_succ, i64_w, i32_w]
           rfl
          refine pure_ (i := 5) (N := some 52) (v := ?_) (a' := ?_) #[true, true, true, true, true, true, false, false, false, true, false, false] rfl rfl (any_of HT_.out (by kernel_rfl)) (fun _ _ _ h => h) (Or.inl ⟨by rfl, ?_⟩) ?_ ?_
          rotate_left
          ·intro w'
           go_simp
           with_reducible rfl
          rotate_left
          ·simp only [Act.put, List.setIfInBounds_toArray, List.set_cons_zero, List.set_cons_succ, i64_w, i32_w]
           rfl
          refine take_ (i := 6) (N := some 53) (v := ?_) (a' := ?_) #[true, true, true, true, true, true, true, false, false, true, false, false] rfl rfl (take_ofW HT_.out HW_.out (by kernel_rfl)) (fun _ _ _ h => h) (Or.inl ⟨by rfl, ?_⟩) hHeld ?_ ?_
          rotate_left
          ·rintro w' ⟨s0, s1, s2, s3, s4, s5, s6, s7, s8⟩
           go_simp
           with_reducible rfl
          rotate_left
          ·simp only [Act.put, List.setIfInBounds_toArray, List.set_cons_zero, List.set_cons_succ, i64_w, i32_w]
           rfl
          refine pure_ (i := 7) (N := some 54) (v := ?_) (a' := ?_) #[true, true, true, true, true, true, true, true, false, true, false, false] rfl rfl (any_of HT_.out (by kernel_rfl)) (fun _ _ _ h => h) (Or.inl ⟨by rfl, ?_⟩) ?_ ?_
          rotate_left
          ·intro w'
           go_simp
           with_reducible rfl
          rotate_left
          ·simp only [Act.put, List.setIfInBounds_toArray, List.set_cons_zero, List.set_cons_succ, i64_w, i32_w]
           rfl
          refine pure_ (i := 8) (N := some 55) (v := ?_) (a' := ?_) #[true, true, true, true, true, true, true, true, true, true, false, false] rfl rfl (any_of HT_.out (by kernel_rfl)) (fun _ _ _ h => h) (Or.inl ⟨by rfl, ?_⟩) ?_ ?_
          rotate_left
          ·intro w'
           go_simp
           with_reducible rfl
          rotate_left
          ·simp only [Act.put, List.setIfInBounds_toArray, List.set_cons_zero, List.set_cons_succ, i64_w, i32_w]
           rfl
          refine one_ (i := 10) (N := none) #[true, true, true, true, true, true, true, true, true, true, true, false] rfl rfl (one_of HT_.out (by kernel_rfl)) (by decide) (fun K hK => ?_)
          have hs38 : w37.cell? ⟨gb111, 3, none⟩ = some (.int .i64 t107) := (blk_cell BK111.out 3).trans rfl
          have hfs38 := blk_frozen BK111.out 3
          have hns38_0 := NB103_111.out
          have hms38_0 := NB111_103.out
          refine skip_ (w1 := ?_) (by rfl) rfl ?_ ?_
          rotate_left
          ·go_simp
           rfl
          refine hK.out _ _ ⟨((cell_far (p := ⟨gb111, _, none⟩) NB103_111.out _).trans (hHeld.1)), ((cell_far (p := ⟨gb111, _, none⟩) NB103_111.out _).trans (hHeld.2.1)), ((cell_far (p := ⟨gb111, _, none⟩) NB103_111.out _).trans (hHeld.2.2.1)), ((cell_far (p := ⟨gb111, _, none⟩) NB103_111.out _).trans (hHeld.2.2.2.1)), ((cell_far (p := ⟨gb111, _, none⟩) NB103_111.out _).trans (hHeld.2.2.2.2.1)), ((cell_far (p := ⟨gb111, _, none⟩) NB103_111.out _).trans (hHeld.2.2.2.2.2.1)), ((cell_far (p := ⟨gb111, _, none⟩) NB103_111.out _).trans (hHeld.2.2.2.2.2.2.1)), ((cell_far (p := ⟨gb111, _, none⟩) NB103_111.out _).trans (hHeld.2.2.2.2.2.2.2.1)), ((cell_far (p := ⟨gb111, _, none⟩) NB103_111.out _).trans (hHeld.2.2.2.2.2.2.2.2))⟩ (fun hHeld => ?_)
          clear hK K
          refine pure_ (i := 11) (N := some 4) (v := ?_) (a' := ?_) #[true, true, true, true, true, true, true, true, true, true, true, true] rfl rfl (any_of HT_.out (by kernel_rfl)) (fun _ _ _ h => h) (Or.inl ⟨by rfl, ?_⟩) ?_ ?_
          rotate_left
          ·intro w'
           go_simp
           with_reducible rfl
          rotate_left
          ·simp only [Act.put, List.setIfInBounds_toArray, List.set_cons_zero, List.set_cons_succ, i64_w, i32_w]
           rfl
          refine done_ (done_of HT_.out (by kernel_rfl)) ?_
          have hcz39_0 : w37.cell? ⟨gb111, 0, none⟩ = some (.int .i64 t104) := (blk_cell BK111.out 0).trans rfl
          have hcz39_1 : w37.cell? ⟨gb111, 1, none⟩ = some (.int .i64 t105) := (blk_cell BK111.out 1).trans rfl
          have hcz39_2 : w37.cell? ⟨gb111, 2, none⟩ = some (.int .i64 t106) := (blk_cell BK111.out 2).trans rfl
          have hcz39_3 : w37.cell? ⟨gb111, 3, none⟩ = some (.int .i64 t107) := (blk_cell BK111.out 3).trans rfl
          have hcz39_4 : w37.cell? ⟨gb111, 4, none⟩ = some (.string t108) := (blk_cell BK111.out 4).trans rfl
          have hcz39_5 : w37.cell? ⟨gb111, 5, none⟩ = some (.string t109) := (blk_cell BK111.out 5).trans rfl
          have hcz39_6 : w37.cell? ⟨gb111, 6, none⟩ = some (.bool t110) := (blk_cell BK111.out 6).trans rfl
          have hfz39_0 := blk_frozen BK111.out 0
          have hfz39_1 := blk_frozen BK111.out 1
          have hfz39_2 := blk_frozen BK111.out 2
          have hfz39_3 := blk_frozen BK111.out 3
          have hfz39_4 := blk_frozen BK111.out 4
          have hfz39_5 := blk_frozen BK111.out 5
          have hfz39_6 := blk_frozen BK111.out 6
          have hcz40_0 : w37.cell? ⟨gb103, 0, none⟩ = some (.int .i64 a0_0) := (blk_cell BK103.out 0).trans rfl
          have hcz40_1 : w37.cell? ⟨gb103, 1, none⟩ = some (.int .i64 a0_1) := (blk_cell BK103.out 1).trans rfl
          have hcz40_2 : w37.cell? ⟨gb103, 2, none⟩ = some (.int .i64 a0_2) := (blk_cell BK103.out 2).trans rfl
          have hcz40_3 : w37.cell? ⟨gb103, 3, none⟩ = some (.int .i64 a0_3) := (blk_cell BK103.out 3).trans rfl
          have hcz40_4 : w37.cell? ⟨gb103, 4, none⟩ = some (.string a0_4) := (blk_cell BK103.out 4).trans rfl
          have hcz40_5 : w37.cell? ⟨gb103, 5, none⟩ = some (.string a0_5) := (blk_cell BK103.out 5).trans rfl
          have hcz40_6 : w37.cell? ⟨gb103, 6, none⟩ = some (.bool a0_6) := (blk_cell BK103.out 6).trans rfl
          have hcz40_7 : w37.cell? ⟨gb103, 7, none⟩ = some (.slice A0_7 l0_7.length c0_7) := (blk_cell BK103.out 7).trans rfl
          have hcz40_8 : w37.cell? ⟨gb103, 8, none⟩ = some (.slice A0_8 l0_8.length c0_8) := (blk_cell BK103.out 8).trans rfl
          have hfz40_0 := blk_frozen BK103.out 0
          have hfz40_1 := blk_frozen BK103.out 1
          have hfz40_2 := blk_frozen BK103.out 2
          have hfz40_3 := blk_frozen BK103.out 3
          have hfz40_4 := blk_frozen BK103.out 4
          have hfz40_5 := blk_frozen BK103.out 5
          have hfz40_6 := blk_frozen BK103.out 6
          have hfz40_7 := blk_frozen BK103.out 7
          have hfz40_8 := blk_frozen BK103.out 8
          try go_wp2
          go_ret
          exact ⟨by rw [HV.out]; rfl, by repeat (first | (with_reducible first | exact HB.out | apply below_alloc | apply pw_below_drewN | apply below_drew1 | refine below_set ?_ GE103.out | refine below_set ?_ GE111.out) | exact HB.out)⟩
        · have hXf : bareB a0_4 a0_5 a0_6 = false := by simpa only [Bool.not_eq_true] using hXt
          clear hXt
          have czb : (!(t104 == a0_0) || (!(t105 == a0_1) || (!(t106 == a0_2) || (!(t108.toList == a0_4.toList) || (!(t109.toList == a0_5.toList) || (!(t110 == a0_6))))))) = true := by rw [ne1 A16.out, hXf]; rfl
          have HV : Aside0 (r = 80) := ⟨by rw [HRV2.out, ok1 HKD.out, hl, p1b, hXf]; rfl⟩
          clear hXf
          go_wp2
          have n0_ := Aside0.mk (blk_drew BK103.out)
          have n1_ := Aside0.mk (blk_drew BK111.out)
          have n2_ := Aside0.mk (below_drew1 HB.out)
          clear BK103
          clear BK111
          clear HB
          have BK103 := n0_
          have BK111 := n1_
          have HB := n2_
          clear n0_ n1_ n2_
          refine start_ (n := 12) (S := fun w' => w'.cell? ⟨gb103, 0, none⟩ = some (.int .i64 a0_0) ∧ w'.cell? ⟨gb103, 1, none⟩ = some (.int .i64 a0_1) ∧ w'.cell? ⟨gb103, 2, none⟩ = some (.int .i64 a0_2) ∧ w'.cell? ⟨gb103, 3, none⟩ = some (.int .i64 a0_3) ∧ w'.cell? ⟨gb103, 4, none⟩ = some (.string a0_4) ∧ w'.cell? ⟨gb103, 5, none⟩ = some (.string a0_5) ∧ w'.cell? ⟨gb103, 6, none⟩ = some (.bool a0_6) ∧ w'.cell? ⟨gb103, 7, none⟩ = some (.slice A0_7 l0_7.length c0_7) ∧ w'.cell? ⟨gb103, 8, none⟩ = some (.slice A0_8 l0_8.length c0_8)) (ds := []) #[false, false, false, false, false, false, false, false, false, false, false, false] (by kernel_rfl) rfl rfl ⟨(blk_cell BK103.out 0).trans rfl, (blk_cell BK103.out 1).trans rfl, (blk_cell BK103.out 2).trans rfl, (blk_cell BK103.out 3).trans rfl, (blk_cell BK103.out 4).trans rfl, (blk_cell BK103.out 5).trans rfl, (blk_cell BK103.out 6).trans rfl, (blk_cell BK103.out 7).trans rfl, (blk_cell BK103.out 8).trans rfl⟩ (fun hHeld => ?_); refine with_tabW record_Check.tab7 record_Check.bits7 (fun HT_ HW_ => ?_)
          generalize w35.drew = w36 at BK103 BK111 HB hHeld ⊢
          refine pure_ (i := 0) (N := some 47) (v := ?_) (a' := ?_) #[true, false, false, false, false, false, false, false, false, false, false, false] rfl rfl (any_of HT_.out (by kernel_rfl)) (fun _ _ _ h => h) (Or.inl ⟨by rfl, ?_⟩) ?_ ?_
          rotate_left
          ·intro w'
           go_simp
           with_reducible rfl
          rotate_left
          ·simp only [Act.put, List.setIfInBounds_toArray, List.set_cons_zero, List.set_cons_succ, i64_w, i32_w]
           rfl
          refine take_ (i := 1) (N := some 48) (v := ?_) (a' := ?_) #[true, true, false, false, false, false, false, false, false, false, false, false] rfl rfl (take_ofW HT_.out HW_.out (by kernel_rfl)) (fun _ _ _ h => h) (Or.inl ⟨by rfl, ?_⟩) hHeld ?_ ?_
          rotate_left
          ·rintro w' ⟨s0, s1, s2, s3, s4, s5, s6, s7, s8⟩
           go_simp
           with_reducible rfl
          rotate_left
          ·simp only [Act.put, List.setIfInBounds_toArray, List.set_cons_zero, List.set_cons_succ, i64_w, i32_w]
           rfl
          refine pure_ (i := 9) (N := some 56) (v := ?_) (a' := ?_) #[true, true, false, false, false, false, false, false, false, true, false, false] rfl rfl (any_of HT_.out (by kernel_rfl)) (fun _ _ _ h => h) (Or.inl ⟨by rfl, ?_⟩) ?_ ?_
          rotate_left
          ·intro w'
           go_simp
           with_reducible rfl
          rotate_left
          ·simp only [Act.put, List.setIfInBounds_toArray, List.set_cons_zero, List.set_cons_succ, i64_w, i32_w]
           rfl
          refine take_ (i := 2) (N := some 49) (v := ?_) (a' := ?_) #[true, true, true, false, false, false, false, false, false, true, false, false] rfl rfl (take_ofW HT_.out HW_.out (by kernel_rfl)) (fun _ _ _ h => h) (Or.inl ⟨by rfl, ?_⟩) hHeld ?_ ?_
          rotate_left
          ·rintro w' ⟨s0, s1, s2, s3, s4, s5, s6, s7, s8⟩
           go_simp
           with_reducible rfl
          rotate_left
          ·simp only [Act.put, List.setIfInBounds_toArray, List.set_cons_zero, List.set_cons_succ, i64_w, i32_w]
           rfl
          refine one_ (i := 3) (N := some 50) #[true, true, true, true, false, false, false, false, false, true, false, false] rfl rfl (one_of HT_.out (by kernel_rfl)) (by decide) (fun K hK => ?_)
          refine goes_ Tryz.func71 (by kernel_rfl) rfl #[.agg #[.int .i64 a0_0, .int .i64 a0_1, .int .i64 a0_2, .int .i64 a0_3, .string a0_4, .string a0_5, .bool a0_6, .slice A0_7 l0_7.length c0_7, .slice A0_8 l0_8.length c0_8]] (by rfl) rfl rfl (by (try simp only [List.map_toArray, List.map_cons, List.map_nil]); first | done | rfl | (simp only [List.length_drop, List.length_take]; rfl)) ?_
          with_reducible refine (record_listed.calls kj1 a0_0 a0_1 a0_2 a0_3 a0_4 a0_5 a0_6 _ _ l0_7 _ _ l0_8 true _ ?side1 ?side2 ?side3 ?side4 A18.out).mono ?_
          (case side1 => repeat (first | exact (Kd.C_below HR0_7.out HB.out) | (with_reducible refine Kd.C_alloc ?_ _) | (with_reducible refine Kd.C_drewN ?_ _) | (with_reducible refine Kd.C_drew ?_)))
          (case side2 => exact HC0_7.out)
          (case side3 => repeat (first | exact (Kd.C_below HR0_8.out HB.out) | (with_reducible refine Kd.C_alloc ?_ _) | (with_reducible refine Kd.C_drewN ?_ _) | (with_reducible refine Kd.C_drew ?_)))
          (case side4 => exact HC0_8.out)
          rintro e w37 ⟨rfl, hb⟩
          refine ⟨_, rfl, ?_⟩
          have n0_ := Aside0.mk (blk_below (g := gb103) (o := .cells #[.int .i64 a0_0, .int .i64 a0_1, .int .i64 a0_2, .int .i64 a0_3, .string a0_4, .string a0_5, .bool a0_6, .slice A0_7 l0_7.length c0_7, .slice A0_8 l0_8.length c0_8] 26 (0, 0)) (by (with_reducible repeat (first | refine blk_drewN ?_ _ | refine blk_drew ?_ | refine blk_alloc ?_ _)); exact BK103.out) hb)
          have n1_ := Aside0.mk (blk_below (g := gb111) (o := .cells #[.int .i64 t104, .int .i64 t105, .int .i64 t106, .int .i64 t107, .string t108, .string t109, .bool t110] 105 (0, 0)) (by (with_reducible repeat (first | refine blk_drewN ?_ _ | refine blk_drew ?_ | refine blk_alloc ?_ _)); exact BK111.out) hb)
          have n2_ := Aside0.mk (below_step (by repeat (first | (with_reducible first | exact HB.out | apply below_alloc | apply pw_below_drewN | apply below_drew1 | refine below_set ?_ GE103.out | refine below_set ?_ GE111.out) | exact HB.out)) hb)
          clear BK103
          clear BK111
          clear HB
          have BK103 := n0_
          have BK111 := n1_
          have HB := n2_
          clear n0_ n1_ n2_
          (try clear hb)
          (try clear hb2)
          (try clear hk)
          (try clear hi)
          refine hK.out _ _ ⟨(blk_cell BK103.out 0).trans rfl, (blk_cell BK103.out 1).trans rfl, (blk_cell BK103.out 2).trans rfl, (blk_cell BK103.out 3).trans rfl, (blk_cell BK103.out 4).trans rfl, (blk_cell BK103.out 5).trans rfl, (blk_cell BK103.out 6).trans rfl, (blk_cell BK103.out 7).trans rfl, (blk_cell BK103.out 8).trans rfl⟩ (fun hHeld => ?_)
          clear hK K
          refine norm_ (a' := ?_) ?_ ?_
          rotate_left
          ·show Act.put _ (some 50) _ = _
           simp only [Act.put, List.setIfInBounds_toArray, List.set_cons_zero, List.set_cons_succ, i64_w, i32_w]
           rfl
          refine pure_ (i := 4) (N := some 51) (v := ?_) (a' := ?_) #[true, true, true, true, true, false, false, false, false, true, false, false] rfl rfl (any_of HT_.out (by kernel_rfl)) (fun _ _ _ h => h) (Or.inl ⟨by rfl, ?_⟩) ?_ ?_
          rotate_left
          ·intro w'
           go_simp
           with_reducible rfl
          rotate_left
          ·simp only [Act.put, List.setIfInBounds_toArray, List.set_cons_zero, List.set_cons_succ, i64_w, i32_w]
           rfl
          refine pure_ (i := 5) (N := some 52) (v := ?_) (a' := ?_) #[true, true, true, true, true, true, false, false, false, true, false, false] rfl rfl (any_of HT_.out (by kernel_rfl)) (fun _ _ _ h => h) (Or.inl ⟨by rfl, ?_⟩) ?_ ?_
          rotate_left
          ·intro w'
           go_simp
           with_reducible rfl
          rotate_left
          ·simp only [Act.put, List.setIfInBounds_toArray, List.set_cons_zero, List.set_cons_succ, i64_w, i32_w]
           rfl
          refine take_ (i := 6) (N := some 53) (v := ?_) (a' := ?_) #[true, true, true, true, true, true, true, false, false, true, false, false] rfl rfl (take_ofW HT_.out HW_.out (by kernel_rfl)) (fun _ _ _ h => h) (Or.inl ⟨by rfl, ?_⟩) hHeld ?_ ?_
          rotate_left
          ·rintro w' ⟨s0, s1, s2, s3, s4, s5, s6, s7, s8⟩
           go_simp
           with_reducible rfl
          rotate_left
          ·simp only [Act.put, List.setIfInBounds_toArray, List.set_cons_zero, List.set_cons_succ, i64_w, i32_w]
           rfl
          refine pure_ (i := 7) (N := some 54) (v := ?_) (a' := ?_) #[true, true, true, true, true, true, true, true, false, true, false, false] rfl rfl (any_of HT_.out (by kernel_rfl)) (fun _ _ _ h => h) (Or.inl ⟨by rfl, ?_⟩) ?_ ?_
          rotate_left
          ·intro w'
           go_simp
           with_reducible rfl
          rotate_left
          ·simp only [Act.put, List.setIfInBounds_toArray, List.set_cons_zero, List.set_cons_succ, i64_w, i32_w]
           rfl
          refine pure_ (i := 8) (N := some 55) (v := ?_) (a' := ?_) #[true, true, true, true, true, true, true, true, true, true, false, false] rfl rfl (any_of HT_.out (by kernel_rfl)) (fun _ _ _ h => h) (Or.inl ⟨by rfl, ?_⟩) ?_ ?_
          rotate_left
          ·intro w'
           go_simp
           with_reducible rfl
          rotate_left
          ·simp only [Act.put, List.setIfInBounds_toArray, List.set_cons_zero, List.set_cons_succ, i64_w, i32_w]
           rfl
          refine one_ (i := 10) (N := none) #[true, true, true, true, true, true, true, true, true, true, true, false] rfl rfl (one_of HT_.out (by kernel_rfl)) (by decide) (fun K hK => ?_)
          have hs38 : w37.cell? ⟨gb111, 3, none⟩ = some (.int .i64 t107) := (blk_cell BK111.out 3).trans rfl
          have hfs38 := blk_frozen BK111.out 3
          have hns38_0 := NB103_111.out
          have hms38_0 := NB111_103.out
          refine skip_ (w1 := ?_) (by rfl) rfl ?_ ?_
          rotate_left
          ·go_simp
           rfl
          refine hK.out _ _ ⟨((cell_far (p := ⟨gb111, _, none⟩) NB103_111.out _).trans (hHeld.1)), ((cell_far (p := ⟨gb111, _, none⟩) NB103_111.out _).trans (hHeld.2.1)), ((cell_far (p := ⟨gb111, _, none⟩) NB103_111.out _).trans (hHeld.2.2.1)), ((cell_far (p := ⟨gb111, _, none⟩) NB103_111.out _).trans (hHeld.2.2.2.1)), ((cell_far (p := ⟨gb111, _, none⟩) NB103_111.out _).trans (hHeld.2.2.2.2.1)), ((cell_far (p := ⟨gb111, _, none⟩) NB103_111.out _).trans (hHeld.2.2.2.2.2.1)), ((cell_far (p := ⟨gb111, _, none⟩) NB103_111.out _).trans (hHeld.2.2.2.2.2.2.1)), ((cell_far (p := ⟨gb111, _, none⟩) NB103_111.out _).trans (hHeld.2.2.2.2.2.2.2.1)), ((cell_far (p := ⟨gb111, _, none⟩) NB103_111.out _).trans (hHeld.2.2.2.2.2.2.2.2))⟩ (fun hHeld => ?_)
          clear hK K
          refine pure_ (i := 11) (N := some 4) (v := ?_) (a' := ?_) #[true, true, true, true, true, true, true, true, true, true, true, true] rfl rfl (any_of HT_.out (by kernel_rfl)) (fun _ _ _ h => h) (Or.inl ⟨by rfl, ?_⟩) ?_ ?_
          rotate_left
          ·intro w'
           go_simp
           with_reducible rfl
          rotate_left
          ·simp only [Act.put, List.setIfInBounds_toArray, List.set_cons_zero, List.set_cons_succ, i64_w, i32_w]
           rfl
          refine done_ (done_of HT_.out (by kernel_rfl)) ?_
          have hcz39_0 : w37.cell? ⟨gb111, 0, none⟩ = some (.int .i64 t104) := (blk_cell BK111.out 0).trans rfl
          have hcz39_1 : w37.cell? ⟨gb111, 1, none⟩ = some (.int .i64 t105) := (blk_cell BK111.out 1).trans rfl
          have hcz39_2 : w37.cell? ⟨gb111, 2, none⟩ = some (.int .i64 t106) := (blk_cell BK111.out 2).trans rfl
          have hcz39_3 : w37.cell? ⟨gb111, 3, none⟩ = some (.int .i64 t107) := (blk_cell BK111.out 3).trans rfl
          have hcz39_4 : w37.cell? ⟨gb111, 4, none⟩ = some (.string t108) := (blk_cell BK111.out 4).trans rfl
          have hcz39_5 : w37.cell? ⟨gb111, 5, none⟩ = some (.string t109) := (blk_cell BK111.out 5).trans rfl
          have hcz39_6 : w37.cell? ⟨gb111, 6, none⟩ = some (.bool t110) := (blk_cell BK111.out 6).trans rfl
          have hfz39_0 := blk_frozen BK111.out 0
          have hfz39_1 := blk_frozen BK111.out 1
          have hfz39_2 := blk_frozen BK111.out 2
          have hfz39_3 := blk_frozen BK111.out 3
          have hfz39_4 := blk_frozen BK111.out 4
          have hfz39_5 := blk_frozen BK111.out 5
          have hfz39_6 := blk_frozen BK111.out 6
          have hcz40_0 : w37.cell? ⟨gb103, 0, none⟩ = some (.int .i64 a0_0) := (blk_cell BK103.out 0).trans rfl
          have hcz40_1 : w37.cell? ⟨gb103, 1, none⟩ = some (.int .i64 a0_1) := (blk_cell BK103.out 1).trans rfl
          have hcz40_2 : w37.cell? ⟨gb103, 2, none⟩ = some (.int .i64 a0_2) := (blk_cell BK103.out 2).trans rfl
          have hcz40_3 : w37.cell? ⟨gb103, 3, none⟩ = some (.int .i64 a0_3) := (blk_cell BK103.out 3).trans rfl
          have hcz40_4 : w37.cell? ⟨gb103, 4, none⟩ = some (.string a0_4) := (blk_cell BK103.out 4).trans rfl
          have hcz40_5 : w37.cell? ⟨gb103, 5, none⟩ = some (.string a0_5) := (blk_cell BK103.out 5).trans rfl
          have hcz40_6 : w37.cell? ⟨gb103, 6, none⟩ = some (.bool a0_6) := (blk_cell BK103.out 6).trans rfl
          have hcz40_7 : w37.cell? ⟨gb103, 7, none⟩ = some (.slice A0_7 l0_7.length c0_7) := (blk_cell BK103.out 7).trans rfl
          have hcz40_8 : w37.cell? ⟨gb103, 8, none⟩ = some (.slice A0_8 l0_8.length c0_8) := (blk_cell BK103.out 8).trans rfl
          have hfz40_0 := blk_frozen BK103.out 0
          have hfz40_1 := blk_frozen BK103.out 1
          have hfz40_2 := blk_frozen BK103.out 2
          have hfz40_3 := blk_frozen BK103.out 3
          have hfz40_4 := blk_frozen BK103.out 4
          have hfz40_5 := blk_frozen BK103.out 5
          have hfz40_6 := blk_frozen BK103.out 6
          have hfz40_7 := blk_frozen BK103.out 7
          have hfz40_8 := blk_frozen BK103.out 8
          try go_wp2
          go_ret
          exact ⟨by rw [HV.out]; rfl, by repeat (first | (with_reducible first | exact HB.out | apply below_alloc | apply pw_below_drewN | apply below_drew1 | refine below_set ?_ GE103.out | refine below_set ?_ GE111.out) | exact HB.out)⟩
      · have p1b : decide (0 < a0_1) = false := decide_eq_false p1
        clear p1
        have HV : Aside0 (r = 80) := ⟨by rw [HRV2.out, ok1 HKD.out, hl, p1b]; rfl⟩
        go_wp2
        have n0_ := Aside0.mk (blk_drew BK103.out)
        have n1_ := Aside0.mk (blk_drew BK111.out)
        have n2_ := Aside0.mk (below_drew1 HB.out)
        clear BK103
        clear BK111
        clear HB
        have BK103 := n0_
        have BK111 := n1_
        have HB := n2_
        clear n0_ n1_ n2_
        refine start_ (n := 12) (S := fun w' => w'.cell? ⟨gb103, 0, none⟩ = some (.int .i64 a0_0) ∧ w'.cell? ⟨gb103, 1, none⟩ = some (.int .i64 a0_1) ∧ w'.cell? ⟨gb103, 2, none⟩ = some (.int .i64 a0_2) ∧ w'.cell? ⟨gb103, 3, none⟩ = some (.int .i64 a0_3) ∧ w'.cell? ⟨gb103, 4, none⟩ = some (.string a0_4) ∧ w'.cell? ⟨gb103, 5, none⟩ = some (.string a0_5) ∧ w'.cell? ⟨gb103, 6, none⟩ = some (.bool a0_6) ∧ w'.cell? ⟨gb103, 7, none⟩ = some (.slice A0_7 l0_7.length c0_7) ∧ w'.cell? ⟨gb103, 8, none⟩ = some (.slice A0_8 l0_8.length c0_8)) (ds := []) #[false, false, false, false, false, false, false, false, false, false, false, false] (by kernel_rfl) rfl rfl ⟨(blk_cell BK103.out 0).trans rfl, (blk_cell BK103.out 1).trans rfl, (blk_cell BK103.out 2).trans rfl, (blk_cell BK103.out 3).trans rfl, (blk_cell BK103.out 4).trans rfl, (blk_cell BK103.out 5).trans rfl, (blk_cell BK103.out 6).trans rfl, (blk_cell BK103.out 7).trans rfl, (blk_cell BK103.out 8).trans rfl⟩ (fun hHeld => ?_); refine with_tabW record_Check.tab7 record_Check.bits7 (fun HT_ HW_ => ?_)
        generalize w35.drew = w36 at BK103 BK111 HB hHeld ⊢
        refine pure_ (i := 0) (N := some 47) (v := ?_) (a' := ?_) #[true, false, false, false, false, false, false, false, false, false, false, false] rfl rfl (any_of HT_.out (by kernel_rfl)) (fun _ _ _ h => h) (Or.inl ⟨by rfl, ?_⟩) ?_ ?_
        rotate_left
        ·intro w'
         go_simp
         with_reducible rfl
        rotate_left
        ·simp only [Act.put, List.setIfInBounds_toArray, List.set_cons_zero, List.set_cons_succ, i64_w, i32_w]
         rfl
        refine take_ (i := 1) (N := some 48) (v := ?_) (a' := ?_) #[true, true, false, false, false, false, false, false, false, false, false, false] rfl rfl (take_ofW HT_.out HW_.out (by kernel_rfl)) (fun _ _ _ h => h) (Or.inl ⟨by rfl, ?_⟩) hHeld ?_ ?_
        rotate_left
        ·rintro w' ⟨s0, s1, s2, s3, s4, s5, s6, s7, s8⟩
         go_simp
         with_reducible rfl
        rotate_left
        ·simp only [Act.put, List.setIfInBounds_toArray, List.set_cons_zero, List.set_cons_succ, i64_w, i32_w]
         rfl
        refine pure_ (i := 9) (N := some 56) (v := ?_) (a' := ?_) #[true, true, false, false, false, false, false, false, false, true, false, false] rfl rfl (any_of HT_.out (by kernel_rfl)) (fun _ _ _ h => h) (Or.inl ⟨by rfl, ?_⟩) ?_ ?_
        rotate_left
        ·intro w'
         go_simp
         with_reducible rfl
        rotate_left
        ·simp only [Act.put, List.setIfInBounds_toArray, List.set_cons_zero, List.set_cons_succ, i64_w, i32_w]
         rfl
        refine take_ (i := 2) (N := some 49) (v := ?_) (a' := ?_) #[true, true, true, false, false, false, false, false, false, true, false, false] rfl rfl (take_ofW HT_.out HW_.out (by kernel_rfl)) (fun _ _ _ h => h) (Or.inl ⟨by rfl, ?_⟩) hHeld ?_ ?_
        rotate_left
        ·rintro w' ⟨s0, s1, s2, s3, s4, s5, s6, s7, s8⟩
         go_simp
         with_reducible rfl
        rotate_left
        ·simp only [Act.put, List.setIfInBounds_toArray, List.set_cons_zero, List.set_cons_succ, i64_w, i32_w]
         rfl
        refine one_ (i := 3) (N := some 50) #[true, true, true, true, false, false, false, false, false, true, false, false] rfl rfl (one_of HT_.out (by kernel_rfl)) (by decide) (fun K hK => ?_)
        refine goes_ Tryz.func71 (by kernel_rfl) rfl #[.agg #[.int .i64 a0_0, .int .i64 a0_1, .int .i64 a0_2, .int .i64 a0_3, .string a0_4, .string a0_5, .bool a0_6, .slice A0_7 l0_7.length c0_7, .slice A0_8 l0_8.length c0_8]] (by rfl) rfl rfl (by (try simp only [List.map_toArray, List.map_cons, List.map_nil]); first | done | rfl | (simp only [List.length_drop, List.length_take]; rfl)) ?_
        with_reducible refine (record_listed.calls kj1 a0_0 a0_1 a0_2 a0_3 a0_4 a0_5 a0_6 _ _ l0_7 _ _ l0_8 true _ ?side1 ?side2 ?side3 ?side4 A18.out).mono ?_
        (case side1 => repeat (first | exact (Kd.C_below HR0_7.out HB.out) | (with_reducible refine Kd.C_alloc ?_ _) | (with_reducible refine Kd.C_drewN ?_ _) | (with_reducible refine Kd.C_drew ?_)))
        (case side2 => exact HC0_7.out)
        (case side3 => repeat (first | exact (Kd.C_below HR0_8.out HB.out) | (with_reducible refine Kd.C_alloc ?_ _) | (with_reducible refine Kd.C_drewN ?_ _) | (with_reducible refine Kd.C_drew ?_)))
        (case side4 => exact HC0_8.out)
        rintro e w37 ⟨rfl, hb⟩
        refine ⟨_, rfl, ?_⟩
        have n0_ := Aside0.mk (blk_below (g := gb103) (o := .cells #[.int .i64 a0_0, .int .i64 a0_1, .int .i64 a0_2, .int .i64 a0_3, .string a0_4, .string a0_5, .bool a0_6, .slice A0_7 l0_7.length c0_7, .slice A0_8 l0_8.length c0_8] 26 (0, 0)) (by (with_reducible repeat (first | refine blk_drewN ?_ _ | refine blk_drew ?_ | refine blk_alloc ?_ _)); exact BK103.out) hb)
        have n1_ := Aside0.mk (blk_below (g := gb111) (o := .cells #[.int .i64 t104, .int .i64 t105, .int .i64 t106, .int .i64 t107, .string t108, .string t109, .bool t110] 105 (0, 0)) (by (with_reducible repeat (first | refine blk_drewN ?_ _ | refine blk_drew ?_ | refine blk_alloc ?_ _)); exact BK111.out) hb)
        have n2_ := Aside0.mk (below_step (by repeat (first | (with_reducible first | exact HB.out | apply below_alloc | apply pw_below_drewN | apply below_drew1 | refine below_set ?_ GE103.out | refine below_set ?_ GE111.out) | exact HB.out)) hb)
        clear BK103
        clear BK111
        clear HB
        have BK103 := n0_
        have BK111 := n1_
        have HB := n2_
        clear n0_ n1_ n2_
        (try clear hb)
        (try clear hb2)
        (try clear hk)
        (try clear hi)
        refine hK.out _ _ ⟨(blk_cell BK103.out 0).trans rfl, (blk_cell BK103.out 1).trans rfl, (blk_cell BK103.out 2).trans rfl, (blk_cell BK103.out 3).trans rfl, (blk_cell BK103.out 4).trans rfl, (blk_cell BK103.out 5).trans rfl, (blk_cell BK103.out 6).trans rfl, (blk_cell BK103.out 7).trans rfl, (blk_cell BK103.out 8).trans rfl⟩ (fun hHeld => ?_)
        clear hK K
        refine norm_ (a' := ?_) ?_ ?_
        rotate_left
        ·show Act.put _ (some 50) _ = _
         simp only [Act.put, List.setIfInBounds_toArray, List.set_cons_zero, List.set_cons_succ, i64_w, i32_w]
         rfl
        refine pure_ (i := 4) (N := some 51) (v := ?_) (a' := ?_) #[true, true, true, true, true, false, false, false, false, true, false, false] rfl rfl (any_of HT_.out (by kernel_rfl)) (fun _ _ _ h => h) (Or.inl ⟨by rfl, ?_⟩) ?_ ?_
        rotate_left
        ·intro w'
         go_simp
         with_reducible rfl
        rotate_left
        ·simp only [Act.put, List.setIfInBounds_toArray, List.set_cons_zero, List.set_cons_succ, i64_w, i32_w]
         rfl
        refine pure_ (i := 5) (N := some 52) (v := ?_) (a' := ?_) #[true, true, true, true, true, true, false, false, false, true, false, false] rfl rfl (any_of HT_.out (by kernel_rfl)) (fun _ _ _ h => h) (Or.inl ⟨by rfl, ?_⟩) ?_ ?_
        rotate_left
        ·intro w'
         go_simp
         with_reducible rfl
        rotate_left
        ·simp only [Act.put, List.setIfInBounds_toArray, List.set_cons_zero, List.set_cons_succ, i64_w, i32_w]
         rfl
        refine take_ (i := 6) (N := some 53) (v := ?_) (a' := ?_) #[true, true, true, true, true, true, true, false, false, true, false, false] rfl rfl (take_ofW HT_.out HW_.out (by kernel_rfl)) (fun _ _ _ h => h) (Or.inl ⟨by rfl, ?_⟩) hHeld ?_ ?_
        rotate_left
        ·rintro w' ⟨s0, s1, s2, s3, s4, s5, s6, s7, s8⟩
         go_simp
         with_reducible rfl
        rotate_left
        ·simp only [Act.put, List.setIfInBounds_toArray, List.set_cons_zero, List.set_cons_succ, i64_w, i32_w]
         rfl
        refine pure_ (i := 7) (N := some 54) (v := ?_) (a' := ?_) #[true, true, true, true, true, true, true, true, false, true, false, false] rfl rfl (any_of HT_.out (by kernel_rfl)) (fun _ _ _ h => h) (Or.inl ⟨by rfl, ?_⟩) ?_ ?_
        rotate_left
        ·intro w'
         go_simp
         with_reducible rfl
        rotate_left
        ·simp only [Act.put, List.setIfInBounds_toArray, List.set_cons_zero, List.set_cons_succ, i64_w, i32_w]
         rfl
        refine pure_ (i := 8) (N := some 55) (v := ?_) (a' := ?_) #[true, true, true, true, true, true, true, true, true, true, false, false] rfl rfl (any_of HT_.out (by kernel_rfl)) (fun _ _ _ h => h) (Or.inl ⟨by rfl, ?_⟩) ?_ ?_
        rotate_left
        ·intro w'
         go_simp
         with_reducible rfl
        rotate_left
        ·simp only [Act.put, List.setIfInBounds_toArray, List.set_cons_zero, List.set_cons_succ, i64_w, i32_w]
         rfl
        refine one_ (i := 10) (N := none) #[true, true, true, true, true, true, true, true, true, true, true, false] rfl rfl (one_of HT_.out (by kernel_rfl)) (by decide) (fun K hK => ?_)
        have hs38 : w37.cell? ⟨gb111, 3, none⟩ = some (.int .i64 t107) := (blk_cell BK111.out 3).trans rfl
        have hfs38 := blk_frozen BK111.out 3
        have hns38_0 := NB103_111.out
        have hms38_0 := NB111_103.out
        refine skip_ (w1 := ?_) (by rfl) rfl ?_ ?_
        rotate_left
        ·go_simp
         rfl
        refine hK.out _ _ ⟨((cell_far (p := ⟨gb111, _, none⟩) NB103_111.out _).trans (hHeld.1)), ((cell_far (p := ⟨gb111, _, none⟩) NB103_111.out _).trans (hHeld.2.1)), ((cell_far (p := ⟨gb111, _, none⟩) NB103_111.out _).trans (hHeld.2.2.1)), ((cell_far (p := ⟨gb111, _, none⟩) NB103_111.out _).trans (hHeld.2.2.2.1)), ((cell_far (p := ⟨gb111, _, none⟩) NB103_111.out _).trans (hHeld.2.2.2.2.1)), ((cell_far (p := ⟨gb111, _, none⟩) NB103_111.out _).trans (hHeld.2.2.2.2.2.1)), ((cell_far (p := ⟨gb111, _, none⟩) NB103_111.out _).trans (hHeld.2.2.2.2.2.2.1)), ((cell_far (p := ⟨gb111, _, none⟩) NB103_111.out _).trans (hHeld.2.2.2.2.2.2.2.1)), ((cell_far (p := ⟨gb111, _, none⟩) NB103_111.out _).trans (hHeld.2.2.2.2.2.2.2.2))⟩ (fun hHeld => ?_)
        clear hK K
        refine pure_ (i := 11) (N := some 4) (v := ?_) (a' := ?_) #[true, true, true, true, true, true, true, true, true, true, true, true] rfl rfl (any_of HT_.out (by kernel_rfl)) (fun _ _ _ h => h) (Or.inl ⟨by rfl, ?_⟩) ?_ ?_
        rotate_left
        ·intro w'
         go_simp
         with_reducible rfl
        rotate_left
        ·simp only [Act.put, List.setIfInBounds_toArray, List.set_cons_zero, List.set_cons_succ, i64_w, i32_w]
         rfl
        refine done_ (done_of HT_.out (by kernel_rfl)) ?_
        have hcz39_0 : w37.cell? ⟨gb111, 0, none⟩ = some (.int .i64 t104) := (blk_cell BK111.out 0).trans rfl
        have hcz39_1 : w37.cell? ⟨gb111, 1, none⟩ = some (.int .i64 t105) := (blk_cell BK111.out 1).trans rfl
        have hcz39_2 : w37.cell? ⟨gb111, 2, none⟩ = some (.int .i64 t106) := (blk_cell BK111.out 2).trans rfl
        have hcz39_3 : w37.cell? ⟨gb111, 3, none⟩ = some (.int .i64 t107) := (blk_cell BK111.out 3).trans rfl
        have hcz39_4 : w37.cell? ⟨gb111, 4, none⟩ = some (.string t108) := (blk_cell BK111.out 4).trans rfl
        have hcz39_5 : w37.cell? ⟨gb111, 5, none⟩ = some (.string t109) := (blk_cell BK111.out 5).trans rfl
        have hcz39_6 : w37.cell? ⟨gb111, 6, none⟩ = some (.bool t110) := (blk_cell BK111.out 6).trans rfl
        have hfz39_0 := blk_frozen BK111.out 0
        have hfz39_1 := blk_frozen BK111.out 1
        have hfz39_2 := blk_frozen BK111.out 2
        have hfz39_3 := blk_frozen BK111.out 3
        have hfz39_4 := blk_frozen BK111.out 4
        have hfz39_5 := blk_frozen BK111.out 5
        have hfz39_6 := blk_frozen BK111.out 6
        have hcz40_0 : w37.cell? ⟨gb103, 0, none⟩ = some (.int .i64 a0_0) := (blk_cell BK103.out 0).trans rfl
        have hcz40_1 : w37.cell? ⟨gb103, 1, none⟩ = some (.int .i64 a0_1) := (blk_cell BK103.out 1).trans rfl
        have hcz40_2 : w37.cell? ⟨gb103, 2, none⟩ = some (.int .i64 a0_2) := (blk_cell BK103.out 2).trans rfl
        have hcz40_3 : w37.cell? ⟨gb103, 3, none⟩ = some (.int .i64 a0_3) := (blk_cell BK103.out 3).trans rfl
        have hcz40_4 : w37.cell? ⟨gb103, 4, none⟩ = some (.string a0_4) := (blk_cell BK103.out 4).trans rfl
        have hcz40_5 : w37.cell? ⟨gb103, 5, none⟩ = some (.string a0_5) := (blk_cell BK103.out 5).trans rfl
        have hcz40_6 : w37.cell? ⟨gb103, 6, none⟩ = some (.bool a0_6) := (blk_cell BK103.out 6).trans rfl
        have hcz40_7 : w37.cell? ⟨gb103, 7, none⟩ = some (.slice A0_7 l0_7.length c0_7) := (blk_cell BK103.out 7).trans rfl
        have hcz40_8 : w37.cell? ⟨gb103, 8, none⟩ = some (.slice A0_8 l0_8.length c0_8) := (blk_cell BK103.out 8).trans rfl
        have hfz40_0 := blk_frozen BK103.out 0
        have hfz40_1 := blk_frozen BK103.out 1
        have hfz40_2 := blk_frozen BK103.out 2
        have hfz40_3 := blk_frozen BK103.out 3
        have hfz40_4 := blk_frozen BK103.out 4
        have hfz40_5 := blk_frozen BK103.out 5
        have hfz40_6 := blk_frozen BK103.out 6
        have hfz40_7 := blk_frozen BK103.out 7
        have hfz40_8 := blk_frozen BK103.out 8
        try go_wp2
        go_ret
        exact ⟨by rw [HV.out]; rfl, by repeat (first | (with_reducible first | exact HB.out | apply below_alloc | apply pw_below_drewN | apply below_drew1 | refine below_set ?_ GE103.out | refine below_set ?_ GE111.out) | exact HB.out)⟩
  have k1b : (a0_0 == 1) = false := beq_eq_false_iff_ne.mpr k1
  have k1c : (a0_0 != 1) = true := bne_iff_ne.mpr k1
  by_cases k2 : a0_0 = 2
  · have HKD := Aside0.mk k2
    have k2b : (a0_0 == 2) = true := beq_iff_eq.mpr k2
    have k2c : (a0_0 != 2) = false := bne_eq_false_iff_eq.mpr k2
    clear k2
    cases hno : noneB l0_7 l0_8 with
    | false =>
      have HV : Aside0 (r = 80) := ⟨by rw [HRV2.out, ok2 HKD.out, hno]; rfl⟩
      go_wp2
      try go_wp2
      go_ret
      exact ⟨by rw [HV.out]; rfl, by repeat (first | (with_reducible first | exact HB.out | apply below_alloc | apply pw_below_drewN | apply below_drew1 | refine below_set ?_ GE103.out | refine below_set ?_ GE111.out) | exact HB.out)⟩
    | true =>
      by_cases p1 : 0 < a0_1
      · have p1b : decide (0 < a0_1) = true := decide_eq_true p1
        clear p1
        by_cases hXt : (a0_3 == 0 && bareB a0_4 a0_5 a0_6) = true
        · have czb : (!(t104 == a0_0) || (!(t105 == a0_1) || (!(t106 == a0_2) || (!(t107 == a0_3) || (!(t108.toList == a0_4.toList) || (!(t109.toList == a0_5.toList) || (!(t110 == a0_6)))))))) = false := by rw [ne2 A16.out, hXt]; rfl
          have HV : Aside0 (r = 0) := ⟨by rw [HRV2.out, ok2 HKD.out, hno, p1b, hXt]; rfl⟩
          clear hXt
          go_wp2
          try go_wp2
          go_ret
          exact ⟨by rw [HV.out]; rfl, by repeat (first | (with_reducible first | exact HB.out | apply below_alloc | apply pw_below_drewN | apply below_drew1 | refine below_set ?_ GE103.out | refine below_set ?_ GE111.out) | exact HB.out)⟩
        · have hXf : (a0_3 == 0 && bareB a0_4 a0_5 a0_6) = false := by simpa only [Bool.not_eq_true] using hXt
          clear hXt
          have czb : (!(t104 == a0_0) || (!(t105 == a0_1) || (!(t106 == a0_2) || (!(t107 == a0_3) || (!(t108.toList == a0_4.toList) || (!(t109.toList == a0_5.toList) || (!(t110 == a0_6)))))))) = true := by rw [ne2 A16.out, hXf]; rfl
          have HV : Aside0 (r = 80) := ⟨by rw [HRV2.out, ok2 HKD.out, hno, p1b, hXf]; rfl⟩
          clear hXf
          go_wp2
          try go_wp2
          go_ret
          exact ⟨by rw [HV.out]; rfl, by repeat (first | (with_reducible first | exact HB.out | apply below_alloc | apply pw_below_drewN | apply below_drew1 | refine below_set ?_ GE103.out | refine below_set ?_ GE111.out) | exact HB.out)⟩
      · have p1b : decide (0 < a0_1) = false := decide_eq_false p1
        clear p1
        have HV : Aside0 (r = 80) := ⟨by rw [HRV2.out, ok2 HKD.out, hno, p1b]; rfl⟩
        go_wp2
        try go_wp2
        go_ret
        exact ⟨by rw [HV.out]; rfl, by repeat (first | (with_reducible first | exact HB.out | apply below_alloc | apply pw_below_drewN | apply below_drew1 | refine below_set ?_ GE103.out | refine below_set ?_ GE111.out) | exact HB.out)⟩
  have k2b : (a0_0 == 2) = false := beq_eq_false_iff_ne.mpr k2
  have k2c : (a0_0 != 2) = true := bne_iff_ne.mpr k2
  by_cases k5 : a0_0 = 5
  · have HKD := Aside0.mk k5
    have k5b : (a0_0 == 5) = true := beq_iff_eq.mpr k5
    have k5c : (a0_0 != 5) = false := bne_eq_false_iff_eq.mpr k5
    clear k5
    cases hno : noneB l0_7 l0_8 with
    | false =>
      have HV : Aside0 (r = 80) := ⟨by rw [HRV2.out, ok5 HKD.out, hno]; rfl⟩
      go_wp2
      try go_wp2
      go_ret
      exact ⟨by rw [HV.out]; rfl, by repeat (first | (with_reducible first | exact HB.out | apply below_alloc | apply pw_below_drewN | apply below_drew1 | refine below_set ?_ GE103.out | refine below_set ?_ GE111.out) | exact HB.out)⟩
    | true =>
      by_cases p1 : 0 < a0_1
      · have p1b : decide (0 < a0_1) = true := decide_eq_true p1
        clear p1
        by_cases p2 : 0 < a0_2
        · have p2b : decide (0 < a0_2) = true := decide_eq_true p2
          clear p2
          by_cases hXt : (a0_3 == 0 && bareB a0_4 a0_5 a0_6) = true
          · have czb : (!(t104 == a0_0) || (!(t105 == a0_1) || (!(t106 == a0_2) || (!(t107 == a0_3) || (!(t108.toList == a0_4.toList) || (!(t109.toList == a0_5.toList) || (!(t110 == a0_6)))))))) = false := by rw [ne5 A16.out, hXt]; rfl
            have HV : Aside0 (r = 0) := ⟨by rw [HRV2.out, ok5 HKD.out, hno, p1b, p2b, hXt]; rfl⟩
            clear hXt
            go_wp2
            try go_wp2
            go_ret
            exact ⟨by rw [HV.out]; rfl, by repeat (first | (with_reducible first | exact HB.out | apply below_alloc | apply pw_below_drewN | apply below_drew1 | refine below_set ?_ GE103.out | refine below_set ?_ GE111.out) | exact HB.out)⟩
          · have hXf : (a0_3 == 0 && bareB a0_4 a0_5 a0_6) = false := by simpa only [Bool.not_eq_true] using hXt
            clear hXt
            have czb : (!(t104 == a0_0) || (!(t105 == a0_1) || (!(t106 == a0_2) || (!(t107 == a0_3) || (!(t108.toList == a0_4.toList) || (!(t109.toList == a0_5.toList) || (!(t110 == a0_6)))))))) = true := by rw [ne5 A16.out, hXf]; rfl
            have HV : Aside0 (r = 80) := ⟨by rw [HRV2.out, ok5 HKD.out, hno, p1b, p2b, hXf]; rfl⟩
            clear hXf
            go_wp2
            try go_wp2
            go_ret
            exact ⟨by rw [HV.out]; rfl, by repeat (first | (with_reducible first | exact HB.out | apply below_alloc | apply pw_below_drewN | apply below_drew1 | refine below_set ?_ GE103.out | refine below_set ?_ GE111.out) | exact HB.out)⟩
        · have p2b : decide (0 < a0_2) = false := decide_eq_false p2
          clear p2
          have HV : Aside0 (r = 80) := ⟨by rw [HRV2.out, ok5 HKD.out, hno, p1b, p2b]; rfl⟩
          go_wp2
          try go_wp2
          go_ret
          exact ⟨by rw [HV.out]; rfl, by repeat (first | (with_reducible first | exact HB.out | apply below_alloc | apply pw_below_drewN | apply below_drew1 | refine below_set ?_ GE103.out | refine below_set ?_ GE111.out) | exact HB.out)⟩
      · have p1b : decide (0 < a0_1) = false := decide_eq_false p1
        clear p1
        have HV : Aside0 (r = 80) := ⟨by rw [HRV2.out, ok5 HKD.out, hno, p1b]; rfl⟩
        go_wp2
        try go_wp2
        go_ret
        exact ⟨by rw [HV.out]; rfl, by repeat (first | (with_reducible first | exact HB.out | apply below_alloc | apply pw_below_drewN | apply below_drew1 | refine below_set ?_ GE103.out | refine below_set ?_ GE111.out) | exact HB.out)⟩
  have k5b : (a0_0 == 5) = false := beq_eq_false_iff_ne.mpr k5
  have k5c : (a0_0 != 5) = true := bne_iff_ne.mpr k5
  by_cases k6 : a0_0 = 6
  · have HKD := Aside0.mk k6
    have k6b : (a0_0 == 6) = true := beq_iff_eq.mpr k6
    have k6c : (a0_0 != 6) = false := bne_eq_false_iff_eq.mpr k6
    clear k6
    cases hno : noneB l0_7 l0_8 with
    | false =>
      have HV : Aside0 (r = 80) := ⟨by rw [HRV2.out, ok6 HKD.out, hno]; rfl⟩
      go_wp2
      have n0_ := Aside0.mk (blk_drew BK103.out)
      have n1_ := Aside0.mk (blk_drew BK111.out)
      have n2_ := Aside0.mk (below_drew1 HB.out)
      clear BK103
      clear BK111
      clear HB
      have BK103 := n0_
      have BK111 := n1_
      have HB := n2_
      clear n0_ n1_ n2_
      refine start_ (n := 9) (S := fun w' => True) (ds := []) #[false, false, false, false, false, false, false, false, false] (by kernel_rfl) rfl rfl trivial (fun hHeld => ?_); refine with_tabW record_Check.tab13 record_Check.bits13 (fun HT_ HW_ => ?_)
      generalize w35.drew = w294 at BK103 BK111 HB hHeld ⊢
      refine pure_ (i := 0) (N := some 80) (v := ?_) (a' := ?_) #[true, false, false, false, false, false, false, false, false] rfl rfl (any_of HT_.out (by kernel_rfl)) (fun _ _ _ h => h) (Or.inl ⟨by rfl, ?_⟩) ?_ ?_
      rotate_left
      ·intro w'
       go_simp
       with_reducible rfl
      rotate_left
      ·simp only [Act.put, List.setIfInBounds_toArray, List.set_cons_zero, List.set_cons_succ, i64_w, i32_w]
       rfl
      refine pure_ (i := 1) (N := some 81) (v := ?_) (a' := ?_) #[true, true, false, false, false, false, false, false, false] rfl rfl (any_of HT_.out (by kernel_rfl)) (fun _ _ _ h => h) (Or.inl ⟨by rfl, ?_⟩) ?_ ?_
      rotate_left
      ·intro w'
       go_simp
       with_reducible rfl
      rotate_left
      ·simp only [Act.put, List.setIfInBounds_toArray, List.set_cons_zero, List.set_cons_succ, i64_w, i32_w]
       rfl
      refine pure_ (i := 2) (N := some 82) (v := undef) (a' := ?_) #[true, true, true, false, false, false, false, false, false] rfl rfl (any_of HT_.out (by kernel_rfl)) (fun _ _ _ h => h) (Or.inr ⟨by rfl, rfl⟩) ?_ ?_
      rotate_left
      ·simp only [Act.put, List.setIfInBounds_toArray, List.set_cons_zero, List.set_cons_succ, i64_w, i32_w]
       rfl
      refine pure_ (i := 3) (N := some 83) (v := undef) (a' := ?_) #[true, true, true, true, false, false, false, false, false] rfl rfl (any_of HT_.out (by kernel_rfl)) (fun _ _ _ h => h) (Or.inr ⟨by rfl, rfl⟩) ?_ ?_
      rotate_left
      ·simp only [Act.put, List.setIfInBounds_toArray, List.set_cons_zero, List.set_cons_succ, i64_w, i32_w]
       rfl
      refine pure_ (i := 4) (N := some 84) (v := undef) (a' := ?_) #[true, true, true, true, true, false, false, false, false] rfl rfl (any_of HT_.out (by kernel_rfl)) (fun _ _ _ h => h) (Or.inr ⟨by rfl, rfl⟩) ?_ ?_
      rotate_left
      ·simp only [Act.put, List.setIfInBounds_toArray, List.set_cons_zero, List.set_cons_succ, i64_w, i32_w]
       rfl
      refine pure_ (i := 5) (N := some 85) (v := ?_) (a' := ?_) #[true, true, true, true, true, true, false, false, false] rfl rfl (any_of HT_.out (by kernel_rfl)) (fun _ _ _ h => h) (Or.inl ⟨by rfl, ?_⟩) ?_ ?_
      rotate_left
      ·intro w'
       go_simp
       with_reducible rfl
      rotate_left
      ·simp only [Act.put, List.setIfInBounds_toArray, List.set_cons_zero, List.set_cons_succ, i64_w, i32_w]
       rfl
      refine pure_ (i := 6) (N := some 86) (v := ?_) (a' := ?_) #[true, true, true, true, true, true, true, false, false] rfl rfl (any_of HT_.out (by kernel_rfl)) (fun _ _ _ h => h) (Or.inl ⟨by rfl, ?_⟩) ?_ ?_
      rotate_left
      ·intro w'
       go_simp
       with_reducible rfl
      rotate_left
      ·simp only [Act.put, List.setIfInBounds_toArray, List.set_cons_zero, List.set_cons_succ, i64_w, i32_w]
       rfl
      refine one_ (i := 7) (N := none) #[true, true, true, true, true, true, true, true, false] rfl rfl (one_of HT_.out (by kernel_rfl)) (by decide) (fun K hK => ?_)
      have hs295 : w294.cell? ⟨gb111, 2, none⟩ = some (.int .i64 t106) := (blk_cell BK111.out 2).trans rfl
      have hfs295 := blk_frozen BK111.out 2
      have hns295_0 := NB103_111.out
      have hms295_0 := NB111_103.out
      refine skip_ (w1 := ?_) (by rfl) rfl ?_ ?_
      rotate_left
      ·go_simp
       rfl
      refine hK.out _ _ trivial (fun hHeld => ?_)
      clear hK K
      refine pure_ (i := 8) (N := some 4) (v := ?_) (a' := ?_) #[true, true, true, true, true, true, true, true, true] rfl rfl (any_of HT_.out (by kernel_rfl)) (fun _ _ _ h => h) (Or.inl ⟨by rfl, ?_⟩) ?_ ?_
      rotate_left
      ·intro w'
       go_simp
       with_reducible rfl
      rotate_left
      ·simp only [Act.put, List.setIfInBounds_toArray, List.set_cons_zero, List.set_cons_succ, i64_w, i32_w]
       rfl
      refine done_ (done_of HT_.out (by kernel_rfl)) ?_
      try go_wp2
      go_ret
      exact ⟨by rw [HV.out]; rfl, by repeat (first | (with_reducible first | exact HB.out | apply below_alloc | apply pw_below_drewN | apply below_drew1 | refine below_set ?_ GE103.out | refine below_set ?_ GE111.out) | exact HB.out)⟩
    | true =>
      by_cases p1 : 0 < a0_1
      · have p1b : decide (0 < a0_1) = true := decide_eq_true p1
        clear p1
        by_cases hXt : (a0_2 == 0 && (a0_3 == 0 && bareB a0_4 a0_5 a0_6)) = true
        · have czb : (!(t104 == a0_0) || (!(t105 == a0_1) || (!(0 == a0_2) || (!(t107 == a0_3) || (!(t108.toList == a0_4.toList) || (!(t109.toList == a0_5.toList) || (!(t110 == a0_6)))))))) = false := by rw [ne6 A16.out, hXt]; rfl
          have HV : Aside0 (r = 0) := ⟨by rw [HRV2.out, ok6 HKD.out, hno, p1b, hXt]; rfl⟩
          clear hXt
          go_wp2
          have n0_ := Aside0.mk (blk_drew BK103.out)
          have n1_ := Aside0.mk (blk_drew BK111.out)
          have n2_ := Aside0.mk (below_drew1 HB.out)
          clear BK103
          clear BK111
          clear HB
          have BK103 := n0_
          have BK111 := n1_
          have HB := n2_
          clear n0_ n1_ n2_
          refine start_ (n := 9) (S := fun w' => w'.cell? ⟨gb103, 0, none⟩ = some (.int .i64 a0_0) ∧ w'.cell? ⟨gb103, 1, none⟩ = some (.int .i64 a0_1) ∧ w'.cell? ⟨gb103, 2, none⟩ = some (.int .i64 a0_2) ∧ w'.cell? ⟨gb103, 3, none⟩ = some (.int .i64 a0_3) ∧ w'.cell? ⟨gb103, 4, none⟩ = some (.string a0_4) ∧ w'.cell? ⟨gb103, 5, none⟩ = some (.string a0_5) ∧ w'.cell? ⟨gb103, 6, none⟩ = some (.bool a0_6) ∧ w'.cell? ⟨gb103, 7, none⟩ = some (.slice A0_7 l0_7.length c0_7) ∧ w'.cell? ⟨gb103, 8, none⟩ = some (.slice A0_8 l0_8.length c0_8)) (ds := []) #[false, false, false, false, false, false, false, false, false] (by kernel_rfl) rfl rfl ⟨(blk_cell BK103.out 0).trans rfl, (blk_cell BK103.out 1).trans rfl, (blk_cell BK103.out 2).trans rfl, (blk_cell BK103.out 3).trans rfl, (blk_cell BK103.out 4).trans rfl, (blk_cell BK103.out 5).trans rfl, (blk_cell BK103.out 6).trans rfl, (blk_cell BK103.out 7).trans rfl, (blk_cell BK103.out 8).trans rfl⟩ (fun hHeld => ?_); refine with_tabW record_Check.tab13 record_Check.bits13 (fun HT_ HW_ => ?_)
          generalize w35.drew = w242 at BK103 BK111 HB hHeld ⊢
          refine pure_ (i := 0) (N := some 80) (v := ?_) (a' := ?_) #[true, false, false, false, false, false, false, false, false] rfl rfl (any_of HT_.out (by kernel_rfl)) (fun _ _ _ h => h) (Or.inl ⟨by rfl, ?_⟩) ?_ ?_
          rotate_left
          ·intro w'
           go_simp
           with_reducible rfl
          rotate_left
          ·simp only [Act.put, List.setIfInBounds_toArray, List.set_cons_zero, List.set_cons_succ, i64_w, i32_w]
           rfl
          refine pure_ (i := 1) (N := some 81) (v := ?_) (a' := ?_) #[true, true, false, false, false, false, false, false, false] rfl rfl (any_of HT_.out (by kernel_rfl)) (fun _ _ _ h => h) (Or.inl ⟨by rfl, ?_⟩) ?_ ?_
          rotate_left
          ·intro w'
           go_simp
           with_reducible rfl
          rotate_left
          ·simp only [Act.put, List.setIfInBounds_toArray, List.set_cons_zero, List.set_cons_succ, i64_w, i32_w]
           rfl
          refine pure_ (i := 2) (N := some 82) (v := ?_) (a' := ?_) #[true, true, true, false, false, false, false, false, false] rfl rfl (any_of HT_.out (by kernel_rfl)) (fun _ _ _ h => h) (Or.inl ⟨by rfl, ?_⟩) ?_ ?_
          rotate_left
          ·intro w'
           go_simp
           with_reducible rfl
          rotate_left
          ·simp only [Act.put, List.setIfInBounds_toArray, List.set_cons_zero, List.set_cons_succ, i64_w, i32_w]
           rfl
          refine pure_ (i := 6) (N := some 86) (v := ?_) (a' := ?_) #[true, true, true, false, false, false, true, false, false] rfl rfl (any_of HT_.out (by kernel_rfl)) (fun _ _ _ h => h) (Or.inl ⟨by rfl, ?_⟩) ?_ ?_
          rotate_left
          ·intro w'
           go_simp
           with_reducible rfl
          rotate_left
          ·simp only [Act.put, List.setIfInBounds_toArray, List.set_cons_zero, List.set_cons_succ, i64_w, i32_w]
           rfl
          refine take_ (i := 3) (N := some 83) (v := ?_) (a' := ?_) #[true, true, true, true, false, false, true, false, false] rfl rfl (take_ofW HT_.out HW_.out (by kernel_rfl)) (fun _ _ _ h => h) (Or.inl ⟨by rfl, ?_⟩) hHeld ?_ ?_
          rotate_left
          ·rintro w' ⟨s0, s1, s2, s3, s4, s5, s6, s7, s8⟩
           go_simp
           with_reducible rfl
          rotate_left
          ·simp only [Act.put, List.setIfInBounds_toArray, List.set_cons_zero, List.set_cons_succ, i64_w, i32_w]
           rfl
          refine pure_ (i := 4) (N := some 84) (v := ?_) (a' := ?_) #[true, true, true, true, true, false, true, false, false] rfl rfl (any_of HT_.out (by kernel_rfl)) (fun _ _ _ h => h) (Or.inl ⟨by rfl, ?_⟩) ?_ ?_
          rotate_left
          ·intro w'
           go_simp
           with_reducible rfl
          rotate_left
          ·simp only [Act.put, List.setIfInBounds_toArray, List.set_cons_zero, List.set_cons_succ, i64_w, i32_w]
           rfl
          refine pure_ (i := 5) (N := some 85) (v := ?_) (a' := ?_) #[true, true, true, true, true, true, true, false, false] rfl rfl (any_of HT_.out (by kernel_rfl)) (fun _ _ _ h => h) (Or.inl ⟨by rfl, ?_⟩) ?_ ?_
          rotate_left
          ·intro w'
           go_simp
           with_reducible rfl
          rotate_left
          ·simp only [Act.put, List.setIfInBounds_toArray, List.set_cons_zero, List.set_cons_succ, i64_w, i32_w]
           rfl
          refine one_ (i := 7) (N := none) #[true, true, true, true, true, true, true, true, false] rfl rfl (one_of HT_.out (by kernel_rfl)) (by decide) (fun K hK => ?_)
          have hs243 : w242.cell? ⟨gb111, 2, none⟩ = some (.int .i64 t106) := (blk_cell BK111.out 2).trans rfl
          have hfs243 := blk_frozen BK111.out 2
          have hns243_0 := NB103_111.out
          have hms243_0 := NB111_103.out
          refine skip_ (w1 := ?_) (by rfl) rfl ?_ ?_
          rotate_left
          ·go_simp
           rfl
          refine hK.out _ _ ⟨((cell_far (p := ⟨gb111, _, none⟩) NB103_111.out _).trans (hHeld.1)), ((cell_far (p := ⟨gb111, _, none⟩) NB103_111.out _).trans (hHeld.2.1)), ((cell_far (p := ⟨gb111, _, none⟩) NB103_111.out _).trans (hHeld.2.2.1)), ((cell_far (p := ⟨gb111, _, none⟩) NB103_111.out _).trans (hHeld.2.2.2.1)), ((cell_far (p := ⟨gb111, _, none⟩) NB103_111.out _).trans (hHeld.2.2.2.2.1)), ((cell_far (p := ⟨gb111, _, none⟩) NB103_111.out _).trans (hHeld.2.2.2.2.2.1)), ((cell_far (p := ⟨gb111, _, none⟩) NB103_111.out _).trans (hHeld.2.2.2.2.2.2.1)), ((cell_far (p := ⟨gb111, _, none⟩) NB103_111.out _).trans (hHeld.2.2.2.2.2.2.2.1)), ((cell_far (p := ⟨gb111, _, none⟩) NB103_111.out _).trans (hHeld.2.2.2.2.2.2.2.2))⟩ (fun hHeld => ?_)
          clear hK K
          refine pure_ (i := 8) (N := some 4) (v := ?_) (a' := ?_) #[true, true, true, true, true, true, true, true, true] rfl rfl (any_of HT_.out (by kernel_rfl)) (fun _ _ _ h => h) (Or.inl ⟨by rfl, ?_⟩) ?_ ?_
          rotate_left
          ·intro w'
           go_simp
           with_reducible rfl
          rotate_left
          ·simp only [Act.put, List.setIfInBounds_toArray, List.set_cons_zero, List.set_cons_succ, i64_w, i32_w]
           rfl
          refine done_ (done_of HT_.out (by kernel_rfl)) ?_
          have hcz244_0 : w242.cell? ⟨gb111, 0, none⟩ = some (.int .i64 t104) := (blk_cell BK111.out 0).trans rfl
          have hcz244_1 : w242.cell? ⟨gb111, 1, none⟩ = some (.int .i64 t105) := (blk_cell BK111.out 1).trans rfl
          have hcz244_2 : w242.cell? ⟨gb111, 2, none⟩ = some (.int .i64 t106) := (blk_cell BK111.out 2).trans rfl
          have hcz244_3 : w242.cell? ⟨gb111, 3, none⟩ = some (.int .i64 t107) := (blk_cell BK111.out 3).trans rfl
          have hcz244_4 : w242.cell? ⟨gb111, 4, none⟩ = some (.string t108) := (blk_cell BK111.out 4).trans rfl
          have hcz244_5 : w242.cell? ⟨gb111, 5, none⟩ = some (.string t109) := (blk_cell BK111.out 5).trans rfl
          have hcz244_6 : w242.cell? ⟨gb111, 6, none⟩ = some (.bool t110) := (blk_cell BK111.out 6).trans rfl
          have hfz244_0 := blk_frozen BK111.out 0
          have hfz244_1 := blk_frozen BK111.out 1
          have hfz244_2 := blk_frozen BK111.out 2
          have hfz244_3 := blk_frozen BK111.out 3
          have hfz244_4 := blk_frozen BK111.out 4
          have hfz244_5 := blk_frozen BK111.out 5
          have hfz244_6 := blk_frozen BK111.out 6
          have hcz245_0 : w242.cell? ⟨gb103, 0, none⟩ = some (.int .i64 a0_0) := (blk_cell BK103.out 0).trans rfl
          have hcz245_1 : w242.cell? ⟨gb103, 1, none⟩ = some (.int .i64 a0_1) := (blk_cell BK103.out 1).trans rfl
          have hcz245_2 : w242.cell? ⟨gb103, 2, none⟩ = some (.int .i64 a0_2) := (blk_cell BK103.out 2).trans rfl
          have hcz245_3 : w242.cell? ⟨gb103, 3, none⟩ = some (.int .i64 a0_3) := (blk_cell BK103.out 3).trans rfl
          have hcz245_4 : w242.cell? ⟨gb103, 4, none⟩ = some (.string a0_4) := (blk_cell BK103.out 4).trans rfl
          have hcz245_5 : w242.cell? ⟨gb103, 5, none⟩ = some (.string a0_5) := (blk_cell BK103.out 5).trans rfl
          have hcz245_6 : w242.cell? ⟨gb103, 6, none⟩ = some (.bool a0_6) := (blk_cell BK103.out 6).trans rfl
          have hcz245_7 : w242.cell? ⟨gb103, 7, none⟩ = some (.slice A0_7 l0_7.length c0_7) := (blk_cell BK103.out 7).trans rfl
          have hcz245_8 : w242.cell? ⟨gb103, 8, none⟩ = some (.slice A0_8 l0_8.length c0_8) := (blk_cell BK103.out 8).trans rfl
          have hfz245_0 := blk_frozen BK103.out 0
          have hfz245_1 := blk_frozen BK103.out 1
          have hfz245_2 := blk_frozen BK103.out 2
          have hfz245_3 := blk_frozen BK103.out 3
          have hfz245_4 := blk_frozen BK103.out 4
          have hfz245_5 := blk_frozen BK103.out 5
          have hfz245_6 := blk_frozen BK103.out 6
          have hfz245_7 := blk_frozen BK103.out 7
          have hfz245_8 := blk_frozen BK103.out 8
          try go_wp2
          go_ret
          exact ⟨by rw [HV.out]; rfl, by repeat (first | (with_reducible first | exact HB.out | apply below_alloc | apply pw_below_drewN | apply below_drew1 | refine below_set ?_ GE103.out | refine below_set ?_ GE111.out) | exact HB.out)⟩
        · have hXf : (a0_2 == 0 && (a0_3 == 0 && bareB a0_4 a0_5 a0_6)) = false := by simpa only [Bool.not_eq_true] using hXt
          clear hXt
          have czb : (!(t104 == a0_0) || (!(t105 == a0_1) || (!(0 == a0_2) || (!(t107 == a0_3) || (!(t108.toList == a0_4.toList) || (!(t109.toList == a0_5.toList) || (!(t110 == a0_6)))))))) = true := by rw [ne6 A16.out, hXf]; rfl
          have HV : Aside0 (r = 80) := ⟨by rw [HRV2.out, ok6 HKD.out, hno, p1b, hXf]; rfl⟩
          clear hXf
          go_wp2
          have n0_ := Aside0.mk (blk_drew BK103.out)
          have n1_ := Aside0.mk (blk_drew BK111.out)
          have n2_ := Aside0.mk (below_drew1 HB.out)
          clear BK103
          clear BK111
          clear HB
          have BK103 := n0_
          have BK111 := n1_
          have HB := n2_
          clear n0_ n1_ n2_
          refine start_ (n := 9) (S := fun w' => w'.cell? ⟨gb103, 0, none⟩ = some (.int .i64 a0_0) ∧ w'.cell? ⟨gb103, 1, none⟩ = some (.int .i64 a0_1) ∧ w'.cell? ⟨gb103, 2, none⟩ = some (.int .i64 a0_2) ∧ w'.cell? ⟨gb103, 3, none⟩ = some (.int .i64 a0_3) ∧ w'.cell? ⟨gb103, 4, none⟩ = some (.string a0_4) ∧ w'.cell? ⟨gb103, 5, none⟩ = some (.string a0_5) ∧ w'.cell? ⟨gb103, 6, none⟩ = some (.bool a0_6) ∧ w'.cell? ⟨gb103, 7, none⟩ = some (.slice A0_7 l0_7.length c0_7) ∧ w'.cell? ⟨gb103, 8, none⟩ = some (.slice A0_8 l0_8.length c0_8)) (ds := []) #[false, false, false, false, false, false, false, false, false] (by kernel_rfl) rfl rfl ⟨(blk_cell BK103.out 0).trans rfl, (blk_cell BK103.out 1).trans rfl, (blk_cell BK103.out 2).trans rfl, (blk_cell BK103.out 3).trans rfl, (blk_cell BK103.out 4).trans rfl, (blk_cell BK103.out 5).trans rfl, (blk_cell BK103.out 6).trans rfl, (blk_cell BK103.out 7).trans rfl, (blk_cell BK103.out 8).trans rfl⟩ (fun hHeld => ?_); refine with_tabW record_Check.tab13 record_Check.bits13 (fun HT_ HW_ => ?_)
          generalize w35.drew = w242 at BK103 BK111 HB hHeld ⊢
          refine pure_ (i := 0) (N := some 80) (v := ?_) (a' := ?_) #[true, false, false, false, false, false, false, false, false] rfl rfl (any_of HT_.out (by kernel_rfl)) (fun _ _ _ h => h) (Or.inl ⟨by rfl, ?_⟩) ?_ ?_
          rotate_left
          ·intro w'
           go_simp
           with_reducible rfl
          rotate_left
          ·simp only [Act.put, List.setIfInBounds_toArray, List.set_cons_zero, List.set_cons_succ, i64_w, i32_w]
           rfl
          refine pure_ (i := 1) (N := some 81) (v := ?_) (a' := ?_) #[true, true, false, false, false, false, false, false, false] rfl rfl (any_of HT_.out (by kernel_rfl)) (fun _ _ _ h => h) (Or.inl ⟨by rfl, ?_⟩) ?_ ?_
          rotate_left
          ·intro w'
           go_simp
           with_reducible rfl
          rotate_left
          ·simp only [Act.put, List.setIfInBounds_toArray, List.set_cons_zero, List.set_cons_succ, i64_w, i32_w]
           rfl
          refine pure_ (i := 2) (N := some 82) (v := ?_) (a' := ?_) #[true, true, true, false, false, false, false, false, false] rfl rfl (any_of HT_.out (by kernel_rfl)) (fun _ _ _ h => h) (Or.inl ⟨by rfl, ?_⟩) ?_ ?_
          rotate_left
          ·intro w'
           go_simp
           with_reducible rfl
          rotate_left
          ·simp only [Act.put, List.setIfInBounds_toArray, List.set_cons_zero, List.set_cons_succ, i64_w, i32_w]
           rfl
          refine pure_ (i := 6) (N := some 86) (v := ?_) (a' := ?_) #[true, true, true, false, false, false, true, false, false] rfl rfl (any_of HT_.out (by kernel_rfl)) (fun _ _ _ h => h) (Or.inl ⟨by rfl, ?_⟩) ?_ ?_
          rotate_left
          ·intro w'
           go_simp
           with_reducible rfl
          rotate_left
          ·simp only [Act.put, List.setIfInBounds_toArray, List.set_cons_zero, List.set_cons_succ, i64_w, i32_w]
           rfl
          refine take_ (i := 3) (N := some 83) (v := ?_) (a' := ?_) #[true, true, true, true, false, false, true, false, false] rfl rfl (take_ofW HT_.out HW_.out (by kernel_rfl)) (fun _ _ _ h => h) (Or.inl ⟨by rfl, ?_⟩) hHeld ?_ ?_
          rotate_left
          ·rintro w' ⟨s0, s1, s2, s3, s4, s5, s6, s7, s8⟩
           go_simp
           with_reducible rfl
          rotate_left
          ·simp only [Act.put, List.setIfInBounds_toArray, List.set_cons_zero, List.set_cons_succ, i64_w, i32_w]
           rfl
          refine pure_ (i := 4) (N := some 84) (v := ?_) (a' := ?_) #[true, true, true, true, true, false, true, false, false] rfl rfl (any_of HT_.out (by kernel_rfl)) (fun _ _ _ h => h) (Or.inl ⟨by rfl, ?_⟩) ?_ ?_
          rotate_left
          ·intro w'
           go_simp
           with_reducible rfl
          rotate_left
          ·simp only [Act.put, List.setIfInBounds_toArray, List.set_cons_zero, List.set_cons_succ, i64_w, i32_w]
           rfl
          refine pure_ (i := 5) (N := some 85) (v := ?_) (a' := ?_) #[true, true, true, true, true, true, true, false, false] rfl rfl (any_of HT_.out (by kernel_rfl)) (fun _ _ _ h => h) (Or.inl ⟨by rfl, ?_⟩) ?_ ?_
          rotate_left
          ·intro w'
           go_simp
           with_reducible rfl
          rotate_left
          ·simp only [Act.put, List.setIfInBounds_toArray, List.set_cons_zero, List.set_cons_succ, i64_w, i32_w]
           rfl
          refine one_ (i := 7) (N := none) #[true, true, true, true, true, true, true, true, false] rfl rfl (one_of HT_.out (by kernel_rfl)) (by decide) (fun K hK => ?_)
          have hs243 : w242.cell? ⟨gb111, 2, none⟩ = some (.int .i64 t106) := (blk_cell BK111.out 2).trans rfl
          have hfs243 := blk_frozen BK111.out 2
          have hns243_0 := NB103_111.out
          have hms243_0 := NB111_103.out
          refine skip_ (w1 := ?_) (by rfl) rfl ?_ ?_
          rotate_left
          ·go_simp
           rfl
          refine hK.out _ _ ⟨((cell_far (p := ⟨gb111, _, none⟩) NB103_111.out _).trans (hHeld.1)), ((cell_far (p := ⟨gb111, _, none⟩) NB103_111.out _).trans (hHeld.2.1)), ((cell_far (p := ⟨gb111, _, none⟩) NB103_111.out _).trans (hHeld.2.2.1)), ((cell_far (p := ⟨gb111, _, none⟩) NB103_111.out _).trans (hHeld.2.2.2.1)), ((cell_far (p := ⟨gb111, _, none⟩) NB103_111.out _).trans (hHeld.2.2.2.2.1)), ((cell_far (p := ⟨gb111, _, none⟩) NB103_111.out _).trans (hHeld.2.2.2.2.2.1)), ((cell_far (p := ⟨gb111, _, none⟩) NB103_111.out _).trans (hHeld.2.2.2.2.2.2.1)), ((cell_far (p := ⟨gb111, _, none⟩) NB103_111.out _).trans (hHeld.2.2.2.2.2.2.2.1)), ((cell_far (p := ⟨gb111, _, none⟩) NB103_111.out _).trans (hHeld.2.2.2.2.2.2.2.2))⟩ (fun hHeld => ?_)
          clear hK K
          refine pure_ (i := 8) (N := some 4) (v := ?_) (a' := ?_) #[true, true, true, true, true, true, true, true, true] rfl rfl (any_of HT_.out (by kernel_rfl)) (fun _ _ _ h => h) (Or.inl ⟨by rfl, ?_⟩) ?_ ?_
          rotate_left
          ·intro w'
           go_simp
           with_reducible rfl
          rotate_left
          ·simp only [Act.put, List.setIfInBounds_toArray, List.set_cons_zero, List.set_cons_succ, i64_w, i32_w]
           rfl
          refine done_ (done_of HT_.out (by kernel_rfl)) ?_
          have hcz244_0 : w242.cell? ⟨gb111, 0, none⟩ = some (.int .i64 t104) := (blk_cell BK111.out 0).trans rfl
          have hcz244_1 : w242.cell? ⟨gb111, 1, none⟩ = some (.int .i64 t105) := (blk_cell BK111.out 1).trans rfl
          have hcz244_2 : w242.cell? ⟨gb111, 2, none⟩ = some (.int .i64 t106) := (blk_cell BK111.out 2).trans rfl
          have hcz244_3 : w242.cell? ⟨gb111, 3, none⟩ = some (.int .i64 t107) := (blk_cell BK111.out 3).trans rfl
          have hcz244_4 : w242.cell? ⟨gb111, 4, none⟩ = some (.string t108) := (blk_cell BK111.out 4).trans rfl
          have hcz244_5 : w242.cell? ⟨gb111, 5, none⟩ = some (.string t109) := (blk_cell BK111.out 5).trans rfl
          have hcz244_6 : w242.cell? ⟨gb111, 6, none⟩ = some (.bool t110) := (blk_cell BK111.out 6).trans rfl
          have hfz244_0 := blk_frozen BK111.out 0
          have hfz244_1 := blk_frozen BK111.out 1
          have hfz244_2 := blk_frozen BK111.out 2
          have hfz244_3 := blk_frozen BK111.out 3
          have hfz244_4 := blk_frozen BK111.out 4
          have hfz244_5 := blk_frozen BK111.out 5
          have hfz244_6 := blk_frozen BK111.out 6
          have hcz245_0 : w242.cell? ⟨gb103, 0, none⟩ = some (.int .i64 a0_0) := (blk_cell BK103.out 0).trans rfl
          have hcz245_1 : w242.cell? ⟨gb103, 1, none⟩ = some (.int .i64 a0_1) := (blk_cell BK103.out 1).trans rfl
          have hcz245_2 : w242.cell? ⟨gb103, 2, none⟩ = some (.int .i64 a0_2) := (blk_cell BK103.out 2).trans rfl
          have hcz245_3 : w242.cell? ⟨gb103, 3, none⟩ = some (.int .i64 a0_3) := (blk_cell BK103.out 3).trans rfl
          have hcz245_4 : w242.cell? ⟨gb103, 4, none⟩ = some (.string a0_4) := (blk_cell BK103.out 4).trans rfl
          have hcz245_5 : w242.cell? ⟨gb103, 5, none⟩ = some (.string a0_5) := (blk_cell BK103.out 5).trans rfl
          have hcz245_6 : w242.cell? ⟨gb103, 6, none⟩ = some (.bool a0_6) := (blk_cell BK103.out 6).trans rfl
          have hcz245_7 : w242.cell? ⟨gb103, 7, none⟩ = some (.slice A0_7 l0_7.length c0_7) := (blk_cell BK103.out 7).trans rfl
          have hcz245_8 : w242.cell? ⟨gb103, 8, none⟩ = some (.slice A0_8 l0_8.length c0_8) := (blk_cell BK103.out 8).trans rfl
          have hfz245_0 := blk_frozen BK103.out 0
          have hfz245_1 := blk_frozen BK103.out 1
          have hfz245_2 := blk_frozen BK103.out 2
          have hfz245_3 := blk_frozen BK103.out 3
          have hfz245_4 := blk_frozen BK103.out 4
          have hfz245_5 := blk_frozen BK103.out 5
          have hfz245_6 := blk_frozen BK103.out 6
          have hfz245_7 := blk_frozen BK103.out 7
          have hfz245_8 := blk_frozen BK103.out 8
          try go_wp2
          go_ret
          exact ⟨by rw [HV.out]; rfl, by repeat (first | (with_reducible first | exact HB.out | apply below_alloc | apply pw_below_drewN | apply below_drew1 | refine below_set ?_ GE103.out | refine below_set ?_ GE111.out) | exact HB.out)⟩
      · have p1b : decide (0 < a0_1) = false := decide_eq_false p1
        clear p1
        have HV : Aside0 (r = 80) := ⟨by rw [HRV2.out, ok6 HKD.out, hno, p1b]; rfl⟩
        go_wp2
        have n0_ := Aside0.mk (blk_drew BK103.out)
        have n1_ := Aside0.mk (blk_drew BK111.out)
        have n2_ := Aside0.mk (below_drew1 HB.out)
        clear BK103
        clear BK111
        clear HB
        have BK103 := n0_
        have BK111 := n1_
        have HB := n2_
        clear n0_ n1_ n2_
        refine start_ (n := 9) (S := fun w' => w'.cell? ⟨gb103, 0, none⟩ = some (.int .i64 a0_0) ∧ w'.cell? ⟨gb103, 1, none⟩ = some (.int .i64 a0_1) ∧ w'.cell? ⟨gb103, 2, none⟩ = some (.int .i64 a0_2) ∧ w'.cell? ⟨gb103, 3, none⟩ = some (.int .i64 a0_3) ∧ w'.cell? ⟨gb103, 4, none⟩ = some (.string a0_4) ∧ w'.cell? ⟨gb103, 5, none⟩ = some (.string a0_5) ∧ w'.cell? ⟨gb103, 6, none⟩ = some (.bool a0_6) ∧ w'.cell? ⟨gb103, 7, none⟩ = some (.slice A0_7 l0_7.length c0_7) ∧ w'.cell? ⟨gb103, 8, none⟩ = some (.slice A0_8 l0_8.length c0_8)) (ds := []) #[false, false, false, false, false, false, false, false, false] (by kernel_rfl) rfl rfl ⟨(blk_cell BK103.out 0).trans rfl, (blk_cell BK103.out 1).trans rfl, (blk_cell BK103.out 2).trans rfl, (blk_cell BK103.out 3).trans rfl, (blk_cell BK103.out 4).trans rfl, (blk_cell BK103.out 5).trans rfl, (blk_cell BK103.out 6).trans rfl, (blk_cell BK103.out 7).trans rfl, (blk_cell BK103.out 8).trans rfl⟩ (fun hHeld => ?_); refine with_tabW record_Check.tab13 record_Check.bits13 (fun HT_ HW_ => ?_)
        generalize w35.drew = w242 at BK103 BK111 HB hHeld ⊢
        refine pure_ (i := 0) (N := some 80) (v := ?_) (a' := ?_) #[true, false, false, false, false, false, false, false, false] rfl rfl (any_of HT_.out (by kernel_rfl)) (fun _ _ _ h => h) (Or.inl ⟨by rfl, ?_⟩) ?_ ?_
        rotate_left
        ·intro w'
         go_simp
         with_reducible rfl
        rotate_left
        ·simp only [Act.put, List.setIfInBounds_toArray, List.set_cons_zero, List.set_cons_succ, i64_w, i32_w]
         rfl
        refine pure_ (i := 1) (N := some 81) (v := ?_) (a' := ?_) #[true, true, false, false, false, false, false, false, false] rfl rfl (any_of HT_.out (by kernel_rfl)) (fun _ _ _ h => h) (Or.inl ⟨by rfl, ?_⟩) ?_ ?_
        rotate_left
        ·intro w'
         go_simp
         with_reducible rfl
        rotate_left
        ·simp only [Act.put, List.setIfInBounds_toArray, List.set_cons_zero, List.set_cons_succ, i64_w, i32_w]
         rfl
        refine pure_ (i := 2) (N := some 82) (v := ?_) (a' := ?_) #[true, true, true, false, false, false, false, false, false] rfl rfl (any_of HT_.out (by kernel_rfl)) (fun _ _ _ h => h) (Or.inl ⟨by rfl, ?_⟩) ?_ ?_
        rotate_left
        ·intro w'
         go_simp
         with_reducible rfl
        rotate_left
        ·simp only [Act.put, List.setIfInBounds_toArray, List.set_cons_zero, List.set_cons_succ, i64_w, i32_w]
         rfl
        refine pure_ (i := 6) (N := some 86) (v := ?_) (a' := ?_) #[true, true, true, false, false, false, true, false, false] rfl rfl (any_of HT_.out (by kernel_rfl)) (fun _ _ _ h => h) (Or.inl ⟨by rfl, ?_⟩) ?_ ?_
        rotate_left
        ·intro w'
         go_simp
         with_reducible rfl
        rotate_left
        ·simp only [Act.put, List.setIfInBounds_toArray, List.set_cons_zero, List.set_cons_succ, i64_w, i32_w]
         rfl
        refine take_ (i := 3) (N := some 83) (v := ?_) (a' := ?_) #[true, true, true, true, false, false, true, false, false] rfl rfl (take_ofW HT_.out HW_.out (by kernel_rfl)) (fun _ _ _ h => h) (Or.inl ⟨by rfl, ?_⟩) hHeld ?_ ?_
        rotate_left
        ·rintro w' ⟨s0, s1, s2, s3, s4, s5, s6, s7, s8⟩
         go_simp
         with_reducible rfl
        rotate_left
        ·simp only [Act.put, List.setIfInBounds_toArray, List.set_cons_zero, List.set_cons_succ, i64_w, i32_w]
         rfl
        refine pure_ (i := 4) (N := some 84) (v := ?_) (a' := ?_) #[true, true, true, true, true, false, true, false, false] rfl rfl (any_of HT_.out (by kernel_rfl)) (fun _ _ _ h => h) (Or.inl ⟨by rfl, ?_⟩) ?_ ?_
        rotate_left
        ·intro w'
         go_simp
         with_reducible rfl
        rotate_left
        ·simp only [Act.put, List.setIfInBounds_toArray, List.set_cons_zero, List.set_cons_succ, i64_w, i32_w]
         rfl
        refine pure_ (i := 5) (N := some 85) (v := ?_) (a' := ?_) #[true, true, true, true, true, true, true, false, false] rfl rfl (any_of HT_.out (by kernel_rfl)) (fun _ _ _ h => h) (Or.inl ⟨by rfl, ?_⟩) ?_ ?_
        rotate_left
        ·intro w'
         go_simp
         with_reducible rfl
        rotate_left
        ·simp only [Act.put, List.setIfInBounds_toArray, List.set_cons_zero, List.set_cons_succ, i64_w, i32_w]
         rfl
        refine one_ (i := 7) (N := none) #[true, true, true, true, true, true, true, true, false] rfl rfl (one_of HT_.out (by kernel_rfl)) (by decide) (fun K hK => ?_)
        have hs243 : w242.cell? ⟨gb111, 2, none⟩ = some (.int .i64 t106) := (blk_cell BK111.out 2).trans rfl
        have hfs243 := blk_frozen BK111.out 2
        have hns243_0 := NB103_111.out
        have hms243_0 := NB111_103.out
        refine skip_ (w1 := ?_) (by rfl) rfl ?_ ?_
        rotate_left
        ·go_simp
         rfl
        refine hK.out _ _ ⟨((cell_far (p := ⟨gb111, _, none⟩) NB103_111.out _).trans (hHeld.1)), ((cell_far (p := ⟨gb111, _, none⟩) NB103_111.out _).trans (hHeld.2.1)), ((cell_far (p := ⟨gb111, _, none⟩) NB103_111.out _).trans (hHeld.2.2.1)), ((cell_far (p := ⟨gb111, _, none⟩) NB103_111.out _).trans (hHeld.2.2.2.1)), ((cell_far (p := ⟨gb111, _, none⟩) NB103_111.out _).trans (hHeld.2.2.2.2.1)), ((cell_far (p := ⟨gb111, _, none⟩) NB103_111.out _).trans (hHeld.2.2.2.2.2.1)), ((cell_far (p := ⟨gb111, _, none⟩) NB103_111.out _).trans (hHeld.2.2.2.2.2.2.1)), ((cell_far (p := ⟨gb111, _, none⟩) NB103_111.out _).trans (hHeld.2.2.2.2.2.2.2.1)), ((cell_far (p := ⟨gb111, _, none⟩) NB103_111.out _).trans (hHeld.2.2.2.2.2.2.2.2))⟩ (fun hHeld => ?_)
        clear hK K
        refine pure_ (i := 8) (N := some 4) (v := ?_) (a' := ?_) #[true, true, true, true, true, true, true, true, true] rfl rfl (any_of HT_.out (by kernel_rfl)) (fun _ _ _ h => h) (Or.inl ⟨by rfl, ?_⟩) ?_ ?_
        rotate_left
        ·intro w'
         go_simp
         with_reducible rfl
        rotate_left
        ·simp only [Act.put, List.setIfInBounds_toArray, List.set_cons_zero, List.set_cons_succ, i64_w, i32_w]
         rfl
        refine done_ (done_of HT_.out (by kernel_rfl)) ?_
        have hcz244_0 : w242.cell? ⟨gb111, 0, none⟩ = some (.int .i64 t104) := (blk_cell BK111.out 0).trans rfl
        have hcz244_1 : w242.cell? ⟨gb111, 1, none⟩ = some (.int .i64 t105) := (blk_cell BK111.out 1).trans rfl
        have hcz244_2 : w242.cell? ⟨gb111, 2, none⟩ = some (.int .i64 t106) := (blk_cell BK111.out 2).trans rfl
        have hcz244_3 : w242.cell? ⟨gb111, 3, none⟩ = some (.int .i64 t107) := (blk_cell BK111.out 3).trans rfl
        have hcz244_4 : w242.cell? ⟨gb111, 4, none⟩ = some (.string t108) := (blk_cell BK111.out 4).trans rfl
        have hcz244_5 : w242.cell? ⟨gb111, 5, none⟩ = some (.string t109) := (blk_cell BK111.out 5).trans rfl
        have hcz244_6 : w242.cell? ⟨gb111, 6, none⟩ = some (.bool t110) := (blk_cell BK111.out 6).trans rfl
        have hfz244_0 := blk_frozen BK111.out 0
        have hfz244_1 := blk_frozen BK111.out 1
        have hfz244_2 := blk_frozen BK111.out 2
        have hfz244_3 := blk_frozen BK111.out 3
        have hfz244_4 := blk_frozen BK111.out 4
        have hfz244_5 := blk_frozen BK111.out 5
        have hfz244_6 := blk_frozen BK111.out 6
        have hcz245_0 : w242.cell? ⟨gb103, 0, none⟩ = some (.int .i64 a0_0) := (blk_cell BK103.out 0).trans rfl
        have hcz245_1 : w242.cell? ⟨gb103, 1, none⟩ = some (.int .i64 a0_1) := (blk_cell BK103.out 1).trans rfl
        have hcz245_2 : w242.cell? ⟨gb103, 2, none⟩ = some (.int .i64 a0_2) := (blk_cell BK103.out 2).trans rfl
        have hcz245_3 : w242.cell? ⟨gb103, 3, none⟩ = some (.int .i64 a0_3) := (blk_cell BK103.out 3).trans rfl
        have hcz245_4 : w242.cell? ⟨gb103, 4, none⟩ = some (.string a0_4) := (blk_cell BK103.out 4).trans rfl
        have hcz245_5 : w242.cell? ⟨gb103, 5, none⟩ = some (.string a0_5) := (blk_cell BK103.out 5).trans rfl
        have hcz245_6 : w242.cell? ⟨gb103, 6, none⟩ = some (.bool a0_6) := (blk_cell BK103.out 6).trans rfl
        have hcz245_7 : w242.cell? ⟨gb103, 7, none⟩ = some (.slice A0_7 l0_7.length c0_7) := (blk_cell BK103.out 7).trans rfl
        have hcz245_8 : w242.cell? ⟨gb103, 8, none⟩ = some (.slice A0_8 l0_8.length c0_8) := (blk_cell BK103.out 8).trans rfl
        have hfz245_0 := blk_frozen BK103.out 0
        have hfz245_1 := blk_frozen BK103.out 1
        have hfz245_2 := blk_frozen BK103.out 2
        have hfz245_3 := blk_frozen BK103.out 3
        have hfz245_4 := blk_frozen BK103.out 4
        have hfz245_5 := blk_frozen BK103.out 5
        have hfz245_6 := blk_frozen BK103.out 6
        have hfz245_7 := blk_frozen BK103.out 7
        have hfz245_8 := blk_frozen BK103.out 8
        try go_wp2
        go_ret
        exact ⟨by rw [HV.out]; rfl, by repeat (first | (with_reducible first | exact HB.out | apply below_alloc | apply pw_below_drewN | apply below_drew1 | refine below_set ?_ GE103.out | refine below_set ?_ GE111.out) | exact HB.out)⟩
  have k6b : (a0_0 == 6) = false := beq_eq_false_iff_ne.mpr k6
  have k6c : (a0_0 != 6) = true := bne_iff_ne.mpr k6
  by_cases k3 : a0_0 = 3
  · have HKD := Aside0.mk k3
    have k3b : (a0_0 == 3) = true := beq_iff_eq.mpr k3
    have k3c : (a0_0 != 3) = false := bne_eq_false_iff_eq.mpr k3
    clear k3
    cases hno : noneB l0_7 l0_8 with
    | false =>
      have HV : Aside0 (r = 80) := ⟨by rw [HRV2.out, ok3 HKD.out, hno]; rfl⟩
      go_wp2
      try go_wp2
      go_ret
      exact ⟨by rw [HV.out]; rfl, by repeat (first | (with_reducible first | exact HB.out | apply below_alloc | apply pw_below_drewN | apply below_drew1 | refine below_set ?_ GE103.out | refine below_set ?_ GE111.out) | exact HB.out)⟩
    | true =>
      by_cases p2 : 0 < a0_2
      · have p2b : decide (0 < a0_2) = true := decide_eq_true p2
        clear p2
        obtain ⟨t142, A2990⟩ : ∃ t142, letter_Key.f a0_4 = some t142 := ⟨_, key_f a0_4⟩
        have hk4 : keyB a0_4 = t142 := by have h := A2990; rw [key_f] at h; injection h
        have A299 := Aside0.mk A2990
        clear A2990
        have HK4 := Aside0.mk hk4
        clear hk4
        cases t142 with
        | true =>
          by_cases p5 : a0_5.size ≤ 2052
          · have p5b : decide (a0_5.size ≤ 2052) = true := decide_eq_true p5
            have p5c : decide ((a0_5.size : Int) ≤ 2052) = true := decide_eq_true (by omega)
            clear p5
            cases hd6 : a0_6 with
            | false =>
              subst hd6
              by_cases hXt : (a0_1 == 0 && a0_3 == 0) = true
              · have czb : (!(0 == a0_1) || (!(0 == a0_3))) = false := by rw [ne3 A16.out, hXt]; rfl
                have HV : Aside0 (r = 0) := ⟨by rw [HRV2.out, ok3 HKD.out, hno, p2b, HK4.out, p5b, show (!(false && !a0_5.toList.isEmpty)) = true from rfl, hXt]; rfl⟩
                clear hXt
                go_wp2_with (first | (go_at_call 72; (with_reducible refine (letter_Key.calls a0_4 true _ A299.out).mono ?_); rintro e w' ⟨rfl, ⟨nd, rfl⟩⟩))
                go_ret
                exact ⟨by rw [HV.out]; rfl, by repeat (first | (with_reducible first | exact HB.out | apply below_alloc | apply pw_below_drewN | apply below_drew1 | refine below_set ?_ GE103.out | refine below_set ?_ GE111.out) | exact HB.out)⟩
              · have hXf : (a0_1 == 0 && a0_3 == 0) = false := by simpa only [Bool.not_eq_true] using hXt
                clear hXt
                have czb : (!(0 == a0_1) || (!(0 == a0_3))) = true := by rw [ne3 A16.out, hXf]; rfl
                have HV : Aside0 (r = 80) := ⟨by rw [HRV2.out, ok3 HKD.out, hno, p2b, HK4.out, p5b, show (!(false && !a0_5.toList.isEmpty)) = true from rfl, hXf]; rfl⟩
                clear hXf
                go_wp2_with (first | (go_at_call 72; (with_reducible refine (letter_Key.calls a0_4 true _ A299.out).mono ?_); rintro e w' ⟨rfl, ⟨nd, rfl⟩⟩))
                go_ret
                exact ⟨by rw [HV.out]; rfl, by repeat (first | (with_reducible first | exact HB.out | apply below_alloc | apply pw_below_drewN | apply below_drew1 | refine below_set ?_ GE103.out | refine below_set ?_ GE111.out) | exact HB.out)⟩
            | true =>
              subst hd6
              by_cases p6 : a0_5.toList = ([] : List UInt8)
              · have p6b : (a0_5.toList == ([] : List UInt8)) = true := beq_iff_eq.mpr p6
                have p6c : (a0_5.toList != ([] : List UInt8)) = false := bne_eq_false_iff_eq.mpr p6
                have p6d : (!(true && !a0_5.toList.isEmpty)) = true := by rw [p6]; rfl
                clear p6
                by_cases hXt : (a0_1 == 0 && a0_3 == 0) = true
                · have czb : (!(0 == a0_1) || (!(0 == a0_3))) = false := by rw [ne3 A16.out, hXt]; rfl
                  have HV : Aside0 (r = 0) := ⟨by rw [HRV2.out, ok3 HKD.out, hno, p2b, HK4.out, p5b, p6d, hXt]; rfl⟩
                  clear hXt
                  go_wp2_with (first | (go_at_call 72; (with_reducible refine (letter_Key.calls a0_4 true _ A299.out).mono ?_); rintro e w' ⟨rfl, ⟨nd, rfl⟩⟩))
                  go_ret
                  exact ⟨by rw [HV.out]; rfl, by repeat (first | (with_reducible first | exact HB.out | apply below_alloc | apply pw_below_drewN | apply below_drew1 | refine below_set ?_ GE103.out | refine below_set ?_ GE111.out) | exact HB.out)⟩
                · have hXf : (a0_1 == 0 && a0_3 == 0) = false := by simpa only [Bool.not_eq_true] using hXt
                  clear hXt
                  have czb : (!(0 == a0_1) || (!(0 == a0_3))) = true := by rw [ne3 A16.out, hXf]; rfl
                  have HV : Aside0 (r = 80) := ⟨by rw [HRV2.out, ok3 HKD.out, hno, p2b, HK4.out, p5b, p6d, hXf]; rfl⟩
                  clear hXf
                  go_wp2_with (first | (go_at_call 72; (with_reducible refine (letter_Key.calls a0_4 true _ A299.out).mono ?_); rintro e w' ⟨rfl, ⟨nd, rfl⟩⟩))
                  go_ret
                  exact ⟨by rw [HV.out]; rfl, by repeat (first | (with_reducible first | exact HB.out | apply below_alloc | apply pw_below_drewN | apply below_drew1 | refine below_set ?_ GE103.out | refine below_set ?_ GE111.out) | exact HB.out)⟩
              · have p6b : (a0_5.toList == ([] : List UInt8)) = false := beq_eq_false_iff_ne.mpr p6
                have p6c : (a0_5.toList != ([] : List UInt8)) = true := bne_iff_ne.mpr p6
                have p6d : (!(true && !a0_5.toList.isEmpty)) = false := by simp [p6]
                clear p6
                have HV : Aside0 (r = 80) := ⟨by rw [HRV2.out, ok3 HKD.out, hno, p2b, HK4.out, p5b, p6d]; rfl⟩
                go_wp2_with (first | (go_at_call 72; (with_reducible refine (letter_Key.calls a0_4 true _ A299.out).mono ?_); rintro e w' ⟨rfl, ⟨nd, rfl⟩⟩))
                go_ret
                exact ⟨by rw [HV.out]; rfl, by repeat (first | (with_reducible first | exact HB.out | apply below_alloc | apply pw_below_drewN | apply below_drew1 | refine below_set ?_ GE103.out | refine below_set ?_ GE111.out) | exact HB.out)⟩
          · have p5b : decide (a0_5.size ≤ 2052) = false := decide_eq_false p5
            have p5c : decide ((a0_5.size : Int) ≤ 2052) = false := decide_eq_false (by omega)
            clear p5
            have HV : Aside0 (r = 80) := ⟨by rw [HRV2.out, ok3 HKD.out, hno, p2b, HK4.out, p5b]; rfl⟩
            go_wp2_with (first | (go_at_call 72; (with_reducible refine (letter_Key.calls a0_4 true _ A299.out).mono ?_); rintro e w' ⟨rfl, ⟨nd, rfl⟩⟩))
            go_ret
            exact ⟨by rw [HV.out]; rfl, by repeat (first | (with_reducible first | exact HB.out | apply below_alloc | apply pw_below_drewN | apply below_drew1 | refine below_set ?_ GE103.out | refine below_set ?_ GE111.out) | exact HB.out)⟩
        | false =>
          have HV : Aside0 (r = 80) := ⟨by rw [HRV2.out, ok3 HKD.out, hno, p2b, HK4.out]; rfl⟩
          go_wp2_with (first | (go_at_call 72; (with_reducible refine (letter_Key.calls a0_4 false _ A299.out).mono ?_); rintro e w' ⟨rfl, ⟨nd, rfl⟩⟩))
          go_ret
          exact ⟨by rw [HV.out]; rfl, by repeat (first | (with_reducible first | exact HB.out | apply below_alloc | apply pw_below_drewN | apply below_drew1 | refine below_set ?_ GE103.out | refine below_set ?_ GE111.out) | exact HB.out)⟩
      · have p2b : decide (0 < a0_2) = false := decide_eq_false p2
        clear p2
        have HV : Aside0 (r = 80) := ⟨by rw [HRV2.out, ok3 HKD.out, hno, p2b]; rfl⟩
        go_wp2
        try go_wp2
        go_ret
        exact ⟨by rw [HV.out]; rfl, by repeat (first | (with_reducible first | exact HB.out | apply below_alloc | apply pw_below_drewN | apply below_drew1 | refine below_set ?_ GE103.out | refine below_set ?_ GE111.out) | exact HB.out)⟩
  have k3b : (a0_0 == 3) = false := beq_eq_false_iff_ne.mpr k3
  have k3c : (a0_0 != 3) = true := bne_iff_ne.mpr k3
  by_cases k4 : a0_0 = 4
  · have HKD := Aside0.mk k4
    have k4b : (a0_0 == 4) = true := beq_iff_eq.mpr k4
    have k4c : (a0_0 != 4) = false := bne_eq_false_iff_eq.mpr k4
    clear k4
    cases hno : noneB l0_7 l0_8 with
    | false =>
      have HV : Aside0 (r = 80) := ⟨by rw [HRV2.out, ok4 HKD.out, hno]; rfl⟩
      go_wp2
      try go_wp2
      go_ret
      exact ⟨by rw [HV.out]; rfl, by repeat (first | (with_reducible first | exact HB.out | apply below_alloc | apply pw_below_drewN | apply below_drew1 | refine below_set ?_ GE103.out | refine below_set ?_ GE111.out) | exact HB.out)⟩
    | true =>
      by_cases hXt : (a0_1 == 0 && (a0_3 == 0 && bareB a0_4 a0_5 a0_6)) = true
      · have czb : (!(t104 == a0_0) || (!(0 == a0_1) || (!(t106 == a0_2) || (!(t107 == a0_3) || (!(t108.toList == a0_4.toList) || (!(t109.toList == a0_5.toList) || (!(t110 == a0_6)))))))) = false := by rw [ne4 A16.out, hXt]; rfl
        have HV : Aside0 (r = 0) := ⟨by rw [HRV2.out, ok4 HKD.out, hno, hXt]; rfl⟩
        clear hXt
        go_wp2
        try go_wp2
        go_ret
        exact ⟨by rw [HV.out]; rfl, by repeat (first | (with_reducible first | exact HB.out | apply below_alloc | apply pw_below_drewN | apply below_drew1 | refine below_set ?_ GE103.out | refine below_set ?_ GE111.out) | exact HB.out)⟩
      · have hXf : (a0_1 == 0 && (a0_3 == 0 && bareB a0_4 a0_5 a0_6)) = false := by simpa only [Bool.not_eq_true] using hXt
        clear hXt
        have czb : (!(t104 == a0_0) || (!(0 == a0_1) || (!(t106 == a0_2) || (!(t107 == a0_3) || (!(t108.toList == a0_4.toList) || (!(t109.toList == a0_5.toList) || (!(t110 == a0_6)))))))) = true := by rw [ne4 A16.out, hXf]; rfl
        have HV : Aside0 (r = 80) := ⟨by rw [HRV2.out, ok4 HKD.out, hno, hXf]; rfl⟩
        clear hXf
        go_wp2
        try go_wp2
        go_ret
        exact ⟨by rw [HV.out]; rfl, by repeat (first | (with_reducible first | exact HB.out | apply below_alloc | apply pw_below_drewN | apply below_drew1 | refine below_set ?_ GE103.out | refine below_set ?_ GE111.out) | exact HB.out)⟩
  have k4b : (a0_0 == 4) = false := beq_eq_false_iff_ne.mpr k4
  have k4c : (a0_0 != 4) = true := bne_iff_ne.mpr k4
  by_cases k7 : a0_0 = 7
  · have HKD := Aside0.mk k7
    have k7b : (a0_0 == 7) = true := beq_iff_eq.mpr k7
    have k7c : (a0_0 != 7) = false := bne_eq_false_iff_eq.mpr k7
    clear k7
    cases hno : noneB l0_7 l0_8 with
    | false =>
      have HV : Aside0 (r = 80) := ⟨by rw [HRV2.out, ok7 HKD.out, hno]; rfl⟩
      go_wp2
      have n0_ := Aside0.mk (blk_drew BK103.out)
      have n1_ := Aside0.mk (blk_drew BK111.out)
      have n2_ := Aside0.mk (below_drew1 HB.out)
      clear BK103
      clear BK111
      clear HB
      have BK103 := n0_
      have BK111 := n1_
      have HB := n2_
      clear n0_ n1_ n2_
      refine start_ (n := 9) (S := fun w' => True) (ds := []) #[false, false, false, false, false, false, false, false, false] (by kernel_rfl) rfl rfl trivial (fun hHeld => ?_); refine with_tabW record_Check.tab20 record_Check.bits20 (fun HT_ HW_ => ?_)
      generalize w35.drew = w547 at BK103 BK111 HB hHeld ⊢
      refine pure_ (i := 0) (N := some 132) (v := ?_) (a' := ?_) #[true, false, false, false, false, false, false, false, false] rfl rfl (any_of HT_.out (by kernel_rfl)) (fun _ _ _ h => h) (Or.inl ⟨by rfl, ?_⟩) ?_ ?_
      rotate_left
      ·intro w'
       go_simp
       with_reducible rfl
      rotate_left
      ·simp only [Act.put, List.setIfInBounds_toArray, List.set_cons_zero, List.set_cons_succ, i64_w, i32_w]
       rfl
      refine pure_ (i := 1) (N := some 133) (v := ?_) (a' := ?_) #[true, true, false, false, false, false, false, false, false] rfl rfl (any_of HT_.out (by kernel_rfl)) (fun _ _ _ h => h) (Or.inl ⟨by rfl, ?_⟩) ?_ ?_
      rotate_left
      ·intro w'
       go_simp
       with_reducible rfl
      rotate_left
      ·simp only [Act.put, List.setIfInBounds_toArray, List.set_cons_zero, List.set_cons_succ, i64_w, i32_w]
       rfl
      refine pure_ (i := 2) (N := some 134) (v := undef) (a' := ?_) #[true, true, true, false, false, false, false, false, false] rfl rfl (any_of HT_.out (by kernel_rfl)) (fun _ _ _ h => h) (Or.inr ⟨by rfl, rfl⟩) ?_ ?_
      rotate_left
      ·simp only [Act.put, List.setIfInBounds_toArray, List.set_cons_zero, List.set_cons_succ, i64_w, i32_w]
       rfl
      refine pure_ (i := 3) (N := some 135) (v := undef) (a' := ?_) #[true, true, true, true, false, false, false, false, false] rfl rfl (any_of HT_.out (by kernel_rfl)) (fun _ _ _ h => h) (Or.inr ⟨by rfl, rfl⟩) ?_ ?_
      rotate_left
      ·simp only [Act.put, List.setIfInBounds_toArray, List.set_cons_zero, List.set_cons_succ, i64_w, i32_w]
       rfl
      refine pure_ (i := 4) (N := some 136) (v := undef) (a' := ?_) #[true, true, true, true, true, false, false, false, false] rfl rfl (any_of HT_.out (by kernel_rfl)) (fun _ _ _ h => h) (Or.inr ⟨by rfl, rfl⟩) ?_ ?_
      rotate_left
      ·simp only [Act.put, List.setIfInBounds_toArray, List.set_cons_zero, List.set_cons_succ, i64_w, i32_w]
       rfl
      refine pure_ (i := 5) (N := some 137) (v := ?_) (a' := ?_) #[true, true, true, true, true, true, false, false, false] rfl rfl (any_of HT_.out (by kernel_rfl)) (fun _ _ _ h => h) (Or.inl ⟨by rfl, ?_⟩) ?_ ?_
      rotate_left
      ·intro w'
       go_simp
       with_reducible rfl
      rotate_left
      ·simp only [Act.put, List.setIfInBounds_toArray, List.set_cons_zero, List.set_cons_succ, i64_w, i32_w]
       rfl
      refine pure_ (i := 6) (N := some 138) (v := ?_) (a' := ?_) #[true, true, true, true, true, true, true, false, false] rfl rfl (any_of HT_.out (by kernel_rfl)) (fun _ _ _ h => h) (Or.inl ⟨by rfl, ?_⟩) ?_ ?_
      rotate_left
      ·intro w'
       go_simp
       with_reducible rfl
      rotate_left
      ·simp only [Act.put, List.setIfInBounds_toArray, List.set_cons_zero, List.set_cons_succ, i64_w, i32_w]
       rfl
      refine one_ (i := 7) (N := none) #[true, true, true, true, true, true, true, true, false] rfl rfl (one_of HT_.out (by kernel_rfl)) (by decide) (fun K hK => ?_)
      have hs548 : w547.cell? ⟨gb111, 1, none⟩ = some (.int .i64 t105) := (blk_cell BK111.out 1).trans rfl
      have hfs548 := blk_frozen BK111.out 1
      have hns548_0 := NB103_111.out
      have hms548_0 := NB111_103.out
      refine skip_ (w1 := ?_) (by rfl) rfl ?_ ?_
      rotate_left
      ·go_simp
       rfl
      refine hK.out _ _ trivial (fun hHeld => ?_)
      clear hK K
      refine pure_ (i := 8) (N := some 4) (v := ?_) (a' := ?_) #[true, true, true, true, true, true, true, true, true] rfl rfl (any_of HT_.out (by kernel_rfl)) (fun _ _ _ h => h) (Or.inl ⟨by rfl, ?_⟩) ?_ ?_
      rotate_left
      ·intro w'
       go_simp
       with_reducible rfl
      rotate_left
      ·simp only [Act.put, List.setIfInBounds_toArray, List.set_cons_zero, List.set_cons_succ, i64_w, i32_w]
       rfl
      refine done_ (done_of HT_.out (by kernel_rfl)) ?_
      try go_wp2
      go_ret
      exact ⟨by rw [HV.out]; rfl, by repeat (first | (with_reducible first | exact HB.out | apply below_alloc | apply pw_below_drewN | apply below_drew1 | refine below_set ?_ GE103.out | refine below_set ?_ GE111.out) | exact HB.out)⟩
    | true =>
      by_cases p2 : 0 < a0_2
      · have p2b : decide (0 < a0_2) = true := decide_eq_true p2
        clear p2
        by_cases hXt : (a0_1 == 0 && (a0_3 == 0 && bareB a0_4 a0_5 a0_6)) = true
        · have czb : (!(t104 == a0_0) || (!(0 == a0_1) || (!(t106 == a0_2) || (!(t107 == a0_3) || (!(t108.toList == a0_4.toList) || (!(t109.toList == a0_5.toList) || (!(t110 == a0_6)))))))) = false := by rw [ne7 A16.out, hXt]; rfl
          have HV : Aside0 (r = 0) := ⟨by rw [HRV2.out, ok7 HKD.out, hno, p2b, hXt]; rfl⟩
          clear hXt
          go_wp2
          have n0_ := Aside0.mk (blk_drew BK103.out)
          have n1_ := Aside0.mk (blk_drew BK111.out)
          have n2_ := Aside0.mk (below_drew1 HB.out)
          clear BK103
          clear BK111
          clear HB
          have BK103 := n0_
          have BK111 := n1_
          have HB := n2_
          clear n0_ n1_ n2_
          refine start_ (n := 9) (S := fun w' => w'.cell? ⟨gb103, 0, none⟩ = some (.int .i64 a0_0) ∧ w'.cell? ⟨gb103, 1, none⟩ = some (.int .i64 a0_1) ∧ w'.cell? ⟨gb103, 2, none⟩ = some (.int .i64 a0_2) ∧ w'.cell? ⟨gb103, 3, none⟩ = some (.int .i64 a0_3) ∧ w'.cell? ⟨gb103, 4, none⟩ = some (.string a0_4) ∧ w'.cell? ⟨gb103, 5, none⟩ = some (.string a0_5) ∧ w'.cell? ⟨gb103, 6, none⟩ = some (.bool a0_6) ∧ w'.cell? ⟨gb103, 7, none⟩ = some (.slice A0_7 l0_7.length c0_7) ∧ w'.cell? ⟨gb103, 8, none⟩ = some (.slice A0_8 l0_8.length c0_8)) (ds := []) #[false, false, false, false, false, false, false, false, false] (by kernel_rfl) rfl rfl ⟨(blk_cell BK103.out 0).trans rfl, (blk_cell BK103.out 1).trans rfl, (blk_cell BK103.out 2).trans rfl, (blk_cell BK103.out 3).trans rfl, (blk_cell BK103.out 4).trans rfl, (blk_cell BK103.out 5).trans rfl, (blk_cell BK103.out 6).trans rfl, (blk_cell BK103.out 7).trans rfl, (blk_cell BK103.out 8).trans rfl⟩ (fun hHeld => ?_); refine with_tabW record_Check.tab20 record_Check.bits20 (fun HT_ HW_ => ?_)
          generalize w35.drew = w495 at BK103 BK111 HB hHeld ⊢
          refine pure_ (i := 0) (N := some 132) (v := ?_) (a' := ?_) #[true, false, false, false, false, false, false, false, false] rfl rfl (any_of HT_.out (by kernel_rfl)) (fun _ _ _ h => h) (Or.inl ⟨by rfl, ?_⟩) ?_ ?_
          rotate_left
          ·intro w'
           go_simp
           with_reducible rfl
          rotate_left
          ·simp only [Act.put, List.setIfInBounds_toArray, List.set_cons_zero, List.set_cons_succ, i64_w, i32_w]
           rfl
          refine pure_ (i := 1) (N := some 133) (v := ?_) (a' := ?_) #[true, true, false, false, false, false, false, false, false] rfl rfl (any_of HT_.out (by kernel_rfl)) (fun _ _ _ h => h) (Or.inl ⟨by rfl, ?_⟩) ?_ ?_
          rotate_left
          ·intro w'
           go_simp
           with_reducible rfl
          rotate_left
          ·simp only [Act.put, List.setIfInBounds_toArray, List.set_cons_zero, List.set_cons_succ, i64_w, i32_w]
           rfl
          refine pure_ (i := 2) (N := some 134) (v := ?_) (a' := ?_) #[true, true, true, false, false, false, false, false, false] rfl rfl (any_of HT_.out (by kernel_rfl)) (fun _ _ _ h => h) (Or.inl ⟨by rfl, ?_⟩) ?_ ?_
          rotate_left
          ·intro w'
           go_simp
           with_reducible rfl
          rotate_left
          ·simp only [Act.put, List.setIfInBounds_toArray, List.set_cons_zero, List.set_cons_succ, i64_w, i32_w]
           rfl
          refine pure_ (i := 6) (N := some 138) (v := ?_) (a' := ?_) #[true, true, true, false, false, false, true, false, false] rfl rfl (any_of HT_.out (by kernel_rfl)) (fun _ _ _ h => h) (Or.inl ⟨by rfl, ?_⟩) ?_ ?_
          rotate_left
          ·intro w'
           go_simp
           with_reducible rfl
          rotate_left
          ·simp only [Act.put, List.setIfInBounds_toArray, List.set_cons_zero, List.set_cons_succ, i64_w, i32_w]
           rfl
          refine take_ (i := 3) (N := some 135) (v := ?_) (a' := ?_) #[true, true, true, true, false, false, true, false, false] rfl rfl (take_ofW HT_.out HW_.out (by kernel_rfl)) (fun _ _ _ h => h) (Or.inl ⟨by rfl, ?_⟩) hHeld ?_ ?_
          rotate_left
          ·rintro w' ⟨s0, s1, s2, s3, s4, s5, s6, s7, s8⟩
           go_simp
           with_reducible rfl
          rotate_left
          ·simp only [Act.put, List.setIfInBounds_toArray, List.set_cons_zero, List.set_cons_succ, i64_w, i32_w]
           rfl
          refine pure_ (i := 4) (N := some 136) (v := ?_) (a' := ?_) #[true, true, true, true, true, false, true, false, false] rfl rfl (any_of HT_.out (by kernel_rfl)) (fun _ _ _ h => h) (Or.inl ⟨by rfl, ?_⟩) ?_ ?_
          rotate_left
          ·intro w'
           go_simp
           with_reducible rfl
          rotate_left
          ·simp only [Act.put, List.setIfInBounds_toArray, List.set_cons_zero, List.set_cons_succ, i64_w, i32_w]
           rfl
          refine pure_ (i := 5) (N := some 137) (v := ?_) (a' := ?_) #[true, true, true, true, true, true, true, false, false] rfl rfl (any_of HT_.out (by kernel_rfl)) (fun _ _ _ h => h) (Or.inl ⟨by rfl, ?_⟩) ?_ ?_
          rotate_left
          ·intro w'
           go_simp
           with_reducible rfl
          rotate_left
          ·simp only [Act.put, List.setIfInBounds_toArray, List.set_cons_zero, List.set_cons_succ, i64_w, i32_w]
           rfl
          refine one_ (i := 7) (N := none) #[true, true, true, true, true, true, true, true, false] rfl rfl (one_of HT_.out (by kernel_rfl)) (by decide) (fun K hK => ?_)
          have hs496 : w495.cell? ⟨gb111, 1, none⟩ = some (.int .i64 t105) := (blk_cell BK111.out 1).trans rfl
          have hfs496 := blk_frozen BK111.out 1
          have hns496_0 := NB103_111.out
          have hms496_0 := NB111_103.out
          refine skip_ (w1 := ?_) (by rfl) rfl ?_ ?_
          rotate_left
          ·go_simp
           rfl
          refine hK.out _ _ ⟨((cell_far (p := ⟨gb111, _, none⟩) NB103_111.out _).trans (hHeld.1)), ((cell_far (p := ⟨gb111, _, none⟩) NB103_111.out _).trans (hHeld.2.1)), ((cell_far (p := ⟨gb111, _, none⟩) NB103_111.out _).trans (hHeld.2.2.1)), ((cell_far (p := ⟨gb111, _, none⟩) NB103_111.out _).trans (hHeld.2.2.2.1)), ((cell_far (p := ⟨gb111, _, none⟩) NB103_111.out _).trans (hHeld.2.2.2.2.1)), ((cell_far (p := ⟨gb111, _, none⟩) NB103_111.out _).trans (hHeld.2.2.2.2.2.1)), ((cell_far (p := ⟨gb111, _, none⟩) NB103_111.out _).trans (hHeld.2.2.2.2.2.2.1)), ((cell_far (p := ⟨gb111, _, none⟩) NB103_111.out _).trans (hHeld.2.2.2.2.2.2.2.1)), ((cell_far (p := ⟨gb111, _, none⟩) NB103_111.out _).trans (hHeld.2.2.2.2.2.2.2.2))⟩ (fun hHeld => ?_)
          clear hK K
          refine pure_ (i := 8) (N := some 4) (v := ?_) (a' := ?_) #[true, true, true, true, true, true, true, true, true] rfl rfl (any_of HT_.out (by kernel_rfl)) (fun _ _ _ h => h) (Or.inl ⟨by rfl, ?_⟩) ?_ ?_
          rotate_left
          ·intro w'
           go_simp
           with_reducible rfl
          rotate_left
          ·simp only [Act.put, List.setIfInBounds_toArray, List.set_cons_zero, List.set_cons_succ, i64_w, i32_w]
           rfl
          refine done_ (done_of HT_.out (by kernel_rfl)) ?_
          have hcz497_0 : w495.cell? ⟨gb111, 0, none⟩ = some (.int .i64 t104) := (blk_cell BK111.out 0).trans rfl
          have hcz497_1 : w495.cell? ⟨gb111, 1, none⟩ = some (.int .i64 t105) := (blk_cell BK111.out 1).trans rfl
          have hcz497_2 : w495.cell? ⟨gb111, 2, none⟩ = some (.int .i64 t106) := (blk_cell BK111.out 2).trans rfl
          have hcz497_3 : w495.cell? ⟨gb111, 3, none⟩ = some (.int .i64 t107) := (blk_cell BK111.out 3).trans rfl
          have hcz497_4 : w495.cell? ⟨gb111, 4, none⟩ = some (.string t108) := (blk_cell BK111.out 4).trans rfl
          have hcz497_5 : w495.cell? ⟨gb111, 5, none⟩ = some (.string t109) := (blk_cell BK111.out 5).trans rfl
          have hcz497_6 : w495.cell? ⟨gb111, 6, none⟩ = some (.bool t110) := (blk_cell BK111.out 6).trans rfl
          have hfz497_0 := blk_frozen BK111.out 0
          have hfz497_1 := blk_frozen BK111.out 1
          have hfz497_2 := blk_frozen BK111.out 2
          have hfz497_3 := blk_frozen BK111.out 3
          have hfz497_4 := blk_frozen BK111.out 4
          have hfz497_5 := blk_frozen BK111.out 5
          have hfz497_6 := blk_frozen BK111.out 6
          have hcz498_0 : w495.cell? ⟨gb103, 0, none⟩ = some (.int .i64 a0_0) := (blk_cell BK103.out 0).trans rfl
          have hcz498_1 : w495.cell? ⟨gb103, 1, none⟩ = some (.int .i64 a0_1) := (blk_cell BK103.out 1).trans rfl
          have hcz498_2 : w495.cell? ⟨gb103, 2, none⟩ = some (.int .i64 a0_2) := (blk_cell BK103.out 2).trans rfl
          have hcz498_3 : w495.cell? ⟨gb103, 3, none⟩ = some (.int .i64 a0_3) := (blk_cell BK103.out 3).trans rfl
          have hcz498_4 : w495.cell? ⟨gb103, 4, none⟩ = some (.string a0_4) := (blk_cell BK103.out 4).trans rfl
          have hcz498_5 : w495.cell? ⟨gb103, 5, none⟩ = some (.string a0_5) := (blk_cell BK103.out 5).trans rfl
          have hcz498_6 : w495.cell? ⟨gb103, 6, none⟩ = some (.bool a0_6) := (blk_cell BK103.out 6).trans rfl
          have hcz498_7 : w495.cell? ⟨gb103, 7, none⟩ = some (.slice A0_7 l0_7.length c0_7) := (blk_cell BK103.out 7).trans rfl
          have hcz498_8 : w495.cell? ⟨gb103, 8, none⟩ = some (.slice A0_8 l0_8.length c0_8) := (blk_cell BK103.out 8).trans rfl
          have hfz498_0 := blk_frozen BK103.out 0
          have hfz498_1 := blk_frozen BK103.out 1
          have hfz498_2 := blk_frozen BK103.out 2
          have hfz498_3 := blk_frozen BK103.out 3
          have hfz498_4 := blk_frozen BK103.out 4
          have hfz498_5 := blk_frozen BK103.out 5
          have hfz498_6 := blk_frozen BK103.out 6
          have hfz498_7 := blk_frozen BK103.out 7
          have hfz498_8 := blk_frozen BK103.out 8
          try go_wp2
          go_ret
          exact ⟨by rw [HV.out]; rfl, by repeat (first | (with_reducible first | exact HB.out | apply below_alloc | apply pw_below_drewN | apply below_drew1 | refine below_set ?_ GE103.out | refine below_set ?_ GE111.out) | exact HB.out)⟩
        · have hXf : (a0_1 == 0 && (a0_3 == 0 && bareB a0_4 a0_5 a0_6)) = false := by simpa only [Bool.not_eq_true] using hXt
          clear hXt
          have czb : (!(t104 == a0_0) || (!(0 == a0_1) || (!(t106 == a0_2) || (!(t107 == a0_3) || (!(t108.toList == a0_4.toList) || (!(t109.toList == a0_5.toList) || (!(t110 == a0_6)))))))) = true := by rw [ne7 A16.out, hXf]; rfl
          have HV : Aside0 (r = 80) := ⟨by rw [HRV2.out, ok7 HKD.out, hno, p2b, hXf]; rfl⟩
          clear hXf
          go_wp2
          have n0_ := Aside0.mk (blk_drew BK103.out)
          have n1_ := Aside0.mk (blk_drew BK111.out)
          have n2_ := Aside0.mk (below_drew1 HB.out)
          clear BK103
          clear BK111
          clear HB
          have BK103 := n0_
          have BK111 := n1_
          have HB := n2_
          clear n0_ n1_ n2_
          refine start_ (n := 9) (S := fun w' => w'.cell? ⟨gb103, 0, none⟩ = some (.int .i64 a0_0) ∧ w'.cell? ⟨gb103, 1, none⟩ = some (.int .i64 a0_1) ∧ w'.cell? ⟨gb103, 2, none⟩ = some (.int .i64 a0_2) ∧ w'.cell? ⟨gb103, 3, none⟩ = some (.int .i64 a0_3) ∧ w'.cell? ⟨gb103, 4, none⟩ = some (.string a0_4) ∧ w'.cell? ⟨gb103, 5, none⟩ = some (.string a0_5) ∧ w'.cell? ⟨gb103, 6, none⟩ = some (.bool a0_6) ∧ w'.cell? ⟨gb103, 7, none⟩ = some (.slice A0_7 l0_7.length c0_7) ∧ w'.cell? ⟨gb103, 8, none⟩ = some (.slice A0_8 l0_8.length c0_8)) (ds := []) #[false, false, false, false, false, false, false, false, false] (by kernel_rfl) rfl rfl ⟨(blk_cell BK103.out 0).trans rfl, (blk_cell BK103.out 1).trans rfl, (blk_cell BK103.out 2).trans rfl, (blk_cell BK103.out 3).trans rfl, (blk_cell BK103.out 4).trans rfl, (blk_cell BK103.out 5).trans rfl, (blk_cell BK103.out 6).trans rfl, (blk_cell BK103.out 7).trans rfl, (blk_cell BK103.out 8).trans rfl⟩ (fun hHeld => ?_); refine with_tabW record_Check.tab20 record_Check.bits20 (fun HT_ HW_ => ?_)
          generalize w35.drew = w495 at BK103 BK111 HB hHeld ⊢
          refine pure_ (i := 0) (N := some 132) (v := ?_) (a' := ?_) #[true, false, false, false, false, false, false, false, false] rfl rfl (any_of HT_.out (by kernel_rfl)) (fun _ _ _ h => h) (Or.inl ⟨by rfl, ?_⟩) ?_ ?_
          rotate_left
          ·intro w'
           go_simp
           with_reducible rfl
          rotate_left
          ·simp only [Act.put, List.setIfInBounds_toArray, List.set_cons_zero, List.set_cons_succ, i64_w, i32_w]
           rfl
          refine pure_ (i := 1) (N := some 133) (v := ?_) (a' := ?_) #[true, true, false, false, false, false, false, false, false] rfl rfl (any_of HT_.out (by kernel_rfl)) (fun _ _ _ h => h) (Or.inl ⟨by rfl, ?_⟩) ?_ ?_
          rotate_left
          ·intro w'
           go_simp
           with_reducible rfl
          rotate_left
          ·simp only [Act.put, List.setIfInBounds_toArray, List.set_cons_zero, List.set_cons_succ, i64_w, i32_w]
           rfl
          refine pure_ (i := 2) (N := some 134) (v := ?_) (a' := ?_) #[true, true, true, false, false, false, false, false, false] rfl rfl (any_of HT_.out (by kernel_rfl)) (fun _ _ _ h => h) (Or.inl ⟨by rfl, ?_⟩) ?_ ?_
          rotate_left
          ·intro w'
           go_simp
           with_reducible rfl
          rotate_left
          ·simp only [Act.put, List.setIfInBounds_toArray, List.set_cons_zero, List.set_cons_succ, i64_w, i32_w]
           rfl
          refine pure_ (i := 6) (N := some 138) (v := ?_) (a' := ?_) #[true, true, true, false, false, false, true, false, false] rfl rfl (any_of HT_.out (by kernel_rfl)) (fun _ _ _ h => h) (Or.inl ⟨by rfl, ?_⟩) ?_ ?_
          rotate_left
          ·intro w'
           go_simp
           with_reducible rfl
          rotate_left
          ·simp only [Act.put, List.setIfInBounds_toArray, List.set_cons_zero, List.set_cons_succ, i64_w, i32_w]
           rfl
          refine take_ (i := 3) (N := some 135) (v := ?_) (a' := ?_) #[true, true, true, true, false, false, true, false, false] rfl rfl (take_ofW HT_.out HW_.out (by kernel_rfl)) (fun _ _ _ h => h) (Or.inl ⟨by rfl, ?_⟩) hHeld ?_ ?_
          rotate_left
          ·rintro w' ⟨s0, s1, s2, s3, s4, s5, s6, s7, s8⟩
           go_simp
           with_reducible rfl
          rotate_left
          ·simp only [Act.put, List.setIfInBounds_toArray, List.set_cons_zero, List.set_cons_succ, i64_w, i32_w]
           rfl
          refine pure_ (i := 4) (N := some 136) (v := ?_) (a' := ?_) #[true, true, true, true, true, false, true, false, false] rfl rfl (any_of HT_.out (by kernel_rfl)) (fun _ _ _ h => h) (Or.inl ⟨by rfl, ?_⟩) ?_ ?_
          rotate_left
          ·intro w'
           go_simp
           with_reducible rfl
          rotate_left
          ·simp only [Act.put, List.setIfInBounds_toArray, List.set_cons_zero, List.set_cons_succ, i64_w, i32_w]
           rfl
          refine pure_ (i := 5) (N := some 137) (v := ?_) (a' := ?_) #[true, true, true, true, true, true, true, false, false] rfl rfl (any_of HT_.out (by kernel_rfl)) (fun _ _ _ h => h) (Or.inl ⟨by rfl, ?_⟩) ?_ ?_
          rotate_left
          ·intro w'
           go_simp
           with_reducible rfl
          rotate_left
          ·simp only [Act.put, List.setIfInBounds_toArray, List.set_cons_zero, List.set_cons_succ, i64_w, i32_w]
           rfl
          refine one_ (i := 7) (N := none) #[true, true, true, true, true, true, true, true, false] rfl rfl (one_of HT_.out (by kernel_rfl)) (by decide) (fun K hK => ?_)
          have hs496 : w495.cell? ⟨gb111, 1, none⟩ = some (.int .i64 t105) := (blk_cell BK111.out 1).trans rfl
          have hfs496 := blk_frozen BK111.out 1
          have hns496_0 := NB103_111.out
          have hms496_0 := NB111_103.out
          refine skip_ (w1 := ?_) (by rfl) rfl ?_ ?_
          rotate_left
          ·go_simp
           rfl
          refine hK.out _ _ ⟨((cell_far (p := ⟨gb111, _, none⟩) NB103_111.out _).trans (hHeld.1)), ((cell_far (p := ⟨gb111, _, none⟩) NB103_111.out _).trans (hHeld.2.1)), ((cell_far (p := ⟨gb111, _, none⟩) NB103_111.out _).trans (hHeld.2.2.1)), ((cell_far (p := ⟨gb111, _, none⟩) NB103_111.out _).trans (hHeld.2.2.2.1)), ((cell_far (p := ⟨gb111, _, none⟩) NB103_111.out _).trans (hHeld.2.2.2.2.1)), ((cell_far (p := ⟨gb111, _, none⟩) NB103_111.out _).trans (hHeld.2.2.2.2.2.1)), ((cell_far (p := ⟨gb111, _, none⟩) NB103_111.out _).trans (hHeld.2.2.2.2.2.2.1)), ((cell_far (p := ⟨gb111, _, none⟩) NB103_111.out _).trans (hHeld.2.2.2.2.2.2.2.1)), ((cell_far (p := ⟨gb111, _, none⟩) NB103_111.out _).trans (hHeld.2.2.2.2.2.2.2.2))⟩ (fun hHeld => ?_)
          clear hK K
          refine pure_ (i := 8) (N := some 4) (v := ?_) (a' := ?_) #[true, true, true, true, true, true, true, true, true] rfl rfl (any_of HT_.out (by kernel_rfl)) (fun _ _ _ h => h) (Or.inl ⟨by rfl, ?_⟩) ?_ ?_
          rotate_left
          ·intro w'
           go_simp
           with_reducible rfl
          rotate_left
          ·simp only [Act.put, List.setIfInBounds_toArray, List.set_cons_zero, List.set_cons_succ, i64_w, i32_w]
           rfl
          refine done_ (done_of HT_.out (by kernel_rfl)) ?_
          have hcz497_0 : w495.cell? ⟨gb111, 0, none⟩ = some (.int .i64 t104) := (blk_cell BK111.out 0).trans rfl
          have hcz497_1 : w495.cell? ⟨gb111, 1, none⟩ = some (.int .i64 t105) := (blk_cell BK111.out 1).trans rfl
          have hcz497_2 : w495.cell? ⟨gb111, 2, none⟩ = some (.int .i64 t106) := (blk_cell BK111.out 2).trans rfl
          have hcz497_3 : w495.cell? ⟨gb111, 3, none⟩ = some (.int .i64 t107) := (blk_cell BK111.out 3).trans rfl
          have hcz497_4 : w495.cell? ⟨gb111, 4, none⟩ = some (.string t108) := (blk_cell BK111.out 4).trans rfl
          have hcz497_5 : w495.cell? ⟨gb111, 5, none⟩ = some (.string t109) := (blk_cell BK111.out 5).trans rfl
          have hcz497_6 : w495.cell? ⟨gb111, 6, none⟩ = some (.bool t110) := (blk_cell BK111.out 6).trans rfl
          have hfz497_0 := blk_frozen BK111.out 0
          have hfz497_1 := blk_frozen BK111.out 1
          have hfz497_2 := blk_frozen BK111.out 2
          have hfz497_3 := blk_frozen BK111.out 3
          have hfz497_4 := blk_frozen BK111.out 4
          have hfz497_5 := blk_frozen BK111.out 5
          have hfz497_6 := blk_frozen BK111.out 6
          have hcz498_0 : w495.cell? ⟨gb103, 0, none⟩ = some (.int .i64 a0_0) := (blk_cell BK103.out 0).trans rfl
          have hcz498_1 : w495.cell? ⟨gb103, 1, none⟩ = some (.int .i64 a0_1) := (blk_cell BK103.out 1).trans rfl
          have hcz498_2 : w495.cell? ⟨gb103, 2, none⟩ = some (.int .i64 a0_2) := (blk_cell BK103.out 2).trans rfl
          have hcz498_3 : w495.cell? ⟨gb103, 3, none⟩ = some (.int .i64 a0_3) := (blk_cell BK103.out 3).trans rfl
          have hcz498_4 : w495.cell? ⟨gb103, 4, none⟩ = some (.string a0_4) := (blk_cell BK103.out 4).trans rfl
          have hcz498_5 : w495.cell? ⟨gb103, 5, none⟩ = some (.string a0_5) := (blk_cell BK103.out 5).trans rfl
          have hcz498_6 : w495.cell? ⟨gb103, 6, none⟩ = some (.bool a0_6) := (blk_cell BK103.out 6).trans rfl
          have hcz498_7 : w495.cell? ⟨gb103, 7, none⟩ = some (.slice A0_7 l0_7.length c0_7) := (blk_cell BK103.out 7).trans rfl
          have hcz498_8 : w495.cell? ⟨gb103, 8, none⟩ = some (.slice A0_8 l0_8.length c0_8) := (blk_cell BK103.out 8).trans rfl
          have hfz498_0 := blk_frozen BK103.out 0
          have hfz498_1 := blk_frozen BK103.out 1
          have hfz498_2 := blk_frozen BK103.out 2
          have hfz498_3 := blk_frozen BK103.out 3
          have hfz498_4 := blk_frozen BK103.out 4
          have hfz498_5 := blk_frozen BK103.out 5
          have hfz498_6 := blk_frozen BK103.out 6
          have hfz498_7 := blk_frozen BK103.out 7
          have hfz498_8 := blk_frozen BK103.out 8
          try go_wp2
          go_ret
          exact ⟨by rw [HV.out]; rfl, by repeat (first | (with_reducible first | exact HB.out | apply below_alloc | apply pw_below_drewN | apply below_drew1 | refine below_set ?_ GE103.out | refine below_set ?_ GE111.out) | exact HB.out)⟩
      · have p2b : decide (0 < a0_2) = false := decide_eq_false p2
        clear p2
        have HV : Aside0 (r = 80) := ⟨by rw [HRV2.out, ok7 HKD.out, hno, p2b]; rfl⟩
        go_wp2
        have n0_ := Aside0.mk (blk_drew BK103.out)
        have n1_ := Aside0.mk (blk_drew BK111.out)
        have n2_ := Aside0.mk (below_drew1 HB.out)
        clear BK103
        clear BK111
        clear HB
        have BK103 := n0_
        have BK111 := n1_
        have HB := n2_
        clear n0_ n1_ n2_
        refine start_ (n := 9) (S := fun w' => w'.cell? ⟨gb103, 0, none⟩ = some (.int .i64 a0_0) ∧ w'.cell? ⟨gb103, 1, none⟩ = some (.int .i64 a0_1) ∧ w'.cell? ⟨gb103, 2, none⟩ = some (.int .i64 a0_2) ∧ w'.cell? ⟨gb103, 3, none⟩ = some (.int .i64 a0_3) ∧ w'.cell? ⟨gb103, 4, none⟩ = some (.string a0_4) ∧ w'.cell? ⟨gb103, 5, none⟩ = some (.string a0_5) ∧ w'.cell? ⟨gb103, 6, none⟩ = some (.bool a0_6) ∧ w'.cell? ⟨gb103, 7, none⟩ = some (.slice A0_7 l0_7.length c0_7) ∧ w'.cell? ⟨gb103, 8, none⟩ = some (.slice A0_8 l0_8.length c0_8)) (ds := []) #[false, false, false, false, false, false, false, false, false] (by kernel_rfl) rfl rfl ⟨(blk_cell BK103.out 0).trans rfl, (blk_cell BK103.out 1).trans rfl, (blk_cell BK103.out 2).trans rfl, (blk_cell BK103.out 3).trans rfl, (blk_cell BK103.out 4).trans rfl, (blk_cell BK103.out 5).trans rfl, (blk_cell BK103.out 6).trans rfl, (blk_cell BK103.out 7).trans rfl, (blk_cell BK103.out 8).trans rfl⟩ (fun hHeld => ?_); refine with_tabW record_Check.tab20 record_Check.bits20 (fun HT_ HW_ => ?_)
        generalize w35.drew = w495 at BK103 BK111 HB hHeld ⊢
        refine pure_ (i := 0) (N := some 132) (v := ?_) (a' := ?_) #[true, false, false, false, false, false, false, false, false] rfl rfl (any_of HT_.out (by kernel_rfl)) (fun _ _ _ h => h) (Or.inl ⟨by rfl, ?_⟩) ?_ ?_
        rotate_left
        ·intro w'
         go_simp
         with_reducible rfl
        rotate_left
        ·simp only [Act.put, List.setIfInBounds_toArray, List.set_cons_zero, List.set_cons_succ, i64_w, i32_w]
         rfl
        refine pure_ (i := 1) (N := some 133) (v := ?_) (a' := ?_) #[true, true, false, false, false, false, false, false, false] rfl rfl (any_of HT_.out (by kernel_rfl)) (fun _ _ _ h => h) (Or.inl ⟨by rfl, ?_⟩) ?_ ?_
        rotate_left
        ·intro w'
         go_simp
         with_reducible rfl
        rotate_left
        ·simp only [Act.put, List.setIfInBounds_toArray, List.set_cons_zero, List.set_cons_succ, i64_w, i32_w]
         rfl
        refine pure_ (i := 2) (N := some 134) (v := ?_) (a' := ?_) #[true, true, true, false, false, false, false, false, false] rfl rfl (any_of HT_.out (by kernel_rfl)) (fun _ _ _ h => h) (Or.inl ⟨by rfl, ?_⟩) ?_ ?_
        rotate_left
        ·intro w'
         go_simp
         with_reducible rfl
        rotate_left
        ·simp only [Act.put, List.setIfInBounds_toArray, List.set_cons_zero, List.set_cons_succ, i64_w, i32_w]
         rfl
        refine pure_ (i := 6) (N := some 138) (v := ?_) (a' := ?_) #[true, true, true, false, false, false, true, false, false] rfl rfl (any_of HT_.out (by kernel_rfl)) (fun _ _ _ h => h) (Or.inl ⟨by rfl, ?_⟩) ?_ ?_
        rotate_left
        ·intro w'
         go_simp
         with_reducible rfl
        rotate_left
        ·simp only [Act.put, List.setIfInBounds_toArray, List.set_cons_zero, List.set_cons_succ, i64_w, i32_w]
         rfl
        refine take_ (i := 3) (N := some 135) (v := ?_) (a' := ?_) #[true, true, true, true, false, false, true, false, false] rfl rfl (take_ofW HT_.out HW_.out (by kernel_rfl)) (fun _ _ _ h => h) (Or.inl ⟨by rfl, ?_⟩) hHeld ?_ ?_
        rotate_left
        ·rintro w' ⟨s0, s1, s2, s3, s4, s5, s6, s7, s8⟩
         go_simp
         with_reducible rfl
        rotate_left
        ·simp only [Act.put, List.setIfInBounds_toArray, List.set_cons_zero, List.set_cons_succ, i64_w, i32_w]
         rfl
        refine pure_ (i := 4) (N := some 136) (v := ?_) (a' := ?_) #[true, true, true, true, true, false, true, false, false] rfl rfl (any_of HT_.out (by kernel_rfl)) (fun _ _ _ h => h) (Or.inl ⟨by rfl, ?_⟩) ?_ ?_
        rotate_left
        ·intro w'
         go_simp
         with_reducible rfl
        rotate_left
        ·simp only [Act.put, List.setIfInBounds_toArray, List.set_cons_zero, List.set_cons_succ, i64_w, i32_w]
         rfl
        refine pure_ (i := 5) (N := some 137) (v := ?_) (a' := ?_) #[true, true, true, true, true, true, true, false, false] rfl rfl (any_of HT_.out (by kernel_rfl)) (fun _ _ _ h => h) (Or.inl ⟨by rfl, ?_⟩) ?_ ?_
        rotate_left
        ·intro w'
         go_simp
         with_reducible rfl
        rotate_left
        ·simp only [Act.put, List.setIfInBounds_toArray, List.set_cons_zero, List.set_cons_succ, i64_w, i32_w]
         rfl
        refine one_ (i := 7) (N := none) #[true, true, true, true, true, true, true, true, false] rfl rfl (one_of HT_.out (by kernel_rfl)) (by decide) (fun K hK => ?_)
        have hs496 : w495.cell? ⟨gb111, 1, none⟩ = some (.int .i64 t105) := (blk_cell BK111.out 1).trans rfl
        have hfs496 := blk_frozen BK111.out 1
        have hns496_0 := NB103_111.out
        have hms496_0 := NB111_103.out
        refine skip_ (w1 := ?_) (by rfl) rfl ?_ ?_
        rotate_left
        ·go_simp
         rfl
        refine hK.out _ _ ⟨((cell_far (p := ⟨gb111, _, none⟩) NB103_111.out _).trans (hHeld.1)), ((cell_far (p := ⟨gb111, _, none⟩) NB103_111.out _).trans (hHeld.2.1)), ((cell_far (p := ⟨gb111, _, none⟩) NB103_111.out _).trans (hHeld.2.2.1)), ((cell_far (p := ⟨gb111, _, none⟩) NB103_111.out _).trans (hHeld.2.2.2.1)), ((cell_far (p := ⟨gb111, _, none⟩) NB103_111.out _).trans (hHeld.2.2.2.2.1)), ((cell_far (p := ⟨gb111, _, none⟩) NB103_111.out _).trans (hHeld.2.2.2.2.2.1)), ((cell_far (p := ⟨gb111, _, none⟩) NB103_111.out _).trans (hHeld.2.2.2.2.2.2.1)), ((cell_far (p := ⟨gb111, _, none⟩) NB103_111.out _).trans (hHeld.2.2.2.2.2.2.2.1)), ((cell_far (p := ⟨gb111, _, none⟩) NB103_111.out _).trans (hHeld.2.2.2.2.2.2.2.2))⟩ (fun hHeld => ?_)
        clear hK K
        refine pure_ (i := 8) (N := some 4) (v := ?_) (a' := ?_) #[true, true, true, true, true, true, true, true, true] rfl rfl (any_of HT_.out (by kernel_rfl)) (fun _ _ _ h => h) (Or.inl ⟨by rfl, ?_⟩) ?_ ?_
        rotate_left
        ·intro w'
         go_simp
         with_reducible rfl
        rotate_left
        ·simp only [Act.put, List.setIfInBounds_toArray, List.set_cons_zero, List.set_cons_succ, i64_w, i32_w]
         rfl
        refine done_ (done_of HT_.out (by kernel_rfl)) ?_
        have hcz497_0 : w495.cell? ⟨gb111, 0, none⟩ = some (.int .i64 t104) := (blk_cell BK111.out 0).trans rfl
        have hcz497_1 : w495.cell? ⟨gb111, 1, none⟩ = some (.int .i64 t105) := (blk_cell BK111.out 1).trans rfl
        have hcz497_2 : w495.cell? ⟨gb111, 2, none⟩ = some (.int .i64 t106) := (blk_cell BK111.out 2).trans rfl
        have hcz497_3 : w495.cell? ⟨gb111, 3, none⟩ = some (.int .i64 t107) := (blk_cell BK111.out 3).trans rfl
        have hcz497_4 : w495.cell? ⟨gb111, 4, none⟩ = some (.string t108) := (blk_cell BK111.out 4).trans rfl
        have hcz497_5 : w495.cell? ⟨gb111, 5, none⟩ = some (.string t109) := (blk_cell BK111.out 5).trans rfl
        have hcz497_6 : w495.cell? ⟨gb111, 6, none⟩ = some (.bool t110) := (blk_cell BK111.out 6).trans rfl
        have hfz497_0 := blk_frozen BK111.out 0
        have hfz497_1 := blk_frozen BK111.out 1
        have hfz497_2 := blk_frozen BK111.out 2
        have hfz497_3 := blk_frozen BK111.out 3
        have hfz497_4 := blk_frozen BK111.out 4
        have hfz497_5 := blk_frozen BK111.out 5
        have hfz497_6 := blk_frozen BK111.out 6
        have hcz498_0 : w495.cell? ⟨gb103, 0, none⟩ = some (.int .i64 a0_0) := (blk_cell BK103.out 0).trans rfl
        have hcz498_1 : w495.cell? ⟨gb103, 1, none⟩ = some (.int .i64 a0_1) := (blk_cell BK103.out 1).trans rfl
        have hcz498_2 : w495.cell? ⟨gb103, 2, none⟩ = some (.int .i64 a0_2) := (blk_cell BK103.out 2).trans rfl
        have hcz498_3 : w495.cell? ⟨gb103, 3, none⟩ = some (.int .i64 a0_3) := (blk_cell BK103.out 3).trans rfl
        have hcz498_4 : w495.cell? ⟨gb103, 4, none⟩ = some (.string a0_4) := (blk_cell BK103.out 4).trans rfl
        have hcz498_5 : w495.cell? ⟨gb103, 5, none⟩ = some (.string a0_5) := (blk_cell BK103.out 5).trans rfl
        have hcz498_6 : w495.cell? ⟨gb103, 6, none⟩ = some (.bool a0_6) := (blk_cell BK103.out 6).trans rfl
        have hcz498_7 : w495.cell? ⟨gb103, 7, none⟩ = some (.slice A0_7 l0_7.length c0_7) := (blk_cell BK103.out 7).trans rfl
        have hcz498_8 : w495.cell? ⟨gb103, 8, none⟩ = some (.slice A0_8 l0_8.length c0_8) := (blk_cell BK103.out 8).trans rfl
        have hfz498_0 := blk_frozen BK103.out 0
        have hfz498_1 := blk_frozen BK103.out 1
        have hfz498_2 := blk_frozen BK103.out 2
        have hfz498_3 := blk_frozen BK103.out 3
        have hfz498_4 := blk_frozen BK103.out 4
        have hfz498_5 := blk_frozen BK103.out 5
        have hfz498_6 := blk_frozen BK103.out 6
        have hfz498_7 := blk_frozen BK103.out 7
        have hfz498_8 := blk_frozen BK103.out 8
        try go_wp2
        go_ret
        exact ⟨by rw [HV.out]; rfl, by repeat (first | (with_reducible first | exact HB.out | apply below_alloc | apply pw_below_drewN | apply below_drew1 | refine below_set ?_ GE103.out | refine below_set ?_ GE111.out) | exact HB.out)⟩
  have k7b : (a0_0 == 7) = false := beq_eq_false_iff_ne.mpr k7
  have k7c : (a0_0 != 7) = true := bne_iff_ne.mpr k7
  have HV : Aside0 (r = 80) := ⟨by rw [HRV2.out, ok0 k1 k2 k5 k6 k3 k4 k7]; rfl⟩
  clear k1
  clear k2
  clear k5
  clear k6
  clear k3
  clear k4
  clear k7
  go_wp2
  try go_wp2
  go_ret
  exact ⟨by rw [HV.out]; rfl, by repeat (first | (with_reducible first | exact HB.out | apply below_alloc | apply pw_below_drewN | apply below_drew1 | refine below_set ?_ GE103.out | refine below_set ?_ GE111.out) | exact HB.out)⟩
end Go.Proofs.YtaldfbmjmpkmmaaGreat.PL
namespace Go.Proofs.YtaldfbmjmpkmmaaGreat.PL
open Go.RowKit
set_option linter.unusedVariables false
set_option linter.unusedSectionVars false
abbrev Ver := S43
abbrev Rec := S26
abbrev Wr := S57
abbrev Chain := List Ver
abbrev Key := List UInt8
/-! chains -/
def VerOk (v : Ver) : Prop := 1 ≤ v.f0 ∧ v.f0 ≤ 1125899906842624 ∧ v.f1.size ≤ 2052 ∧ (v.f2 = true → v.f1.toList = [])
structure ChainOk (l : Chain) : Prop where
  len : l.length ≤ 1024
  ver : ∀ v ∈ l, VerOk v
  rise : l.Pairwise (fun x y => x.f0 < y.f0)
def lastV (l : Chain) : Int := (l.getLast?.map (·.f0)).getD 0
/-- How many versions are not above a time. -/
def untilV (l : Chain) (t : Int) : Nat := (l.takeWhile (fun v => decide (v.f0 ≤ t))).length
def zVer : Ver := ⟨0, ⟨#[]⟩, false⟩
def atV (l : Chain) (t : Int) : Ver × Bool := if untilV l t = 0 then (zVer, false) else (l.getD (untilV l t - 1) zVer, true)
def sweepFrom (l : Chain) (t : Int) : Nat := if 0 < untilV l t ∧ (l.getD (untilV l t - 1) zVer).f2 = false then untilV l t - 1 else untilV l t
def sweepC (l : Chain) (t : Int) : Chain := l.drop (sweepFrom l t)
theorem ChainOk.nil : ChainOk [] := ⟨by simp, by simp, by simp⟩
theorem ChainOk.drop {l : Chain} (h : ChainOk l) (n : Nat) : ChainOk (l.drop n) :=
  ⟨by rw [List.length_drop]; have := h.len; omega, fun v hv => h.ver v (List.mem_of_mem_drop hv), h.rise.sublist (List.drop_sublist _ _)⟩
theorem last_all {l : Chain} (h : ChainOk l) : ∀ v ∈ l, v.f0 ≤ lastV l := fun v hv => by
  unfold lastV
  cases hl : l.getLast? with
  | none => rw [List.getLast?_eq_none_iff.1 hl] at hv; simp at hv
  | some u =>
    simp only [Option.map_some, Option.getD_some]
    obtain ⟨ys, e⟩ := List.getLast?_eq_some_iff.1 hl
    have hr := h.rise
    rw [e] at hv hr
    rcases List.mem_append.1 hv with hv | hv
    · have := (List.pairwise_append.1 hr).2.2 v hv u (by simp)
      omega
    · rw [List.mem_singleton.1 hv]
      exact Int.le_refl _
theorem ChainOk.snoc {l : Chain} (h : ChainOk l) {v : Ver} (hv : VerOk v) (hl : l.length < 1024) (ht : lastV l < v.f0) : ChainOk (l ++ [v]) :=
  ⟨by rw [List.length_append]; simp; omega, fun u hu => by
    rcases List.mem_append.1 hu with hu | hu
    · exact h.ver u hu
    · rw [List.mem_singleton.1 hu]; exact hv, List.pairwise_append.2 ⟨h.rise, by simp, fun a ha b hb => by
    rw [List.mem_singleton.1 hb]
    have := last_all h a ha
    omega⟩⟩
theorem last_snoc (l : Chain) (v : Ver) : lastV (l ++ [v]) = v.f0 := by unfold lastV; simp
theorem last_nil : lastV [] = 0 := rfl
/-! the shelf -/
structure Sh where
  K : List (Key × Chain)
  P : List Rec
  E : List (Int × Int)
  over : Int
def kb (s : ByteArray) : Key := s.data.toList
theorem kb_toList (s : ByteArray) : s.toList = kb s := Lib.toList_data s
def look : List (Key × Chain) → Key → Chain
  | [], _ => []
  | (k, c) :: r, q => if k = q then c else look r q
def kput : List (Key × Chain) → Key → Chain → List (Key × Chain)
  | [], q, c => [(q, c)]
  | (k, d) :: r, q, c => if k = q then (q, c) :: r else if Op.bytesLess k q = true then (k, d) :: kput r q c else (q, c) :: (k, d) :: r
def pput : List Rec → Rec → List Rec
  | [], r => [r]
  | x :: l, r => if x.f1 < r.f1 then x :: pput l r else r :: x :: l
def stateV (s : Sh) (t : Int) : Int × Int :=
  if s.P.any (fun r => decide (r.f1 = t)) = true then (1, 0)
  else match s.E.find? (fun e => decide (e.1 = t)) with
  | none => (0, 0)
  | some e => if e.2 = 0 then (3, 0) else (2, e.2)
def wrote (r : Rec) (k : Key) : Bool := r.f8.any (fun w => kb w.f0 == k)
def watches (r : Rec) (k : Key) : Bool := r.f7.any (fun q => kb q == k)
def heldR (r : Rec) (k : Key) (write : Bool) : Bool := wrote r k || (write && watches r k)
def heldV (s : Sh) (k : Key) (write : Bool) : Bool := s.P.any (fun r => heldR r k write)
def prepV (s : Sh) (r : Rec) : Int × Sh :=
  if 0 < (stateV s r.f1).1 then (6, s)
  else if (r.f7.any (fun k => heldV s (kb k) false) || r.f8.any (fun w => heldV s (kb w.f0) true)) = true then (180, s)
  else if 1024 ≤ s.P.length then (2, s)
  else (0, { s with P := pput s.P r })
def wkey (w : Wr) : Key := kb w.f0
/-- The keys counted with w's. -/
def cntK (K : List (Key × Chain)) (n : Nat) (w : Wr) : Nat := if (look K (wkey w)).isEmpty = true then n + 1 else n
/-- .. while there is room. -/
def roomN (K : List (Key × Chain)) : Nat → List Wr → Int
  | _, [] => 0
  | n, w :: l => if 1024 ≤ (look K (wkey w)).length ∨ 1024 < cntK K n w then 2 else roomN K (cntK K n w) l
def roomV (s : Sh) (l : List Wr) (ts : Int) : Int :=
  if l.any (fun w => decide (ts ≤ lastV (look s.K (wkey w)))) = true then 110 else roomN s.K s.K.length l
def put1 (ts : Int) (K : List (Key × Chain)) (w : Wr) : List (Key × Chain) := kput K (wkey w) (look K (wkey w) ++ [⟨ts, w.f1, w.f2⟩])
def putV (K : List (Key × Chain)) (l : List Wr) (ts : Int) : List (Key × Chain) := l.foldl (put1 ts) K
def endE (E : List (Int × Int)) (x : Int × Int) : List (Int × Int) := if 1024 < (E ++ [x]).length then (E ++ [x]).drop 1 else E ++ [x]
def endV (s : Sh) (t ts : Int) : Sh := { s with P := s.P.filter (fun r => !decide (r.f1 = t)), E := endE s.E (t, ts) }
def writesOf (s : Sh) (t : Int) : List Wr := ((s.P.find? (fun r => decide (r.f1 = t))).map (·.f8)).getD []
def doV (s : Sh) (t ts : Int) : Int × Sh :=
  if 1 < (stateV s t).1 ∧ (stateV s t).2 = ts then (6, s)
  else if 1 < (stateV s t).1 then (120, s)
  else if (stateV s t).1 = 1 ∧ 0 < ts then
    (if roomV s (writesOf s t) ts = 0 then (0, endV { s with K := putV s.K (writesOf s t) ts } t ts) else (roomV s (writesOf s t) ts, s))
  else (0, endV s t ts)
def sweepK (K : List (Key × Chain)) (t : Int) : List (Key × Chain) := (K.map (fun p => (p.1, sweepC p.2 t))).filter (fun p => !p.2.isEmpty)
def sweepV (s : Sh) (t : Int) : Int × Sh := if t < s.over then (110, s) else (0, { s with over := t, K := sweepK s.K t })
def okR (r : Rec) : Int := recV r.f0 r.f1 r.f2 r.f3 r.f4 r.f5 r.f6 r.f7 r.f8
def verW (r : Rec) : Wr := ⟨r.f4, r.f5, r.f6⟩
def applyV (s : Sh) (r : Rec) : Int × Sh :=
  if okR r = 0 then
    (if r.f0 = 1 then prepV s r
    else if r.f0 = 2 then doV s r.f1 r.f2
    else if r.f0 = 4 then sweepV s r.f2
    else if r.f0 = 3 then (if roomV s [verW r] r.f2 = 0 then (0, { s with K := putV s.K [verW r] r.f2 }) else (roomV s [verW r] r.f2, s))
    else (80, s))
  else (okR r, s)
def readV (s : Sh) (k : Key) (t : Int) : Int × Ver :=
  if t < s.over then (4, zVer)
  else if heldV s k false = true then (3, zVer)
  else if (atV (look s.K k) t).2 = false then (0, (atV (look s.K k) t).1)
  else if (atV (look s.K k) t).1.f2 = true then (2, (atV (look s.K k) t).1)
  else (1, (atV (look s.K k) t).1)
def sh0 : Sh := ⟨[], [], [], 0⟩
def madeV (l : List Rec) : Sh := (l.take 60).foldl (fun s r => (applyV s r).2) sh0
end Go.Proofs.YtaldfbmjmpkmmaaGreat.PL
namespace Go.Proofs.YtaldfbmjmpkmmaaGreat.PL
open Go.RowKit Go.Proofs.YtaldfbmjmpkmmaaGreatW.PrintWords Go.Proofs.YtaldfbmjmpkmmaaGreatW.PrintLast Go.Proofs.YtaldfbmjmpkmmaaGreatW.PrintMore
set_option linter.unusedVariables false
set_option linter.unusedSimpArgs false
/-- An ended transaction. -/
def kEnd : Kd (Int × Int) := Kd.pair (Kd.int .i64) (Kd.int .i64)
theorem kEnd_open {w : World} {x : Int × Int} {cs : List Value} (h : kEnd.K w x cs) : cs = [.int .i64 x.1, .int .i64 x.2] := by
  obtain ⟨_, _, rfl, rfl, rfl⟩ := h
  exact rfl
theorem kEnd_mk (w : World) (x : Int × Int) : kEnd.K w x [.int .i64 x.1, .int .i64 x.2] := ⟨[.int .i64 x.1], [.int .i64 x.2], rfl, rfl, rfl⟩
theorem kEnd_mkM (w : World) (base : Nat) (ok : Nat → Prop) (x : Int × Int) : kEnd.M w base ok x [.int .i64 x.1, .int .i64 x.2] := ⟨[.int .i64 x.1], [.int .i64 x.2], rfl, rfl, rfl⟩
theorem infoV : (Tryz.prog.info? 43).map (fun i => (i.zero, i.size, i.bytes)) = some (some (.agg #[.int .i64 0, .string ⟨#[]⟩, .bool false]), 3, 32) := by kernel_rfl
theorem infoW : (Tryz.prog.info? 57).map (fun i => (i.zero, i.size, i.bytes)) = some (some (.agg #[.string ⟨#[]⟩, .string ⟨#[]⟩, .bool false]), 3, 40) := by kernel_rfl
theorem infoE : (Tryz.prog.info? 76).map (fun i => (i.zero, i.size, i.bytes)) = some (some (.agg #[.int .i64 0, .int .i64 0]), 2, 16) := by kernel_rfl
theorem infoS : (Tryz.prog.info? 9).map (fun i => (i.zero, i.size, i.bytes)) = some (some (.string ⟨#[]⟩), 1, 16) := by kernel_rfl
theorem C_none {α : Type} {d : Kd α} {w : World} {n : Nat} {xs : List α} (h : d.C w none n xs) : xs = [] := by
  have h1 := h.1
  rcases Nat.eq_zero_or_pos n with h0 | h0
  · exact List.eq_nil_of_length_eq_zero (by omega)
  · obtain ⟨ad, e, _⟩ := h.2.2 h0
    cases e
set_option maxRecDepth 100000 in
set_option maxHeartbeats 1000000 in
theorem clone_ver (w : World) (A : Option Addr) (c : Nat) (xs : List Ver) (hr : Kd.C k43 w A xs.length xs) (hl : xs.length ≤ 8192) :
    Calls Tryz.prog 110 #[.slice A xs.length c] w fun e w' => ∃ v, e = .returned v ∧ Kd.R k43 43 w' w.heap.size (fun _ => True) v xs ∧ Below w.heap.size w w' := by
  cases A with
  | none =>
    obtain rfl := C_none hr
    have q : ∀ w, (binOp .eql 74 (.slice none 0 c) (.slice none 0 0)).run Tryz.prog w = .ok (.bool true) w := fun w => Lib.run_eql_slice_nil (P := Tryz.prog) w 74 _ none 0 c 0 0 Tryz.underlying74
    show Calls Tryz.prog 110 #[.slice none 0 c] w _
    clear hr hl
    go_enter Tryz.func110, Tryz.ntmps110
    go_wp2
    go_ret
    exact ⟨_, rfl, Kd.R_nil _ _ _ _ _, Below.refl _ _⟩
  | some ad =>
    have q : ∀ w, (binOp .eql 74 (.slice (some ad) xs.length c) (.slice none 0 0)).run Tryz.prog w = .ok (.bool false) w := fun w => Lib.run_eql_slice_nil (P := Tryz.prog) w 74 _ (some ad) xs.length c 0 0 Tryz.underlying74
    have HR := Aside0.mk hr
    have HL := Aside0.mk hl
    clear hr hl
    go_enter Tryz.func110, Tryz.ntmps110
    go_wp2_with (first | ((with_reducible refine gate_dst (N := 5) rfl ?_); refine Kd.R_lit k43 _ 43 ?hg (N := 5) ?hd (xs := ([] : List Ver)) (inner := []) (ok := fun _ => True) (okp := fun _ => True) ?hr ?hp (fun _ hk => hk) trivial (Below.refl _ _) (Nat.le_refl _) (by simp) ?_; (case hd => rfl); (case hg => rfl); (case hr => first | (go_simp; done) | (go_simp; rfl)); (case hp => exact (Reps.none _ _)); intro v1 w1 ho hb hg_ hnew_; have HO := Aside0.mk ho; have HB := Aside0.mk hb; clear ho hb hg_ hnew_) | ((with_reducible refine gate_builtin (b := .append) (xs := #[.tmp 5, .tmp 6]) rfl ?_); at_builtin; refine Kd.R_append_rows k43 (w0 := w) w.heap.size rfl (.tmp 5) (.tmp 6) 74 43 (.agg #[.int .i64 0, .string ⟨#[]⟩, .bool false]) 32 rfl Tryz.underlying74 infoV rfl (by decide) (by omega) v1 [] xs (some ad) xs.length c (fun _ => True) (fun _ => False) rfl rfl HO.out (Kd.C_below HR.out HB.out) (fun _ _ h => h) (fun _ h => h.elim) (fun _ _ => trivial) HB.out HB.out.size (by have := HL.out; simp only [List.length_nil]; omega) ?_; intro v2 w2 ho hb hg hat; have HO2 := Aside0.mk ho; have HB2 := Aside0.mk hb; clear ho hb hg hat))
    go_ret
    exact ⟨_, rfl, by simpa using HO2.out, HB2.out⟩
set_option maxRecDepth 100000 in
set_option maxHeartbeats 1000000 in
theorem clone_wr (w : World) (A : Option Addr) (c : Nat) (xs : List Wr) (hr : Kd.C k57 w A xs.length xs) (hl : xs.length ≤ 8192) :
    Calls Tryz.prog 69 #[.slice A xs.length c] w fun e w' => ∃ v, e = .returned v ∧ Kd.R k57 57 w' w.heap.size (fun _ => True) v xs ∧ Below w.heap.size w w' := by
  cases A with
  | none =>
    obtain rfl := C_none hr
    have q : ∀ w, (binOp .eql 24 (.slice none 0 c) (.slice none 0 0)).run Tryz.prog w = .ok (.bool true) w := fun w => Lib.run_eql_slice_nil (P := Tryz.prog) w 24 _ none 0 c 0 0 Tryz.underlying24
    show Calls Tryz.prog 69 #[.slice none 0 c] w _
    clear hr hl
    go_enter Tryz.func69, Tryz.ntmps69
    go_wp2
    go_ret
    exact ⟨_, rfl, Kd.R_nil _ _ _ _ _, Below.refl _ _⟩
  | some ad =>
    have q : ∀ w, (binOp .eql 24 (.slice (some ad) xs.length c) (.slice none 0 0)).run Tryz.prog w = .ok (.bool false) w := fun w => Lib.run_eql_slice_nil (P := Tryz.prog) w 24 _ (some ad) xs.length c 0 0 Tryz.underlying24
    have HR := Aside0.mk hr
    have HL := Aside0.mk hl
    clear hr hl
    go_enter Tryz.func69, Tryz.ntmps69
    go_wp2_with (first | ((with_reducible refine gate_dst (N := 5) rfl ?_); refine Kd.R_lit k57 _ 57 ?hg (N := 5) ?hd (xs := ([] : List Wr)) (inner := []) (ok := fun _ => True) (okp := fun _ => True) ?hr ?hp (fun _ hk => hk) trivial (Below.refl _ _) (Nat.le_refl _) (by simp) ?_; (case hd => rfl); (case hg => rfl); (case hr => first | (go_simp; done) | (go_simp; rfl)); (case hp => exact (Reps.none _ _)); intro v1 w1 ho hb hg_ hnew_; have HO := Aside0.mk ho; have HB := Aside0.mk hb; clear ho hb hg_ hnew_) | ((with_reducible refine gate_builtin (b := .append) (xs := #[.tmp 5, .tmp 6]) rfl ?_); at_builtin; refine Kd.R_append_rows k57 (w0 := w) w.heap.size rfl (.tmp 5) (.tmp 6) 24 57 (.agg #[.string ⟨#[]⟩, .string ⟨#[]⟩, .bool false]) 40 rfl Tryz.underlying24 infoW rfl (by decide) (by omega) v1 [] xs (some ad) xs.length c (fun _ => True) (fun _ => False) rfl rfl HO.out (Kd.C_below HR.out HB.out) (fun _ _ h => h) (fun _ h => h.elim) (fun _ _ => trivial) HB.out HB.out.size (by have := HL.out; simp only [List.length_nil]; omega) ?_; intro v2 w2 ho hb hg hat; have HO2 := Aside0.mk ho; have HB2 := Aside0.mk hb; clear ho hb hg hat))
    go_ret
    exact ⟨_, rfl, by simpa using HO2.out, HB2.out⟩
set_option maxRecDepth 100000 in
set_option maxHeartbeats 1000000 in
theorem clone_str (w : World) (A : Option Addr) (c : Nat) (xs : List ByteArray) (hr : Kd.C Kd.string w A xs.length xs) (hl : xs.length ≤ 8192) :
    Calls Tryz.prog 68 #[.slice A xs.length c] w fun e w' => ∃ v, e = .returned v ∧ Kd.R Kd.string 9 w' w.heap.size (fun _ => True) v xs ∧ Below w.heap.size w w' := by
  cases A with
  | none =>
    obtain rfl := C_none hr
    have q : ∀ w, (binOp .eql 23 (.slice none 0 c) (.slice none 0 0)).run Tryz.prog w = .ok (.bool true) w := fun w => Lib.run_eql_slice_nil (P := Tryz.prog) w 23 _ none 0 c 0 0 Tryz.underlying23
    show Calls Tryz.prog 68 #[.slice none 0 c] w _
    clear hr hl
    go_enter Tryz.func68, Tryz.ntmps68
    go_wp2
    go_ret
    exact ⟨_, rfl, Kd.R_nil _ _ _ _ _, Below.refl _ _⟩
  | some ad =>
    have q : ∀ w, (binOp .eql 23 (.slice (some ad) xs.length c) (.slice none 0 0)).run Tryz.prog w = .ok (.bool false) w := fun w => Lib.run_eql_slice_nil (P := Tryz.prog) w 23 _ (some ad) xs.length c 0 0 Tryz.underlying23
    have HR := Aside0.mk hr
    have HL := Aside0.mk hl
    clear hr hl
    go_enter Tryz.func68, Tryz.ntmps68
    go_wp2_with (first | ((with_reducible refine gate_dst (N := 5) rfl ?_); refine Kd.R_lit Kd.string _ 9 ?hg (N := 5) ?hd (xs := ([] : List ByteArray)) (inner := []) (ok := fun _ => True) (okp := fun _ => True) ?hr ?hp (fun _ hk => hk) trivial (Below.refl _ _) (Nat.le_refl _) (by simp) ?_; (case hd => rfl); (case hg => rfl); (case hr => first | (go_simp; done) | (go_simp; rfl)); (case hp => exact (Reps.none _ _)); intro v1 w1 ho hb hg_ hnew_; have HO := Aside0.mk ho; have HB := Aside0.mk hb; clear ho hb hg_ hnew_) | ((with_reducible refine gate_builtin (b := .append) (xs := #[.tmp 5, .tmp 6]) rfl ?_); at_builtin; refine Kd.R_append_rows Kd.string (w0 := w) w.heap.size rfl (.tmp 5) (.tmp 6) 23 9 (.string ⟨#[]⟩) 16 rfl Tryz.underlying23 infoS rfl (by decide) (by omega) v1 [] xs (some ad) xs.length c (fun _ => True) (fun _ => False) rfl rfl HO.out (Kd.C_below HR.out HB.out) (fun _ _ h => h) (fun _ h => h.elim) (fun _ _ => trivial) HB.out HB.out.size (by have := HL.out; simp only [List.length_nil]; omega) ?_; intro v2 w2 ho hb hg hat; have HO2 := Aside0.mk ho; have HB2 := Aside0.mk hb; clear ho hb hg hat))
    go_ret
    exact ⟨_, rfl, by simpa using HO2.out, HB2.out⟩
set_option maxRecDepth 100000 in
set_option maxHeartbeats 1000000 in
theorem clone_end (w : World) (A : Option Addr) (c : Nat) (xs : List (Int × Int)) (hr : Kd.C kEnd w A xs.length xs) (hl : xs.length ≤ 8192) :
    Calls Tryz.prog 44 #[.slice A xs.length c] w fun e w' => ∃ v, e = .returned v ∧ Kd.R kEnd 76 w' w.heap.size (fun _ => True) v xs ∧ Below w.heap.size w w' := by
  cases A with
  | none =>
    obtain rfl := C_none hr
    have q : ∀ w, (binOp .eql 67 (.slice none 0 c) (.slice none 0 0)).run Tryz.prog w = .ok (.bool true) w := fun w => Lib.run_eql_slice_nil (P := Tryz.prog) w 67 _ none 0 c 0 0 Tryz.underlying67
    show Calls Tryz.prog 44 #[.slice none 0 c] w _
    clear hr hl
    go_enter Tryz.func44, Tryz.ntmps44
    go_wp2
    go_ret
    exact ⟨_, rfl, Kd.R_nil _ _ _ _ _, Below.refl _ _⟩
  | some ad =>
    have q : ∀ w, (binOp .eql 67 (.slice (some ad) xs.length c) (.slice none 0 0)).run Tryz.prog w = .ok (.bool false) w := fun w => Lib.run_eql_slice_nil (P := Tryz.prog) w 67 _ (some ad) xs.length c 0 0 Tryz.underlying67
    have HR := Aside0.mk hr
    have HL := Aside0.mk hl
    clear hr hl
    go_enter Tryz.func44, Tryz.ntmps44
    go_wp2_with (first | ((with_reducible refine gate_dst (N := 5) rfl ?_); refine Kd.R_lit kEnd _ 76 ?hg (N := 5) ?hd (xs := ([] : List (Int × Int))) (inner := []) (ok := fun _ => True) (okp := fun _ => True) ?hr ?hp (fun _ hk => hk) trivial (Below.refl _ _) (Nat.le_refl _) (by simp) ?_; (case hd => rfl); (case hg => rfl); (case hr => first | (go_simp; done) | (go_simp; rfl)); (case hp => exact (Reps.none _ _)); intro v1 w1 ho hb hg_ hnew_; have HO := Aside0.mk ho; have HB := Aside0.mk hb; clear ho hb hg_ hnew_) | ((with_reducible refine gate_builtin (b := .append) (xs := #[.tmp 5, .tmp 6]) rfl ?_); at_builtin; refine Kd.R_append_rows kEnd (w0 := w) w.heap.size rfl (.tmp 5) (.tmp 6) 67 76 (.agg #[.int .i64 0, .int .i64 0]) 16 rfl Tryz.underlying67 infoE rfl (by decide) (by omega) v1 [] xs (some ad) xs.length c (fun _ => True) (fun _ => False) rfl rfl HO.out (Kd.C_below HR.out HB.out) (fun _ _ h => h) (fun _ h => h.elim) (fun _ _ => trivial) HB.out HB.out.size (by have := HL.out; simp only [List.length_nil]; omega) ?_; intro v2 w2 ho hb hg hat; have HO2 := Aside0.mk ho; have HB2 := Aside0.mk hb; clear ho hb hg hat))
    go_ret
    exact ⟨_, rfl, by simpa using HO2.out, HB2.out⟩
end Go.Proofs.YtaldfbmjmpkmmaaGreat.PL
namespace Go.Proofs.YtaldfbmjmpkmmaaGreat.PL
open Go.RowKit Go.Proofs.YtaldfbmjmpkmmaaGreatW.PrintWords Go.Proofs.YtaldfbmjmpkmmaaGreatW.PrintLast Go.Proofs.YtaldfbmjmpkmmaaGreatW.PrintMore
set_option linter.unusedVariables false
set_option linter.unusedSimpArgs false
/-- What a function value does at the elements of a list, in whatever world that has come of w. -/
def TellsG {α : Type} (w : World) (g : Nat) (cap : Array Value) (enc : α → Value) (xs : List α) (p : α → Bool) : Prop :=
  ∀ W : World, Below w.heap.size w W → ∀ x, x ∈ xs → Calls Tryz.prog g (#[enc x] ++ cap) W fun e W' => e = .returned (.bool (p x)) ∧ Below W.heap.size W W'
def firstG {α : Type} (p : α → Bool) : List α → Int → Int
  | [], _ => -1
  | x :: r, i => if p x then i else firstG p r (i + 1)
theorem firstG_ge {α : Type} (p : α → Bool) : ∀ (l : List α) (i : Int), 0 ≤ i → (0 ≤ firstG p l i ↔ l.any p = true)
  | [], i, h => by simp [firstG]
  | x :: r, i, h => by
    unfold firstG
    rw [List.any_cons]
    cases hp : p x
    · simp only [Bool.false_or, Bool.false_eq_true, if_false]
      exact firstG_ge p r (i + 1) (by omega)
    · simp [h]
theorem strK_open {w : World} {x : ByteArray} {cs : List Value} (h : Kd.string.K w x cs) : cs = [.string x] := h
set_option maxRecDepth 100000 in
set_option maxHeartbeats 2000000 in
theorem index_wrW (w : World) (A : Option Addr) (c : Nat) (xs : List Wr) (c1 : Value) (p : Wr → Bool) (hr : Kd.C k57 w A xs.length xs) (hp : TellsG w 114 #[c1] (fun x : Wr => .agg #[.string x.f0, .string x.f1, .bool x.f2]) xs p) :
    Calls Tryz.prog 109 #[.slice A xs.length c, .func (.func 114) #[] #[c1]] w fun e w' => e = .returned (.int .i64 (firstG p xs 0)) ∧ Below w.heap.size w w' := by
  have HR := Aside0.mk hr
  have HP := Aside0.mk hp
  have hmax := Kd.C_max hr
  clear hr hp
  go_enter Tryz.func109, Tryz.ntmps109
  go_wp2
  go_loopw [8] (fun i wr => ∃ k : Nat, k ≤ xs.length ∧ i = .int .i64 k ∧ Aside0 (firstG p xs 0 = firstG p (xs.drop k) k) ∧ Aside0 (Below w.heap.size w wr))
    (fun i _ => xs.length - (intOf i).toNat)
  case atStart => exact ⟨0, Nat.zero_le _, rfl, ⟨rfl⟩, ⟨Below.refl _ _⟩⟩
  case round =>
    obtain ⟨k, hk, rfl, HF, HB⟩ := hrel
    by_cases hlt : k < xs.length
    · obtain ⟨ad, cs, rfl, hlen, hK, hc0⟩ := Kd.C_get (Kd.C_below HR.out HB.out) (⟨⟨#[]⟩, ⟨#[]⟩, false⟩ : Wr) (k : Int) (by omega) (by omega)
      rw [Int.toNat_natCast] at hK hc0
      have hc : ∀ j u, cs[j]? = some u → wr.cell? (ad.add (k * 3 + j)) = some u := hc0
      obtain rfl := k57_open hK
      have hc0' : wr.cell? (ad.add (k * 3)) = some (.string (xs.getD k (⟨⟨#[]⟩, ⟨#[]⟩, false⟩ : Wr)).f0) := hc 0 _ rfl
      have hc1 : wr.cell? ⟨(ad.add (k * 3)).block, (ad.add (k * 3)).off + 1, none⟩ = some (.string (xs.getD k (⟨⟨#[]⟩, ⟨#[]⟩, false⟩ : Wr)).f1) := by rw [← add_field _ _ 1 (by omega)]; exact hc 1 _ rfl
      have hc2 : wr.cell? ⟨(ad.add (k * 3)).block, (ad.add (k * 3)).off + 2, none⟩ = some (.bool (xs.getD k (⟨⟨#[]⟩, ⟨#[]⟩, false⟩ : Wr)).f2) := by rw [← add_field _ _ 2 (by omega)]; exact hc 2 _ rfl
      have hmem : xs.getD k (⟨⟨#[]⟩, ⟨#[]⟩, false⟩ : Wr) ∈ xs := by simp [List.getElem?_eq_getElem hlt]
      have hdrop : xs.drop k = xs.getD k (⟨⟨#[]⟩, ⟨#[]⟩, false⟩ : Wr) :: xs.drop (k + 1) := by
        rw [List.drop_eq_getElem_cons hlt]; simp [List.getElem?_eq_getElem hlt]
      have HF2 := HF.out
      rw [hdrop] at HF2
      generalize hx : xs.getD k (⟨⟨#[]⟩, ⟨#[]⟩, false⟩ : Wr) = x at *
      have HM := Aside0.mk hmem
      have HF3 := Aside0.mk HF2
      clear hmem hdrop hx HF2 HF hK hc0 hc hlen
      have hcall := HP.out wr HB.out x HM.out
      cases hpx : p x with
      | true =>
        have HV : Aside0 (firstG p xs 0 = (k : Int)) := ⟨by rw [HF3.out]; unfold firstG; rw [hpx]; rfl⟩
        rw [hpx] at hcall
        clear hpx
        go_wp2_with fail
        refine hcall.mono ?_
        rintro e w1 ⟨rfl, hb1⟩
        have HB1 : Aside0 (Below w.heap.size w w1) := ⟨HB.out.trans (hb1.mono HB.out.size)⟩
        clear hb1 hcall
        go_wp2_with fail
        go_ret
        exact ⟨by rw [HV.out]; rfl, HB1.out⟩
      | false =>
        have HV : Aside0 (firstG p xs 0 = firstG p (xs.drop (k + 1)) ((k + 1 : Nat) : Int)) := ⟨by
          rw [HF3.out]
          show (if p x = true then (k : Int) else firstG p (xs.drop (k + 1)) ((k : Int) + 1)) = _
          rw [hpx]; simp⟩
        rw [hpx] at hcall
        clear hpx
        go_wp2_with fail
        refine hcall.mono ?_
        rintro e w1 ⟨rfl, hb1⟩
        have HB1 : Aside0 (Below w.heap.size w w1) := ⟨HB.out.trans (hb1.mono HB.out.size)⟩
        clear hb1 hcall
        go_wp2_with fail
        go_roundw
        case rel => exact ⟨k + 1, by omega, by go_num, HV, HB1⟩
        case measure => simp [intOf]; omega
    · obtain rfl : k = xs.length := by omega
      have HV : Aside0 (firstG p xs 0 = -1) := ⟨by rw [HF.out, List.drop_of_length_le (Nat.le_refl _)]; rfl⟩
      go_wp2
      go_ret
      exact ⟨by rw [HV.out]; rfl, HB.out⟩
set_option maxRecDepth 100000 in
theorem contains_wrW (w : World) (A : Option Addr) (c : Nat) (xs : List Wr) (c1 : Value) (p : Wr → Bool) (hr : Kd.C k57 w A xs.length xs) (hp : TellsG w 114 #[c1] (fun x : Wr => .agg #[.string x.f0, .string x.f1, .bool x.f2]) xs p) :
    Calls Tryz.prog 75 #[.slice A xs.length c, .func (.func 114) #[] #[c1]] w fun e w' => e = .returned (.bool (xs.any p)) ∧ Below w.heap.size w w' := by
  have hc := index_wrW w A c xs c1 p hr hp
  have hge := firstG_ge p xs 0 (by omega)
  have hval : decide (firstG p xs 0 ≥ 0) = xs.any p := by
    rw [Bool.eq_iff_iff, decide_eq_true_iff]
    exact hge
  generalize firstG p xs 0 = n at hc hval
  have HC := Aside0.mk hc
  have HV := Aside0.mk hval
  clear hc hge hval hr hp
  go_enter Tryz.func75, Tryz.ntmps75
  go_wp2_with fail
  refine HC.out.mono ?_
  rintro e w1 ⟨rfl, hb1⟩
  have HB := Aside0.mk hb1
  clear hb1
  go_wp2_with fail
  go_ret
  exact ⟨by rw [← HV.out]; rfl, HB.out⟩
set_option maxRecDepth 100000 in
set_option maxHeartbeats 2000000 in
theorem index_wrP (w : World) (A : Option Addr) (c : Nat) (xs : List Wr) (c1 : Value) (p : Wr → Bool) (hr : Kd.C k57 w A xs.length xs) (hp : TellsG w 76 #[c1] (fun x : Wr => .agg #[.string x.f0, .string x.f1, .bool x.f2]) xs p) :
    Calls Tryz.prog 109 #[.slice A xs.length c, .func (.func 76) #[] #[c1]] w fun e w' => e = .returned (.int .i64 (firstG p xs 0)) ∧ Below w.heap.size w w' := by
  have HR := Aside0.mk hr
  have HP := Aside0.mk hp
  have hmax := Kd.C_max hr
  clear hr hp
  go_enter Tryz.func109, Tryz.ntmps109
  go_wp2
  go_loopw [8] (fun i wr => ∃ k : Nat, k ≤ xs.length ∧ i = .int .i64 k ∧ Aside0 (firstG p xs 0 = firstG p (xs.drop k) k) ∧ Aside0 (Below w.heap.size w wr))
    (fun i _ => xs.length - (intOf i).toNat)
  case atStart => exact ⟨0, Nat.zero_le _, rfl, ⟨rfl⟩, ⟨Below.refl _ _⟩⟩
  case round =>
    obtain ⟨k, hk, rfl, HF, HB⟩ := hrel
    by_cases hlt : k < xs.length
    · obtain ⟨ad, cs, rfl, hlen, hK, hc0⟩ := Kd.C_get (Kd.C_below HR.out HB.out) (⟨⟨#[]⟩, ⟨#[]⟩, false⟩ : Wr) (k : Int) (by omega) (by omega)
      rw [Int.toNat_natCast] at hK hc0
      have hc : ∀ j u, cs[j]? = some u → wr.cell? (ad.add (k * 3 + j)) = some u := hc0
      obtain rfl := k57_open hK
      have hc0' : wr.cell? (ad.add (k * 3)) = some (.string (xs.getD k (⟨⟨#[]⟩, ⟨#[]⟩, false⟩ : Wr)).f0) := hc 0 _ rfl
      have hc1 : wr.cell? ⟨(ad.add (k * 3)).block, (ad.add (k * 3)).off + 1, none⟩ = some (.string (xs.getD k (⟨⟨#[]⟩, ⟨#[]⟩, false⟩ : Wr)).f1) := by rw [← add_field _ _ 1 (by omega)]; exact hc 1 _ rfl
      have hc2 : wr.cell? ⟨(ad.add (k * 3)).block, (ad.add (k * 3)).off + 2, none⟩ = some (.bool (xs.getD k (⟨⟨#[]⟩, ⟨#[]⟩, false⟩ : Wr)).f2) := by rw [← add_field _ _ 2 (by omega)]; exact hc 2 _ rfl
      have hmem : xs.getD k (⟨⟨#[]⟩, ⟨#[]⟩, false⟩ : Wr) ∈ xs := by simp [List.getElem?_eq_getElem hlt]
      have hdrop : xs.drop k = xs.getD k (⟨⟨#[]⟩, ⟨#[]⟩, false⟩ : Wr) :: xs.drop (k + 1) := by
        rw [List.drop_eq_getElem_cons hlt]; simp [List.getElem?_eq_getElem hlt]
      have HF2 := HF.out
      rw [hdrop] at HF2
      generalize hx : xs.getD k (⟨⟨#[]⟩, ⟨#[]⟩, false⟩ : Wr) = x at *
      have HM := Aside0.mk hmem
      have HF3 := Aside0.mk HF2
      clear hmem hdrop hx HF2 HF hK hc0 hc hlen
      have hcall := HP.out wr HB.out x HM.out
      cases hpx : p x with
      | true =>
        have HV : Aside0 (firstG p xs 0 = (k : Int)) := ⟨by rw [HF3.out]; unfold firstG; rw [hpx]; rfl⟩
        rw [hpx] at hcall
        clear hpx
        go_wp2_with fail
        refine hcall.mono ?_
        rintro e w1 ⟨rfl, hb1⟩
        have HB1 : Aside0 (Below w.heap.size w w1) := ⟨HB.out.trans (hb1.mono HB.out.size)⟩
        clear hb1 hcall
        go_wp2_with fail
        go_ret
        exact ⟨by rw [HV.out]; rfl, HB1.out⟩
      | false =>
        have HV : Aside0 (firstG p xs 0 = firstG p (xs.drop (k + 1)) ((k + 1 : Nat) : Int)) := ⟨by
          rw [HF3.out]
          show (if p x = true then (k : Int) else firstG p (xs.drop (k + 1)) ((k : Int) + 1)) = _
          rw [hpx]; simp⟩
        rw [hpx] at hcall
        clear hpx
        go_wp2_with fail
        refine hcall.mono ?_
        rintro e w1 ⟨rfl, hb1⟩
        have HB1 : Aside0 (Below w.heap.size w w1) := ⟨HB.out.trans (hb1.mono HB.out.size)⟩
        clear hb1 hcall
        go_wp2_with fail
        go_roundw
        case rel => exact ⟨k + 1, by omega, by go_num, HV, HB1⟩
        case measure => simp [intOf]; omega
    · obtain rfl : k = xs.length := by omega
      have HV : Aside0 (firstG p xs 0 = -1) := ⟨by rw [HF.out, List.drop_of_length_le (Nat.le_refl _)]; rfl⟩
      go_wp2
      go_ret
      exact ⟨by rw [HV.out]; rfl, HB.out⟩
set_option maxRecDepth 100000 in
theorem contains_wrP (w : World) (A : Option Addr) (c : Nat) (xs : List Wr) (c1 : Value) (p : Wr → Bool) (hr : Kd.C k57 w A xs.length xs) (hp : TellsG w 76 #[c1] (fun x : Wr => .agg #[.string x.f0, .string x.f1, .bool x.f2]) xs p) :
    Calls Tryz.prog 75 #[.slice A xs.length c, .func (.func 76) #[] #[c1]] w fun e w' => e = .returned (.bool (xs.any p)) ∧ Below w.heap.size w w' := by
  have hc := index_wrP w A c xs c1 p hr hp
  have hge := firstG_ge p xs 0 (by omega)
  have hval : decide (firstG p xs 0 ≥ 0) = xs.any p := by
    rw [Bool.eq_iff_iff, decide_eq_true_iff]
    exact hge
  generalize firstG p xs 0 = n at hc hval
  have HC := Aside0.mk hc
  have HV := Aside0.mk hval
  clear hc hge hval hr hp
  go_enter Tryz.func75, Tryz.ntmps75
  go_wp2_with fail
  refine HC.out.mono ?_
  rintro e w1 ⟨rfl, hb1⟩
  have HB := Aside0.mk hb1
  clear hb1
  go_wp2_with fail
  go_ret
  exact ⟨by rw [← HV.out]; rfl, HB.out⟩
set_option maxRecDepth 100000 in
set_option maxHeartbeats 2000000 in
theorem index_wrR (w : World) (A : Option Addr) (c : Nat) (xs : List Wr) (c1 c2 : Value) (p : Wr → Bool) (hr : Kd.C k57 w A xs.length xs) (hp : TellsG w 80 #[c1, c2] (fun x : Wr => .agg #[.string x.f0, .string x.f1, .bool x.f2]) xs p) :
    Calls Tryz.prog 109 #[.slice A xs.length c, .func (.func 80) #[] #[c1, c2]] w fun e w' => e = .returned (.int .i64 (firstG p xs 0)) ∧ Below w.heap.size w w' := by
  have HR := Aside0.mk hr
  have HP := Aside0.mk hp
  have hmax := Kd.C_max hr
  clear hr hp
  go_enter Tryz.func109, Tryz.ntmps109
  go_wp2
  go_loopw [8] (fun i wr => ∃ k : Nat, k ≤ xs.length ∧ i = .int .i64 k ∧ Aside0 (firstG p xs 0 = firstG p (xs.drop k) k) ∧ Aside0 (Below w.heap.size w wr))
    (fun i _ => xs.length - (intOf i).toNat)
  case atStart => exact ⟨0, Nat.zero_le _, rfl, ⟨rfl⟩, ⟨Below.refl _ _⟩⟩
  case round =>
    obtain ⟨k, hk, rfl, HF, HB⟩ := hrel
    by_cases hlt : k < xs.length
    · obtain ⟨ad, cs, rfl, hlen, hK, hc0⟩ := Kd.C_get (Kd.C_below HR.out HB.out) (⟨⟨#[]⟩, ⟨#[]⟩, false⟩ : Wr) (k : Int) (by omega) (by omega)
      rw [Int.toNat_natCast] at hK hc0
      have hc : ∀ j u, cs[j]? = some u → wr.cell? (ad.add (k * 3 + j)) = some u := hc0
      obtain rfl := k57_open hK
      have hc0' : wr.cell? (ad.add (k * 3)) = some (.string (xs.getD k (⟨⟨#[]⟩, ⟨#[]⟩, false⟩ : Wr)).f0) := hc 0 _ rfl
      have hc1 : wr.cell? ⟨(ad.add (k * 3)).block, (ad.add (k * 3)).off + 1, none⟩ = some (.string (xs.getD k (⟨⟨#[]⟩, ⟨#[]⟩, false⟩ : Wr)).f1) := by rw [← add_field _ _ 1 (by omega)]; exact hc 1 _ rfl
      have hc2 : wr.cell? ⟨(ad.add (k * 3)).block, (ad.add (k * 3)).off + 2, none⟩ = some (.bool (xs.getD k (⟨⟨#[]⟩, ⟨#[]⟩, false⟩ : Wr)).f2) := by rw [← add_field _ _ 2 (by omega)]; exact hc 2 _ rfl
      have hmem : xs.getD k (⟨⟨#[]⟩, ⟨#[]⟩, false⟩ : Wr) ∈ xs := by simp [List.getElem?_eq_getElem hlt]
      have hdrop : xs.drop k = xs.getD k (⟨⟨#[]⟩, ⟨#[]⟩, false⟩ : Wr) :: xs.drop (k + 1) := by
        rw [List.drop_eq_getElem_cons hlt]; simp [List.getElem?_eq_getElem hlt]
      have HF2 := HF.out
      rw [hdrop] at HF2
      generalize hx : xs.getD k (⟨⟨#[]⟩, ⟨#[]⟩, false⟩ : Wr) = x at *
      have HM := Aside0.mk hmem
      have HF3 := Aside0.mk HF2
      clear hmem hdrop hx HF2 HF hK hc0 hc hlen
      have hcall := HP.out wr HB.out x HM.out
      cases hpx : p x with
      | true =>
        have HV : Aside0 (firstG p xs 0 = (k : Int)) := ⟨by rw [HF3.out]; unfold firstG; rw [hpx]; rfl⟩
        rw [hpx] at hcall
        clear hpx
        go_wp2_with fail
        refine hcall.mono ?_
        rintro e w1 ⟨rfl, hb1⟩
        have HB1 : Aside0 (Below w.heap.size w w1) := ⟨HB.out.trans (hb1.mono HB.out.size)⟩
        clear hb1 hcall
        go_wp2_with fail
        go_ret
        exact ⟨by rw [HV.out]; rfl, HB1.out⟩
      | false =>
        have HV : Aside0 (firstG p xs 0 = firstG p (xs.drop (k + 1)) ((k + 1 : Nat) : Int)) := ⟨by
          rw [HF3.out]
          show (if p x = true then (k : Int) else firstG p (xs.drop (k + 1)) ((k : Int) + 1)) = _
          rw [hpx]; simp⟩
        rw [hpx] at hcall
        clear hpx
        go_wp2_with fail
        refine hcall.mono ?_
        rintro e w1 ⟨rfl, hb1⟩
        have HB1 : Aside0 (Below w.heap.size w w1) := ⟨HB.out.trans (hb1.mono HB.out.size)⟩
        clear hb1 hcall
        go_wp2_with fail
        go_roundw
        case rel => exact ⟨k + 1, by omega, by go_num, HV, HB1⟩
        case measure => simp [intOf]; omega
    · obtain rfl : k = xs.length := by omega
      have HV : Aside0 (firstG p xs 0 = -1) := ⟨by rw [HF.out, List.drop_of_length_le (Nat.le_refl _)]; rfl⟩
      go_wp2
      go_ret
      exact ⟨by rw [HV.out]; rfl, HB.out⟩
set_option maxRecDepth 100000 in
theorem contains_wrR (w : World) (A : Option Addr) (c : Nat) (xs : List Wr) (c1 c2 : Value) (p : Wr → Bool) (hr : Kd.C k57 w A xs.length xs) (hp : TellsG w 80 #[c1, c2] (fun x : Wr => .agg #[.string x.f0, .string x.f1, .bool x.f2]) xs p) :
    Calls Tryz.prog 75 #[.slice A xs.length c, .func (.func 80) #[] #[c1, c2]] w fun e w' => e = .returned (.bool (xs.any p)) ∧ Below w.heap.size w w' := by
  have hc := index_wrR w A c xs c1 c2 p hr hp
  have hge := firstG_ge p xs 0 (by omega)
  have hval : decide (firstG p xs 0 ≥ 0) = xs.any p := by
    rw [Bool.eq_iff_iff, decide_eq_true_iff]
    exact hge
  generalize firstG p xs 0 = n at hc hval
  have HC := Aside0.mk hc
  have HV := Aside0.mk hval
  clear hc hge hval hr hp
  go_enter Tryz.func75, Tryz.ntmps75
  go_wp2_with fail
  refine HC.out.mono ?_
  rintro e w1 ⟨rfl, hb1⟩
  have HB := Aside0.mk hb1
  clear hb1
  go_wp2_with fail
  go_ret
  exact ⟨by rw [← HV.out]; rfl, HB.out⟩
set_option maxRecDepth 100000 in
set_option maxHeartbeats 2000000 in
theorem index_strP (w : World) (A : Option Addr) (c : Nat) (xs : List ByteArray) (c1 : Value) (p : ByteArray → Bool) (hr : Kd.C Kd.string w A xs.length xs) (hp : TellsG w 74 #[c1] (fun x : ByteArray => .string x) xs p) :
    Calls Tryz.prog 108 #[.slice A xs.length c, .func (.func 74) #[] #[c1]] w fun e w' => e = .returned (.int .i64 (firstG p xs 0)) ∧ Below w.heap.size w w' := by
  have HR := Aside0.mk hr
  have HP := Aside0.mk hp
  have hmax := Kd.C_max hr
  clear hr hp
  go_enter Tryz.func108, Tryz.ntmps108
  go_wp2
  go_loopw [8] (fun i wr => ∃ k : Nat, k ≤ xs.length ∧ i = .int .i64 k ∧ Aside0 (firstG p xs 0 = firstG p (xs.drop k) k) ∧ Aside0 (Below w.heap.size w wr))
    (fun i _ => xs.length - (intOf i).toNat)
  case atStart => exact ⟨0, Nat.zero_le _, rfl, ⟨rfl⟩, ⟨Below.refl _ _⟩⟩
  case round =>
    obtain ⟨k, hk, rfl, HF, HB⟩ := hrel
    by_cases hlt : k < xs.length
    · obtain ⟨ad, cs, rfl, hlen, hK, hc0⟩ := Kd.C_get (Kd.C_below HR.out HB.out) (⟨#[]⟩ : ByteArray) (k : Int) (by omega) (by omega)
      rw [Int.toNat_natCast] at hK hc0
      have hc : ∀ j u, cs[j]? = some u → wr.cell? (ad.add (k * 1 + j)) = some u := hc0
      obtain rfl := strK_open hK
      have hc0' : wr.cell? (ad.add k) = some (.string (xs.getD k (⟨#[]⟩ : ByteArray))) := by have := hc 0 _ rfl; simpa using this
      have hmem : xs.getD k (⟨#[]⟩ : ByteArray) ∈ xs := by simp [List.getElem?_eq_getElem hlt]
      have hdrop : xs.drop k = xs.getD k (⟨#[]⟩ : ByteArray) :: xs.drop (k + 1) := by
        rw [List.drop_eq_getElem_cons hlt]; simp [List.getElem?_eq_getElem hlt]
      have HF2 := HF.out
      rw [hdrop] at HF2
      generalize hx : xs.getD k (⟨#[]⟩ : ByteArray) = x at *
      have HM := Aside0.mk hmem
      have HF3 := Aside0.mk HF2
      clear hmem hdrop hx HF2 HF hK hc0 hc hlen
      have hcall := HP.out wr HB.out x HM.out
      cases hpx : p x with
      | true =>
        have HV : Aside0 (firstG p xs 0 = (k : Int)) := ⟨by rw [HF3.out]; unfold firstG; rw [hpx]; rfl⟩
        rw [hpx] at hcall
        clear hpx
        go_wp2_with fail
        refine hcall.mono ?_
        rintro e w1 ⟨rfl, hb1⟩
        have HB1 : Aside0 (Below w.heap.size w w1) := ⟨HB.out.trans (hb1.mono HB.out.size)⟩
        clear hb1 hcall
        go_wp2_with fail
        go_ret
        exact ⟨by rw [HV.out]; rfl, HB1.out⟩
      | false =>
        have HV : Aside0 (firstG p xs 0 = firstG p (xs.drop (k + 1)) ((k + 1 : Nat) : Int)) := ⟨by
          rw [HF3.out]
          show (if p x = true then (k : Int) else firstG p (xs.drop (k + 1)) ((k : Int) + 1)) = _
          rw [hpx]; simp⟩
        rw [hpx] at hcall
        clear hpx
        go_wp2_with fail
        refine hcall.mono ?_
        rintro e w1 ⟨rfl, hb1⟩
        have HB1 : Aside0 (Below w.heap.size w w1) := ⟨HB.out.trans (hb1.mono HB.out.size)⟩
        clear hb1 hcall
        go_wp2_with fail
        go_roundw
        case rel => exact ⟨k + 1, by omega, by go_num, HV, HB1⟩
        case measure => simp [intOf]; omega
    · obtain rfl : k = xs.length := by omega
      have HV : Aside0 (firstG p xs 0 = -1) := ⟨by rw [HF.out, List.drop_of_length_le (Nat.le_refl _)]; rfl⟩
      go_wp2
      go_ret
      exact ⟨by rw [HV.out]; rfl, HB.out⟩
set_option maxRecDepth 100000 in
theorem contains_strP (w : World) (A : Option Addr) (c : Nat) (xs : List ByteArray) (c1 : Value) (p : ByteArray → Bool) (hr : Kd.C Kd.string w A xs.length xs) (hp : TellsG w 74 #[c1] (fun x : ByteArray => .string x) xs p) :
    Calls Tryz.prog 73 #[.slice A xs.length c, .func (.func 74) #[] #[c1]] w fun e w' => e = .returned (.bool (xs.any p)) ∧ Below w.heap.size w w' := by
  have hc := index_strP w A c xs c1 p hr hp
  have hge := firstG_ge p xs 0 (by omega)
  have hval : decide (firstG p xs 0 ≥ 0) = xs.any p := by
    rw [Bool.eq_iff_iff, decide_eq_true_iff]
    exact hge
  generalize firstG p xs 0 = n at hc hval
  have HC := Aside0.mk hc
  have HV := Aside0.mk hval
  clear hc hge hval hr hp
  go_enter Tryz.func73, Tryz.ntmps73
  go_wp2_with fail
  refine HC.out.mono ?_
  rintro e w1 ⟨rfl, hb1⟩
  have HB := Aside0.mk hb1
  clear hb1
  go_wp2_with fail
  go_ret
  exact ⟨by rw [← HV.out]; rfl, HB.out⟩
set_option maxRecDepth 100000 in
set_option maxHeartbeats 2000000 in
theorem index_endS (w : World) (A : Option Addr) (c : Nat) (xs : List (Int × Int)) (c1 : Value) (p : (Int × Int) → Bool) (hr : Kd.C kEnd w A xs.length xs) (hp : TellsG w 64 #[c1] (fun x : (Int × Int) => .agg #[.int .i64 x.1, .int .i64 x.2]) xs p) :
    Calls Tryz.prog 63 #[.slice A xs.length c, .func (.func 64) #[] #[c1]] w fun e w' => e = .returned (.int .i64 (firstG p xs 0)) ∧ Below w.heap.size w w' := by
  have HR := Aside0.mk hr
  have HP := Aside0.mk hp
  have hmax := Kd.C_max hr
  clear hr hp
  go_enter Tryz.func63, Tryz.ntmps63
  go_wp2
  go_loopw [8] (fun i wr => ∃ k : Nat, k ≤ xs.length ∧ i = .int .i64 k ∧ Aside0 (firstG p xs 0 = firstG p (xs.drop k) k) ∧ Aside0 (Below w.heap.size w wr))
    (fun i _ => xs.length - (intOf i).toNat)
  case atStart => exact ⟨0, Nat.zero_le _, rfl, ⟨rfl⟩, ⟨Below.refl _ _⟩⟩
  case round =>
    obtain ⟨k, hk, rfl, HF, HB⟩ := hrel
    by_cases hlt : k < xs.length
    · obtain ⟨ad, cs, rfl, hlen, hK, hc0⟩ := Kd.C_get (Kd.C_below HR.out HB.out) ((0, 0) : Int × Int) (k : Int) (by omega) (by omega)
      rw [Int.toNat_natCast] at hK hc0
      have hc : ∀ j u, cs[j]? = some u → wr.cell? (ad.add (k * 2 + j)) = some u := hc0
      obtain rfl := kEnd_open hK
      have hc0' : wr.cell? (ad.add (k * 2)) = some (.int .i64 (xs.getD k ((0, 0) : Int × Int)).1) := hc 0 _ rfl
      have hc1 : wr.cell? ⟨(ad.add (k * 2)).block, (ad.add (k * 2)).off + 1, none⟩ = some (.int .i64 (xs.getD k ((0, 0) : Int × Int)).2) := by rw [← add_field _ _ 1 (by omega)]; exact hc 1 _ rfl
      have hmem : xs.getD k ((0, 0) : Int × Int) ∈ xs := by simp [List.getElem?_eq_getElem hlt]
      have hdrop : xs.drop k = xs.getD k ((0, 0) : Int × Int) :: xs.drop (k + 1) := by
        rw [List.drop_eq_getElem_cons hlt]; simp [List.getElem?_eq_getElem hlt]
      have HF2 := HF.out
      rw [hdrop] at HF2
      generalize hx : xs.getD k ((0, 0) : Int × Int) = x at *
      have HM := Aside0.mk hmem
      have HF3 := Aside0.mk HF2
      clear hmem hdrop hx HF2 HF hK hc0 hc hlen
      have hcall := HP.out wr HB.out x HM.out
      cases hpx : p x with
      | true =>
        have HV : Aside0 (firstG p xs 0 = (k : Int)) := ⟨by rw [HF3.out]; unfold firstG; rw [hpx]; rfl⟩
        rw [hpx] at hcall
        clear hpx
        go_wp2_with fail
        refine hcall.mono ?_
        rintro e w1 ⟨rfl, hb1⟩
        have HB1 : Aside0 (Below w.heap.size w w1) := ⟨HB.out.trans (hb1.mono HB.out.size)⟩
        clear hb1 hcall
        go_wp2_with fail
        go_ret
        exact ⟨by rw [HV.out]; rfl, HB1.out⟩
      | false =>
        have HV : Aside0 (firstG p xs 0 = firstG p (xs.drop (k + 1)) ((k + 1 : Nat) : Int)) := ⟨by
          rw [HF3.out]
          show (if p x = true then (k : Int) else firstG p (xs.drop (k + 1)) ((k : Int) + 1)) = _
          rw [hpx]; simp⟩
        rw [hpx] at hcall
        clear hpx
        go_wp2_with fail
        refine hcall.mono ?_
        rintro e w1 ⟨rfl, hb1⟩
        have HB1 : Aside0 (Below w.heap.size w w1) := ⟨HB.out.trans (hb1.mono HB.out.size)⟩
        clear hb1 hcall
        go_wp2_with fail
        go_roundw
        case rel => exact ⟨k + 1, by omega, by go_num, HV, HB1⟩
        case measure => simp [intOf]; omega
    · obtain rfl : k = xs.length := by omega
      have HV : Aside0 (firstG p xs 0 = -1) := ⟨by rw [HF.out, List.drop_of_length_le (Nat.le_refl _)]; rfl⟩
      go_wp2
      go_ret
      exact ⟨by rw [HV.out]; rfl, HB.out⟩
end Go.Proofs.YtaldfbmjmpkmmaaGreat.PL
namespace Go.Proofs
open Go.Shelf
def Tryz.search_ren : Go.Shelf.Ren := ⟨fun | 16 => 116 | n => n, fun | 3 => 3 | 35 => 118 | 4 => 4 | 38 => 139 | n => n, fun | n => n⟩
theorem Tryz.search : Go.Proofs.SlLaysO.n16 Tryz.prog Tryz.search_ren := {
  mixed := by kernel_rfl
  f16 := Tryz.func116.trans (congrArg some (by kernel_rfl))
  t3 := Tryz.underlying3
  a3 := Tryz.isAgg3
  z3 := Tryz.sizeOf3
  v3 := Tryz.zeroValue3
  t4 := Tryz.underlying4
  a4 := Tryz.isAgg4
  z4 := Tryz.sizeOf4
  v4 := Tryz.zeroValue4
  t35 := Tryz.underlying118
  a35 := Tryz.isAgg118
  z35 := Tryz.sizeOf118
  v35 := Tryz.zeroValue118
  t38 := Tryz.underlying139
  a38 := Tryz.isAgg139
  z38 := Tryz.sizeOf139
  v38 := Tryz.zeroValue139 }
def Tryz.cloneK_ren : Go.Shelf.Ren := ⟨fun | 5 => 42 | 7 => 89 | n => n, fun | 23 => 65 | 25 => 9 | 3 => 74 | 4 => 4 | 20 => 20 | n => n, fun | n => n⟩
theorem Tryz.cloneK : Go.Proofs.SlLaysW.n5 Tryz.prog Tryz.cloneK_ren := {
  mixed := by kernel_rfl
  f5 := ⟨Tryz.f42.name, by decide, Tryz.func42.trans (congrArg some (by kernel_rfl))⟩
  f7 := Tryz.func89.trans (congrArg some (by kernel_rfl))
  t4 := Tryz.underlying4
  a4 := Tryz.isAgg4
  z4 := Tryz.sizeOf4
  v4 := Tryz.zeroValue4
  t20 := Tryz.underlying20
  a20 := Tryz.isAgg20
  z20 := Tryz.sizeOf20
  v20 := Tryz.zeroValue20
  t23 := Tryz.underlying65
  a23 := Tryz.isAgg65
  z23 := Tryz.sizeOf65
  v23 := Tryz.zeroValue65 }
def Tryz.cloneP_ren : Go.Shelf.Ren := ⟨fun | 5 => 43 | 7 => 89 | n => n, fun | 23 => 66 | 25 => 3 | 3 => 26 | 4 => 4 | 20 => 20 | n => n, fun | n => n⟩
theorem Tryz.cloneP : Go.Proofs.SlLaysW.n5 Tryz.prog Tryz.cloneP_ren := {
  mixed := by kernel_rfl
  f5 := ⟨Tryz.f43.name, by decide, Tryz.func43.trans (congrArg some (by kernel_rfl))⟩
  f7 := Tryz.func89.trans (congrArg some (by kernel_rfl))
  t4 := Tryz.underlying4
  a4 := Tryz.isAgg4
  z4 := Tryz.sizeOf4
  v4 := Tryz.zeroValue4
  t20 := Tryz.underlying20
  a20 := Tryz.isAgg20
  z20 := Tryz.sizeOf20
  v20 := Tryz.zeroValue20
  t23 := Tryz.underlying66
  a23 := Tryz.isAgg66
  z23 := Tryz.sizeOf66
  v23 := Tryz.zeroValue66 }
def Tryz.delK_ren : Go.Shelf.Ren := ⟨fun | 5 => 78 | n => n, fun | 23 => 65 | 26 => 9 | 24 => 74 | 27 => 114 | 0 => 0 | 4 => 4 | n => n, fun | n => n⟩
theorem Tryz.delK : Go.Proofs.SlLaysDf.n5 Tryz.prog Tryz.delK_ren := {
  mixed := by kernel_rfl
  f5 := ⟨Tryz.f78.name, by decide, Tryz.func78.trans (congrArg some (by kernel_rfl))⟩
  t0 := Tryz.underlying0
  a0 := Tryz.isAgg0
  z0 := Tryz.sizeOf0
  v0 := Tryz.zeroValue0
  t4 := Tryz.underlying4
  a4 := Tryz.isAgg4
  z4 := Tryz.sizeOf4
  v4 := Tryz.zeroValue4
  t23 := Tryz.underlying65
  a23 := Tryz.isAgg65
  z23 := Tryz.sizeOf65
  v23 := Tryz.zeroValue65
  a24 := Tryz.isAgg74
  z24 := Tryz.sizeOf74
  a26 := Tryz.isAgg9
  z26 := Tryz.sizeOf9
  t27 := Tryz.underlying114
  a27 := Tryz.isAgg114
  z27 := Tryz.sizeOf114
  v27 := Tryz.zeroValue114 }
def Tryz.growV_ren : Go.Shelf.Ren := ⟨fun | 4 => 134 | n => n, fun | 22 => 74 | 25 => 43 | 3 => 3 | 4 => 4 | 9 => 9 | 20 => 20 | 0 => 0 | n => n, fun | n => n⟩
theorem Tryz.growV : Go.Proofs.Lays8.n4 Tryz.prog Tryz.growV_ren := {
  mixed := by kernel_rfl
  f4 := ⟨Tryz.f134.name, by decide, Tryz.func134.trans (congrArg some (by kernel_rfl))⟩
  t0 := Tryz.underlying0
  a0 := Tryz.isAgg0
  z0 := Tryz.sizeOf0
  v0 := Tryz.zeroValue0
  t3 := Tryz.underlying3
  a3 := Tryz.isAgg3
  z3 := Tryz.sizeOf3
  v3 := Tryz.zeroValue3
  t4 := Tryz.underlying4
  a4 := Tryz.isAgg4
  z4 := Tryz.sizeOf4
  v4 := Tryz.zeroValue4
  t9 := Tryz.underlying9
  a9 := Tryz.isAgg9
  z9 := Tryz.sizeOf9
  v9 := Tryz.zeroValue9
  t20 := Tryz.underlying20
  a20 := Tryz.isAgg20
  z20 := Tryz.sizeOf20
  v20 := Tryz.zeroValue20
  t22 := Tryz.underlying74
  a22 := Tryz.isAgg74
  z22 := Tryz.sizeOf74
  v22 := Tryz.zeroValue74 }
end Go.Proofs
namespace Go.Proofs.YtaldfbmjmpkmmaaGreat.PL
open Go.RowKit
set_option linter.unusedVariables false
set_option linter.unusedSectionVars false
set_option linter.unusedSimpArgs false
/-! keys -/
theorem kl_irrefl (k : Key) : Op.bytesLess k k = false := by
  rw [Go.Proofs.bytesLess_eq]
  simp [List.lt_irrefl]
theorem kl_trans {a b c : Key} (h1 : Op.bytesLess a b = true) (h2 : Op.bytesLess b c = true) : Op.bytesLess a c = true := by
  rw [Go.Proofs.bytesLess_eq] at *
  simp only [decide_eq_true_eq] at *
  exact List.lt_trans h1 h2
theorem kl_tri {a b : Key} (h : Op.bytesLess a b = false) (hne : a ≠ b) : Op.bytesLess b a = true := by
  have := Mk.bytesLess_or_eq a b
  rw [h] at this
  have e : (a == b) = false := by simpa using hne
  rw [e] at this
  simpa using this
theorem kl_ne {a b : Key} (h : Op.bytesLess a b = true) : a ≠ b := fun e => by
  subst e
  rw [kl_irrefl] at h
  cases h
def keysK (K : List (Key × Chain)) : List Key := K.map (·.1)
def Rising (l : List Key) : Prop := l.Pairwise (fun a b => Op.bytesLess a b = true)
theorem Rising.nodup {l : List Key} (h : Rising l) : l.Nodup := h.imp (fun h => kl_ne h)
theorem look_kput (K : List (Key × Chain)) (q x : Key) (c : Chain) : look (kput K q c) x = if q = x then c else look K x := by
  induction K with
  | nil => simp [kput, look]
  | cons p r ih =>
    obtain ⟨k, d⟩ := p
    unfold kput
    by_cases h : k = q
    · subst h
      rw [if_pos rfl]
      simp only [look]
      split <;> rfl
    · rw [if_neg h]
      split
      · simp only [look]
        by_cases hx : k = x
        · subst hx
          rw [if_pos rfl, if_neg (fun e => h e.symm), if_pos rfl]
        · rw [if_neg hx, if_neg hx, ih]
      · simp only [look]
theorem kput_keys (K : List (Key × Chain)) (q x : Key) (c : Chain) : x ∈ keysK (kput K q c) ↔ x = q ∨ x ∈ keysK K := by
  induction K with
  | nil => simp [kput, keysK]
  | cons p r ih =>
    obtain ⟨k, d⟩ := p
    unfold kput
    by_cases h : k = q
    · subst h
      rw [if_pos rfl]
      simp [keysK]
    · rw [if_neg h]
      split
      · simp only [keysK, List.map_cons, List.mem_cons] at ih ⊢
        rw [ih]
        constructor
        · rintro (h1 | h1 | h1)
          · exact .inr (.inl h1)
          · exact .inl h1
          · exact .inr (.inr h1)
        · rintro (h1 | h1 | h1)
          · exact .inr (.inl h1)
          · exact .inl h1
          · exact .inr (.inr h1)
      · simp [keysK]
theorem kput_rising {K : List (Key × Chain)} (h : Rising (keysK K)) (q : Key) (c : Chain) : Rising (keysK (kput K q c)) := by
  induction K with
  | nil => simp [kput, keysK, Rising]
  | cons p r ih =>
    obtain ⟨k, d⟩ := p
    have h' : Rising (k :: keysK r) := h
    obtain ⟨h1, h2⟩ := List.pairwise_cons.1 h'
    unfold kput
    by_cases e : k = q
    · subst e
      rw [if_pos rfl]
      exact h'
    · rw [if_neg e]
      split
      · rename_i hl
        refine List.pairwise_cons.2 ⟨fun y hy => ?_, ih h2⟩
        rcases (kput_keys r q y c).1 hy with rfl | hy
        · exact hl
        · exact h1 y hy
      · rename_i hl
        have hq : Op.bytesLess q k = true := kl_tri (by simpa using hl) e
        refine List.pairwise_cons.2 ⟨fun y hy => ?_, h'⟩
        rcases List.mem_cons.1 hy with rfl | hy
        · exact hq
        · exact kl_trans hq (h1 y hy)
theorem kput_mem {K : List (Key × Chain)} {q : Key} {c : Chain} {p : Key × Chain} (h : p ∈ kput K q c) : p = (q, c) ∨ p ∈ K := by
  induction K with
  | nil => simpa [kput] using h
  | cons x r ih =>
    obtain ⟨k, d⟩ := x
    unfold kput at h
    split at h
    · rcases List.mem_cons.1 h with h | h
      · exact .inl h
      · exact .inr (List.mem_cons_of_mem _ h)
    · split at h
      · rcases List.mem_cons.1 h with h | h
        · exact .inr (by rw [h]; exact List.mem_cons_self)
        · rcases ih h with h | h
          · exact .inl h
          · exact .inr (List.mem_cons_of_mem _ h)
      · rcases List.mem_cons.1 h with h | h
        · exact .inl h
        · exact .inr h
theorem kput_len {K : List (Key × Chain)} (h : Rising (keysK K)) (q : Key) (c : Chain) : (kput K q c).length = if q ∈ keysK K then K.length else K.length + 1 := by
  induction K with
  | nil => simp [kput, keysK]
  | cons p r ih =>
    obtain ⟨k, d⟩ := p
    have h' : Rising (k :: keysK r) := h
    obtain ⟨h1, h2⟩ := List.pairwise_cons.1 h'
    unfold kput
    by_cases e : k = q
    · subst e
      rw [if_pos rfl, if_pos (by simp [keysK])]
      rfl
    · rw [if_neg e]
      split
      · rename_i hl
        have := ih h2
        simp only [List.length_cons]
        rw [this]
        have e2 : (q ∈ keysK ((k, d) :: r)) ↔ q ∈ keysK r := by
          simp only [keysK, List.map_cons, List.mem_cons]
          exact ⟨fun h => h.elim (fun h => absurd h.symm e) id, .inr⟩
        by_cases hq : q ∈ keysK r
        · rw [if_pos hq, if_pos (e2.2 hq)]
        · rw [if_neg hq, if_neg (fun h => hq (e2.1 h))]
      · rename_i hl
        have hq : Op.bytesLess q k = true := kl_tri (by simpa using hl) e
        rw [if_neg]
        · rfl
        · intro hm
          rcases List.mem_cons.1 hm with hm | hm
          · exact e hm.symm
          · have := kl_trans hq (h1 q hm)
            rw [kl_irrefl] at this
            cases this
theorem look_mem {K : List (Key × Chain)} {q : Key} (h : look K q ≠ []) : (q, look K q) ∈ K := by
  induction K with
  | nil => exact absurd rfl h
  | cons p r ih =>
    obtain ⟨k, d⟩ := p
    simp only [look] at h ⊢
    split at h
    · rename_i e
      rw [if_pos e, e]
      exact List.mem_cons_self
    · rename_i e
      rw [if_neg e]
      exact List.mem_cons_of_mem _ (ih h)
theorem look_of_mem {K : List (Key × Chain)} (hs : Rising (keysK K)) {q : Key} {c : Chain} (hm : (q, c) ∈ K) : look K q = c := by
  induction K with
  | nil => simp at hm
  | cons p r ih =>
    obtain ⟨k, d⟩ := p
    have h' : Rising (k :: keysK r) := hs
    obtain ⟨h1, h2⟩ := List.pairwise_cons.1 h'
    simp only [look]
    rcases List.mem_cons.1 hm with hm | hm
    · injection hm with e1 e2
      rw [if_pos e1.symm, e2]
    · have : q ∈ keysK r := List.mem_map.2 ⟨_, hm, rfl⟩
      rw [if_neg (kl_ne (h1 q this)), ih h2 hm]
theorem look_none {K : List (Key × Chain)} {q : Key} (h : q ∉ keysK K) : look K q = [] := by
  cases hl : look K q with
  | nil => rfl
  | cons a b =>
    have := look_mem (K := K) (q := q) (by rw [hl]; simp)
    exact absurd (List.mem_map.2 ⟨_, this, rfl⟩) h
/-- Keys and chains that may be. -/
structure KOk (K : List (Key × Chain)) : Prop where
  rise : Rising (keysK K)
  chain : ∀ p ∈ K, p.2 ≠ [] ∧ ChainOk p.2
  few : K.length ≤ 1024
theorem KOk.nil : KOk [] := ⟨by simp [keysK, Rising], by simp, by simp⟩
theorem KOk.look {K : List (Key × Chain)} (h : KOk K) (q : Key) : ChainOk (look K q) := by
  by_cases e : PL.look K q = []
  · rw [e]; exact ChainOk.nil
  · exact (h.chain _ (look_mem e)).2
theorem KOk.iff {K : List (Key × Chain)} (h : KOk K) (q : Key) : PL.look K q = [] ↔ q ∉ keysK K := by
  constructor
  · intro e hq
    obtain ⟨p, hp, rfl⟩ := List.mem_map.1 hq
    have := look_of_mem h.rise (q := p.1) (c := p.2) hp
    exact (h.chain p hp).1 (this.symm.trans e)
  · exact look_none
/-! chains -/
theorem until_le (c : Chain) (t : Int) : untilV c t ≤ c.length := (List.takeWhile_prefix _).length_le
theorem until_cons (v : Ver) (c : Chain) (t : Int) : untilV (v :: c) t = if v.f0 ≤ t then untilV c t + 1 else 0 := by
  unfold untilV
  rw [List.takeWhile_cons]
  by_cases h : v.f0 ≤ t
  · rw [if_pos h, if_pos (by simpa using h)]
    rfl
  · rw [if_neg h, if_neg (by simpa using h)]
    rfl
theorem until_mono {t u : Int} (h : t ≤ u) (c : Chain) : untilV c t ≤ untilV c u := by
  induction c with
  | nil => exact Nat.le_refl _
  | cons v r ih =>
    rw [until_cons, until_cons]
    by_cases h1 : v.f0 ≤ t
    · rw [if_pos h1, if_pos (by omega)]; omega
    · rw [if_neg h1]; omega
theorem until_snoc (c : Chain) (v : Ver) (t : Int) (h : t < v.f0) : untilV (c ++ [v]) t = untilV c t := by
  induction c with
  | nil =>
    rw [List.nil_append, until_cons, if_neg (by omega)]
    rfl
  | cons x r ih => rw [List.cons_append, until_cons, until_cons, ih]
theorem until_drop (j : Nat) : ∀ (c : Chain) (t : Int), j ≤ untilV c t → untilV (c.drop j) t = untilV c t - j := by
  induction j with
  | zero => intro c t _; rfl
  | succ j ih =>
    intro c t h
    cases c with
    | nil => simp [untilV] at h
    | cons v r =>
      rw [until_cons] at h ⊢
      by_cases h1 : v.f0 ≤ t
      · rw [if_pos h1] at h ⊢
        rw [List.drop_succ_cons, ih r t (by omega)]
        omega
      · rw [if_neg h1] at h
        omega
theorem getD_drop (c : Chain) (j i : Nat) (z : Ver) : (c.drop j).getD i z = c.getD (j + i) z := by simp [List.getD_eq_getElem?_getD, List.getElem?_drop]
theorem at_snoc (c : Chain) (v : Ver) (t : Int) (h : t < v.f0) : atV (c ++ [v]) t = atV c t := by
  unfold atV
  rw [until_snoc c v t h]
  split
  · rfl
  · have := until_le c t
    rw [List.getD_eq_getElem?_getD, List.getD_eq_getElem?_getD, List.getElem?_append_left (by omega)]
theorem sweep_at (c : Chain) (T t : Int) (h : T ≤ t) : atV (sweepC c T) t = atV c t ∨ ((atV c t).2 = true ∧ (atV c t).1.f2 = true ∧ atV (sweepC c T) t = (zVer, false)) := by
  have hm := until_mono h c
  have hj : sweepFrom c T ≤ untilV c T := by unfold sweepFrom; split <;> omega
  have hd := until_drop (sweepFrom c T) c t (by omega)
  by_cases h0 : untilV c t = sweepFrom c T
  · have e1 : atV (sweepC c T) t = (zVer, false) := by
      unfold atV sweepC
      rw [hd, if_pos (by omega)]
    by_cases hz : untilV c t = 0
    · left
      rw [e1]
      unfold atV
      rw [if_pos hz]
    · right
      have h1 : untilV c T = untilV c t := by omega
      have h2 : sweepFrom c T = untilV c T := by omega
      have hdead : (c.getD (untilV c T - 1) zVer).f2 = true := by
        unfold sweepFrom at h2
        split at h2
        · omega
        · rename_i hn
          cases hb : (c.getD (untilV c T - 1) zVer).f2 with
          | true => rfl
          | false => exact absurd ⟨by omega, hb⟩ hn
      refine ⟨?_, ?_, e1⟩
      · unfold atV; rw [if_neg hz]
      · unfold atV; rw [if_neg hz, ← h1]; exact hdead
  · left
    unfold atV
    rw [show untilV (sweepC c T) t = untilV c t - sweepFrom c T from hd, if_neg (by omega), if_neg (by omega)]
    unfold sweepC
    rw [getD_drop]
    congr 2
    omega
theorem look_sweep {K : List (Key × Chain)} (h : Rising (keysK K)) (t : Int) (q : Key) : look (sweepK K t) q = sweepC (look K q) t := by
  induction K with
  | nil => rfl
  | cons p r ih =>
    obtain ⟨k, d⟩ := p
    have h' : Rising (k :: keysK r) := h
    obtain ⟨h1, h2⟩ := List.pairwise_cons.1 h'
    have ih' := ih h2
    have hs : sweepK ((k, d) :: r) t = if (sweepC d t).isEmpty = true then sweepK r t else (k, sweepC d t) :: sweepK r t := by
      unfold sweepK
      rw [List.map_cons, List.filter_cons]
      cases (sweepC d t).isEmpty <;> rfl
    rw [hs]
    simp only [look]
    by_cases e : k = q
    · subst e
      rw [if_pos rfl]
      split
      · rename_i he
        have hr : look r k = [] := look_none (fun hm => by have := h1 k hm; rw [kl_irrefl] at this; cases this)
        rw [ih', hr]
        have : sweepC d t = [] := by simpa using he
        rw [this]
        rfl
      · simp [look]
    · rw [if_neg e]
      split
      · exact ih'
      · simp only [look]
        rw [if_neg e, ih']
theorem KOk.sweep {K : List (Key × Chain)} (h : KOk K) (t : Int) : KOk (sweepK K t) := by
  refine ⟨?_, fun p hp => ?_, ?_⟩
  · refine List.Pairwise.sublist ?_ h.rise
    unfold keysK sweepK
    have : (K.map (fun p => (p.1, sweepC p.2 t))).map (fun x => x.1) = K.map (fun x => x.1) := by rw [List.map_map]; rfl
    rw [← this]
    exact List.Sublist.map _ List.filter_sublist
  · obtain ⟨h1, h2⟩ := List.mem_filter.1 hp
    obtain ⟨x, hx, rfl⟩ := List.mem_map.1 h1
    exact ⟨by simpa using h2, ((h.chain x hx).2).drop _⟩
  · have := List.length_filter_le (fun p : Key × Chain => !p.2.isEmpty) (K.map (fun p => (p.1, sweepC p.2 t)))
    rw [List.length_map] at this
    have h2 := h.few
    unfold sweepK
    omega
/-! versions that are put -/
structure PutOk (K : List (Key × Chain)) (l : List Wr) (ts : Int) : Prop where
  apart : (l.map wkey).Nodup
  last : ∀ w ∈ l, lastV (look K (wkey w)) < ts
  ver : ∀ w ∈ l, VerOk ⟨ts, w.f1, w.f2⟩
  room : roomN K K.length l = 0
theorem cntK_le {K : List (Key × Chain)} {n : Nat} {w : Wr} {l : List Wr} (h : roomN K n (w :: l) = 0) : (look K (wkey w)).length < 1024 ∧ cntK K n w ≤ 1024 ∧ roomN K (cntK K n w) l = 0 := by
  have e : roomN K n (w :: l) = if 1024 ≤ (look K (wkey w)).length ∨ 1024 < cntK K n w then 2 else roomN K (cntK K n w) l := rfl
  rw [e] at h
  by_cases hc : 1024 ≤ (look K (wkey w)).length ∨ 1024 < cntK K n w
  · rw [if_pos hc] at h
    cases h
  · rw [if_neg hc] at h
    exact ⟨by omega, by omega, h⟩
theorem roomN_other (K : List (Key × Chain)) (q : Key) (c : Chain) : ∀ (l : List Wr) (n : Nat), (∀ w ∈ l, wkey w ≠ q) → roomN (kput K q c) n l = roomN K n l
  | [], _, _ => rfl
  | w :: l, n, h => by
    have e : look (kput K q c) (wkey w) = look K (wkey w) := by
      rw [look_kput, if_neg (fun e => h w List.mem_cons_self e.symm)]
    have e2 : cntK (kput K q c) n w = cntK K n w := by
      unfold cntK
      rw [e]
    simp only [roomN]
    rw [e, e2, roomN_other K q c l _ (fun x hx => h x (List.mem_cons_of_mem _ hx))]
theorem put1_ok {K : List (Key × Chain)} {ts : Int} {w : Wr} {l : List Wr} (h : KOk K) (hp : PutOk K (w :: l) ts) : KOk (put1 ts K w) ∧ PutOk (put1 ts K w) l ts := by
  obtain ⟨h1, h2⟩ := List.nodup_cons.1 hp.apart
  obtain ⟨r1, r2, r3⟩ := cntK_le hp.room
  have hne : ∀ x ∈ l, wkey x ≠ wkey w := fun x hx e => h1 (List.mem_map.2 ⟨x, hx, e⟩)
  have hlen : (put1 ts K w).length = cntK K K.length w := by
    unfold put1 cntK
    rw [kput_len h.rise]
    by_cases e : look K (wkey w) = []
    · rw [if_neg ((h.iff _).1 e), if_pos (by rw [e]; rfl)]
    · have e0 : ¬ (look K (wkey w)).isEmpty = true := by simpa using e
      have : wkey w ∈ keysK K := by
        by_cases hq : wkey w ∈ keysK K
        · exact hq
        · exact absurd ((h.iff _).2 hq) e
      rw [if_pos this, if_neg e0]
  refine ⟨⟨kput_rising h.rise _ _, fun p hp' => ?_, by rw [hlen]; exact r2⟩, ⟨h2, fun x hx => ?_, fun x hx => hp.ver x (List.mem_cons_of_mem _ hx), ?_⟩⟩
  · rcases kput_mem hp' with rfl | hp'
    · exact ⟨by simp, (h.look _).snoc (hp.ver w List.mem_cons_self) r1 (hp.last w List.mem_cons_self)⟩
    · exact h.chain p hp'
  · unfold put1
    rw [look_kput, if_neg (fun e => hne x hx e.symm)]
    exact hp.last x (List.mem_cons_of_mem _ hx)
  · rw [hlen]
    unfold put1
    rw [roomN_other _ _ _ _ _ hne]
    exact r3
theorem putV_ok : ∀ (l : List Wr) {K : List (Key × Chain)} {ts : Int}, KOk K → PutOk K l ts → KOk (putV K l ts)
  | [], _, _, h, _ => h
  | w :: l, K, ts, h, hp => putV_ok l (put1_ok h hp).1 (put1_ok h hp).2
theorem put_at : ∀ (l : List Wr) (K : List (Key × Chain)) (ts t : Int) (q : Key), t < ts → atV (look (putV K l ts) q) t = atV (look K q) t
  | [], _, _, _, _, _ => rfl
  | w :: l, K, ts, t, q, h => by
    show atV (look (putV (put1 ts K w) l ts) q) t = _
    rw [put_at l _ ts t q h]
    unfold put1
    rw [look_kput]
    split
    · rename_i e
      rw [at_snoc _ _ _ h, e]
    · rfl
end Go.Proofs.YtaldfbmjmpkmmaaGreat.PL
