/- record.Check: what a record has to be. -/
import Derived.Deep.RegionHeld3
import Derived.Deep.RegionLaw
import Derived.Test.YtaldfbmjmpkmmaaPL0
import Derived.Test.YtaldfbmjmpkmmaaPLf75
import Derived.Test.YtaldfbmjmpkmmaaPLf73
import Derived.Test.YtaldfbmjmpkmmaaHListed
import Derived.Test.YtaldfbmjmpkmmaaHPure
namespace Go.Proofs.Ytaldfbmjmpkmmaa.PL
open Go.RowKit Go.Proofs.YtaldfbmjmpkmmaaW.PrintWords Go.Proofs.YtaldfbmjmpkmmaaW.PrintLast Go.Proofs.YtaldfbmjmpkmmaaW.PrintMore
attribute [local go_sem] Mk.str_leq Mk.str_gtr Mk.str_geq max2_int min2_int max_two min_two max_three min_three max_four min_four
set_option linter.unusedVariables false
set_option linter.unusedSimpArgs false
theorem eqA129 (d : Nat) (w : World) (x0 y0 : Int) (x1 y1 : Int) (x2 y2 : Int) (x3 y3 : Int) (x4 y4 : ByteArray) (x5 y5 : ByteArray) (x6 y6 : Bool) :
 (Op.equalIn (d + 2) 129 (.agg #[.int .i64 x0, .int .i64 x1, .int .i64 x2, .int .i64 x3, .string x4, .string x5, .bool x6]) (.agg #[.int .i64 y0, .int .i64 y1, .int .i64 y2, .int .i64 y3, .string y4, .string y5, .bool y6])).run Try.prog w = .ok (x0 == y0 && (x1 == y1 && (x2 == y2 && (x3 == y3 && (x4.toList == y4.toList && (x5.toList == y5.toList && (x6 == y6))))))) w := by
 refine eqA_of Try.underlying129 (by kernel_rfl) ?_
 refine eqf_cons (by rfl) (by go_simp; rfl) (by go_simp; rfl) (by go_simp) ?_
 refine eqf_cons (by rfl) (by go_simp; rfl) (by go_simp; rfl) (by go_simp) ?_
 refine eqf_cons (by rfl) (by go_simp; rfl) (by go_simp; rfl) (by go_simp) ?_
 refine eqf_cons (by rfl) (by go_simp; rfl) (by go_simp; rfl) (by go_simp) ?_
 refine eqf_cons (by rfl) (by go_simp; rfl) (by go_simp; rfl) (by go_simp) ?_
 refine eqf_cons (by rfl) (by go_simp; rfl) (by go_simp; rfl) (by go_simp) ?_
 exact eqf_last (by rfl) (by go_simp; rfl) (by go_simp; rfl) (by go_simp)
attribute [local go_sem high] eqA129
def rangeBad (a1 a2 a3 : Int) : Bool := decide (a1 < 0) || (decide (1125899906842623 < a1) || (decide (a2 < 0) || (decide (1125899906842624 < a2) || (decide (a3 < 0) || decide (16 ≤ a3)))))
def bareB (a4 a5 : ByteArray) (a6 : Bool) : Bool := a4.toList.isEmpty && (a5.toList.isEmpty && !a6)
def noneB (l7 : List ByteArray) (l8 : List S56) : Bool := l7.isEmpty && l8.isEmpty
def recOk (a0 a1 a2 a3 : Int) (a4 a5 : ByteArray) (a6 : Bool) (l7 : List ByteArray) (l8 : List S56) : Bool :=
 if a0 = 1 then (listedB l7 l8 && decide (0 < a1)) && bareB a4 a5 a6
 else noneB l7 l8 && (
  if a0 = 2 then decide (0 < a1) && (a3 == 0 && bareB a4 a5 a6)
  else if a0 = 5 then decide (0 < a1) && (decide (0 < a2) && (a3 == 0 && bareB a4 a5 a6))
  else if a0 = 6 then decide (0 < a1) && (a2 == 0 && (a3 == 0 && bareB a4 a5 a6))
  else if a0 = 3 then decide (0 < a2) && (keyB a4 && (decide (a5.size ≤ 2052) && (!(a6 && !a5.toList.isEmpty) && (a1 == 0 && a3 == 0))))
  else if a0 = 4 then a1 == 0 && (a3 == 0 && bareB a4 a5 a6)
  else if a0 = 7 then decide (0 < a2) && (a1 == 0 && (a3 == 0 && bareB a4 a5 a6))
  else false)
def recV (a0 a1 a2 a3 : Int) (a4 a5 : ByteArray) (a6 : Bool) (l7 : List ByteArray) (l8 : List S56) : Int :=
 if rangeBad a1 a2 a3 = true then 80 else if recOk a0 a1 a2 a3 a4 a5 a6 l7 l8 = true then 0 else 80
def record_Check.f (a0_0 : Int) (a0_1 : Int) (a0_2 : Int) (a0_3 : Int) (a0_4 : ByteArray) (a0_5 : ByteArray) (a0_6 : Bool) (l0_7 : List ByteArray) (l0_8 : List (S56)) : Option (Int) :=
 if l0_7.length < 8796093022208 ∧ l0_8.length < 8796093022208 then some (recV a0_0 a0_1 a0_2 a0_3 a0_4 a0_5 a0_6 l0_7 l0_8) else none
theorem check_small {a0 a1 a2 a3 : Int} {a4 a5 : ByteArray} {a6 : Bool} {l7 : List ByteArray} {l8 : List S56} {r : Int} (h : record_Check.f a0 a1 a2 a3 a4 a5 a6 l7 l8 = some r) : l7.length < 8796093022208 ∧ l8.length < 8796093022208 := by
 unfold record_Check.f at h
 split at h
 ·assumption
 ·cases h
theorem check_val {a0 a1 a2 a3 : Int} {a4 a5 : ByteArray} {a6 : Bool} {l7 : List ByteArray} {l8 : List S56} {r : Int} (h : record_Check.f a0 a1 a2 a3 a4 a5 a6 l7 l8 = some r) : r = recV a0 a1 a2 a3 a4 a5 a6 l7 l8 := by
 unfold record_Check.f at h
 split at h
 ·injection h with h; exact h.symm
 ·cases h
theorem check_bad {a0 a1 a2 a3 : Int} {a4 a5 : ByteArray} {a6 : Bool} {l7 : List ByteArray} {l8 : List S56} {r : Int} (h : r = recV a0 a1 a2 a3 a4 a5 a6 l7 l8) (hb : rangeBad a1 a2 a3 = true) : r = 80 := by
 rw [h]; unfold recV; rw [if_pos hb]
theorem check_good {a0 a1 a2 a3 : Int} {a4 a5 : ByteArray} {a6 : Bool} {l7 : List ByteArray} {l8 : List S56} {r : Int} (h : r = recV a0 a1 a2 a3 a4 a5 a6 l7 l8) (hb : rangeBad a1 a2 a3 = false) : r = if recOk a0 a1 a2 a3 a4 a5 a6 l7 l8 = true then 0 else 80 := by
 rw [h]; unfold recV; rw [if_neg (by rw [hb]; decide)]
theorem ok1 {a0 a1 a2 a3 : Int} {a4 a5 : ByteArray} {a6 : Bool} {l7 : List ByteArray} {l8 : List S56} (h : a0 = 1) : recOk a0 a1 a2 a3 a4 a5 a6 l7 l8 = ((listedB l7 l8 && decide (0 < a1)) && bareB a4 a5 a6) := by
 subst h; rfl
theorem ok2 {a0 a1 a2 a3 : Int} {a4 a5 : ByteArray} {a6 : Bool} {l7 : List ByteArray} {l8 : List S56} (h : a0 = 2) : recOk a0 a1 a2 a3 a4 a5 a6 l7 l8 = (noneB l7 l8 && (decide (0 < a1) && (a3 == 0 && bareB a4 a5 a6))) := by
 subst h; rfl
theorem ok5 {a0 a1 a2 a3 : Int} {a4 a5 : ByteArray} {a6 : Bool} {l7 : List ByteArray} {l8 : List S56} (h : a0 = 5) : recOk a0 a1 a2 a3 a4 a5 a6 l7 l8 = (noneB l7 l8 && (decide (0 < a1) && (decide (0 < a2) && (a3 == 0 && bareB a4 a5 a6)))) := by
 subst h; rfl
theorem ok6 {a0 a1 a2 a3 : Int} {a4 a5 : ByteArray} {a6 : Bool} {l7 : List ByteArray} {l8 : List S56} (h : a0 = 6) : recOk a0 a1 a2 a3 a4 a5 a6 l7 l8 = (noneB l7 l8 && (decide (0 < a1) && (a2 == 0 && (a3 == 0 && bareB a4 a5 a6)))) := by
 subst h; rfl
theorem ok3 {a0 a1 a2 a3 : Int} {a4 a5 : ByteArray} {a6 : Bool} {l7 : List ByteArray} {l8 : List S56} (h : a0 = 3) : recOk a0 a1 a2 a3 a4 a5 a6 l7 l8 = (noneB l7 l8 && (decide (0 < a2) && (keyB a4 && (decide (a5.size ≤ 2052) && (!(a6 && !a5.toList.isEmpty) && (a1 == 0 && a3 == 0)))))) := by
 subst h; rfl
theorem ok4 {a0 a1 a2 a3 : Int} {a4 a5 : ByteArray} {a6 : Bool} {l7 : List ByteArray} {l8 : List S56} (h : a0 = 4) : recOk a0 a1 a2 a3 a4 a5 a6 l7 l8 = (noneB l7 l8 && (a1 == 0 && (a3 == 0 && bareB a4 a5 a6))) := by
 subst h; rfl
theorem ok7 {a0 a1 a2 a3 : Int} {a4 a5 : ByteArray} {a6 : Bool} {l7 : List ByteArray} {l8 : List S56} (h : a0 = 7) : recOk a0 a1 a2 a3 a4 a5 a6 l7 l8 = (noneB l7 l8 && (decide (0 < a2) && (a1 == 0 && (a3 == 0 && bareB a4 a5 a6)))) := by
 subst h; rfl
theorem ok0 {a0 a1 a2 a3 : Int} {a4 a5 : ByteArray} {a6 : Bool} {l7 : List ByteArray} {l8 : List S56} (k1 : ¬ a0 = 1) (k2 : ¬ a0 = 2) (k5 : ¬ a0 = 5) (k6 : ¬ a0 = 6) (k3 : ¬ a0 = 3) (k4 : ¬ a0 = 4) (k7 : ¬ a0 = 7) : recOk a0 a1 a2 a3 a4 a5 a6 l7 l8 = false := by
 unfold recOk; rw [if_neg k1, if_neg k2, if_neg k5, if_neg k6, if_neg k3, if_neg k4, if_neg k7, Bool.and_false]
theorem none_eq (l7 : List ByteArray) (l8 : List S56) (h7 : l7.length < 8796093022208) (h8 : l8.length < 8796093022208) : (wrap64 ((l7.length : Int) + (l8.length : Int)) == 0) = noneB l7 l8 := by
 rw [w64 _ (by omega) (by omega)]
 unfold noneB
 cases l7 <;> cases l8 <;> simp <;> omega
theorem emp (a : ByteArray) : ((⟨#[]⟩ : ByteArray).toList == a.toList) = a.toList.isEmpty := by
 have he : ((⟨#[]⟩ : ByteArray).toList = ([] : List UInt8)) := by simp [ByteArray.toList, ByteArray.toList.loop, ByteArray.size]
 rw [he]; cases a.toList <;> rfl
theorem beq0 (a : Int) : ((0 : Int) == a) = (a == 0) := by rw [Bool.eq_iff_iff, beq_iff_eq, beq_iff_eq]; exact eq_comm
def record_Check.T7 : Bool × List (List Nat × List Nat) := (true, [([], []), ([0], [0]), ([], []), ([2], [2]), ([3, 3], [3]), ([4], [4]), ([5, 4], [4, 5]), ([6, 4], [4, 6]), ([4, 7], [4, 7]), ([0, 1], []), ([9, 1, 4, 0, 1], [1, 9]), ([8, 10, 0, 1, 2, 3, 4, 5, 6, 7, 8, 9, 10], [8])])
def record_Check.B7 : List Nat := [0, 1, 0, 4, 12, 28, 60, 124, 252, 3, 543, 2047]
theorem record_Check.tab7 : rtab .any (opsOf Try.f35 7) = record_Check.T7 := by kernel_rfl
theorem record_Check.bits7 : waitsOk record_Check.T7.2 record_Check.B7 = true := by kernel_rfl
theorem not_and7 (a b c d e f g : Bool) : (!a || (!b || (!c || (!d || (!e || (!f || !g)))))) = !(a && (b && (c && (d && (e && (f && g)))))) := by cases a <;> cases b <;> cases c <;> cases d <;> cases e <;> cases f <;> rfl
theorem put7_blk {w : World} {b t : Nat} {u0 u1 u2 u3 u4 u5 u6 : Value} (h : w.heap[b]? = some (.cells #[u0, u1, u2, u3, u4, u5, u6] t (0, 0))) (v0 v1 v2 v3 v4 v5 v6 : Value) :
 (((((((w.setCell ⟨b, 0, none⟩ v0).setCell ⟨b, 1, none⟩ v1).setCell ⟨b, 2, none⟩ v2).setCell ⟨b, 3, none⟩ v3).setCell ⟨b, 4, none⟩ v4).setCell ⟨b, 5, none⟩ v5).setCell ⟨b, 6, none⟩ v6).heap[b]? = some (.cells #[v0, v1, v2, v3, v4, v5, v6] t (0, 0)) := by
 have z0 := blk_put (cs' := #[v0, u1, u2, u3, u4, u5, u6]) h 0 v0 rfl
 have z1 := blk_put (cs' := #[v0, v1, u2, u3, u4, u5, u6]) z0 1 v1 rfl
 have z2 := blk_put (cs' := #[v0, v1, v2, u3, u4, u5, u6]) z1 2 v2 rfl
 have z3 := blk_put (cs' := #[v0, v1, v2, v3, u4, u5, u6]) z2 3 v3 rfl
 have z4 := blk_put (cs' := #[v0, v1, v2, v3, v4, u5, u6]) z3 4 v4 rfl
 have z5 := blk_put (cs' := #[v0, v1, v2, v3, v4, v5, u6]) z4 5 v5 rfl
 exact blk_put (cs' := #[v0, v1, v2, v3, v4, v5, v6]) z5 6 v6 rfl
theorem put7_below {w0 w : World} {n b : Nat} (h : Below n w0 w) (hn : n ≤ b) (v0 v1 v2 v3 v4 v5 v6 : Value) :
 Below n w0 (((((((w.setCell ⟨b, 0, none⟩ v0).setCell ⟨b, 1, none⟩ v1).setCell ⟨b, 2, none⟩ v2).setCell ⟨b, 3, none⟩ v3).setCell ⟨b, 4, none⟩ v4).setCell ⟨b, 5, none⟩ v5).setCell ⟨b, 6, none⟩ v6) := ((((((h.setCell hn _).setCell hn _).setCell hn _).setCell hn _).setCell hn _).setCell hn _).setCell hn _
theorem flat_cells {w : World} {g : Nat} {t : Nat} {v0 v1 v2 v3 v4 v5 v6 : Value} (h : w.heap[g]? = some (.cells #[v0, v1, v2, v3, v4, v5, v6] t (0, 0))) :
 w.cell? ⟨g, 0, none⟩ = some v0 ∧ w.cell? ⟨g, 1, none⟩ = some v1 ∧ w.cell? ⟨g, 2, none⟩ = some v2 ∧ w.cell? ⟨g, 3, none⟩ = some v3 ∧ w.cell? ⟨g, 4, none⟩ = some v4 ∧ w.cell? ⟨g, 5, none⟩ = some v5 ∧ w.cell? ⟨g, 6, none⟩ = some v6 :=
 ⟨(blk_cell h 0).trans rfl, (blk_cell h 1).trans rfl, (blk_cell h 2).trans rfl, (blk_cell h 3).trans rfl, (blk_cell h 4).trans rfl, (blk_cell h 5).trans rfl, (blk_cell h 6).trans rfl⟩
theorem flat_frozen {w : World} {g : Nat} {t : Nat} {cs : Array Value} (h : w.heap[g]? = some (.cells cs t (0, 0))) :
 w.frozen? ⟨g, 0, none⟩ = false ∧ w.frozen? ⟨g, 1, none⟩ = false ∧ w.frozen? ⟨g, 2, none⟩ = false ∧ w.frozen? ⟨g, 3, none⟩ = false ∧ w.frozen? ⟨g, 4, none⟩ = false ∧ w.frozen? ⟨g, 5, none⟩ = false ∧ w.frozen? ⟨g, 6, none⟩ = false :=
 ⟨blk_frozen h 0, blk_frozen h 1, blk_frozen h 2, blk_frozen h 3, blk_frozen h 4, blk_frozen h 5, blk_frozen h 6⟩
theorem belT7 {a b c : World} (h : Below a.heap.size a b) (hq : Below b.heap.size b c) : Below a.heap.size a c := h.trans (hq.mono h.size)
set_option maxHeartbeats 8000000 in
set_option maxRecDepth 100000 in
theorem check_k1 (a0_0 : Int) (a0_1 : Int) (a0_2 : Int) (a0_3 : Int) (a0_4 : ByteArray) (a0_5 : ByteArray) (a0_6 : Bool) (A0_7 : Option Addr) (c0_7 : Nat) (l0_7 : List ByteArray) (A0_8 : Option Addr) (c0_8 : Nat) (l0_8 : List (S56)) (r : Int) (w : World) (hr0_7 : Kd.C Kd.string w A0_7 l0_7.length l0_7) (hc0_7 : l0_7.length ≤ c0_7) (hr0_8 : Kd.C k56 w A0_8 l0_8.length l0_8) (hc0_8 : l0_8.length ≤ c0_8) (h : record_Check.f a0_0 a0_1 a0_2 a0_3 a0_4 a0_5 a0_6 l0_7 l0_8 = some r) (hkk : a0_0 = 1) :
 Calls Try.prog 35 #[.agg #[.int .i64 a0_0, .int .i64 a0_1, .int .i64 a0_2, .int .i64 a0_3, .string a0_4, .string a0_5, .bool a0_6, .slice A0_7 l0_7.length c0_7, .slice A0_8 l0_8.length c0_8]] w fun e w' => e = .returned (.int .i64 r) ∧ Below w.heap.size w w' := by
 have HKK := Aside0.mk hkk
 clear hkk
 have hsm := check_small h
 have HRV := Aside0.mk (check_val h)
 obtain ⟨wy, hwy⟩ : ∃ wy, wy = w.alloc (.cells #[.int .i64 a0_0, .int .i64 a0_1, .int .i64 a0_2, .int .i64 a0_3, .string a0_4, .string a0_5, .bool a0_6, .slice A0_7 l0_7.length c0_7, .slice A0_8 l0_8.length c0_8] 35) := ⟨_, rfl⟩
 have hby : Below w.heap.size w wy := by rw [hwy]; exact below_alloc (Below.refl _ _) _
 have hx : wy.heap[w.heap.size]? = some (.cells #[.int .i64 a0_0, .int .i64 a0_1, .int .i64 a0_2, .int .i64 a0_3, .string a0_4, .string a0_5, .bool a0_6, .slice A0_7 l0_7.length c0_7, .slice A0_8 l0_8.length c0_8] 35 (0, 0)) := by rw [hwy]; exact blk_new _ _
 have HBY := Aside0.mk hby
 have HX := Aside0.mk hx
 have HWY := Aside0.mk hwy
 have HNN := Aside0.mk (none_eq l0_7 l0_8 hsm.1 hsm.2)
 have HBR : Aside0 (∀ W, Below wy.heap.size wy W → Calls Try.prog 73 #[.agg #[.int .i64 a0_0, .int .i64 a0_1, .int .i64 a0_2, .int .i64 a0_3, .string a0_4, .string a0_5, .bool a0_6, .slice A0_7 l0_7.length c0_7, .slice A0_8 l0_8.length c0_8]] W fun e w' => e = .returned (.agg #[.int .i64 a0_0, .int .i64 a0_1, .int .i64 a0_2, .int .i64 0, .string ⟨#[]⟩, .string ⟨#[]⟩, .bool false]) ∧ Below W.heap.size W w') := ⟨fun W hW => record_bare.calls a0_0 a0_1 a0_2 a0_3 a0_4 a0_5 a0_6 A0_7 c0_7 l0_7 A0_8 c0_8 l0_8 _ _ _ _ _ _ _ W (Kd.C_below (Kd.C_below hr0_7 hby) hW) hc0_7 (Kd.C_below (Kd.C_below hr0_8 hby) hW) hc0_8 rfl⟩
 have HLI : Aside0 (∀ W, Below wy.heap.size wy W → Calls Try.prog 74 #[.agg #[.int .i64 a0_0, .int .i64 a0_1, .int .i64 a0_2, .int .i64 a0_3, .string a0_4, .string a0_5, .bool a0_6, .slice A0_7 l0_7.length c0_7, .slice A0_8 l0_8.length c0_8]] W fun e w' => e = .returned (.bool (listedB l0_7 l0_8)) ∧ Below W.heap.size W w') := ⟨fun W hW => record_listed.calls _ a0_0 a0_1 a0_2 a0_3 a0_4 a0_5 a0_6 A0_7 c0_7 l0_7 A0_8 c0_8 l0_8 _ W (Kd.C_below (Kd.C_below hr0_7 hby) hW) hc0_7 (Kd.C_below (Kd.C_below hr0_8 hby) hW) hc0_8 (listed_f a0_0 a0_1 a0_2 a0_3 a0_4 a0_5 a0_6 l0_7 l0_8 (Kd.C_max hr0_7) hsm.2 _ (Nat.lt_succ_self _))⟩
 have h7m := Kd.C_max hr0_7
 have h8m := Kd.C_max hr0_8
 have hu := Try.underlying35
 have hv := Try.underlying129
 obtain ⟨q0, q1, q2, q3, q4, q5, q6, q7, q8⟩ := rec_cells hx
 clear hr0_7 hc0_7 hr0_8 hc0_8 h hsm hwy hby hx
 go_enter Try.func35, Try.ntmps35
 go_upto_region 1 with (fail)
 rw [← HWY.out]
 clear HWY
 go_cut [32] (fun v wd => v = .bool (rangeBad a0_1 a0_2 a0_3) ∧ Aside0 (wd = wy))
 case first =>
  cases c0 : decide (a0_1 < 0) with
  | true =>
   have HK := Aside0.mk (show rangeBad a0_1 a0_2 a0_3 = true by unfold rangeBad; simp only [c0, Bool.false_or, Bool.true_or])
   go_wp2_with fail
   go_meet
   case rel => exact ⟨by rw [HK.out], ⟨rfl⟩⟩
  | false =>
   cases c1 : decide (1125899906842623 < a0_1) with
   | true =>
    have HK := Aside0.mk (show rangeBad a0_1 a0_2 a0_3 = true by unfold rangeBad; simp only [c0, c1, Bool.false_or, Bool.true_or])
    go_wp2_with fail
    go_meet
    case rel => exact ⟨by rw [HK.out], ⟨rfl⟩⟩
   | false =>
    cases c2 : decide (a0_2 < 0) with
    | true =>
     have HK := Aside0.mk (show rangeBad a0_1 a0_2 a0_3 = true by unfold rangeBad; simp only [c0, c1, c2, Bool.false_or, Bool.true_or])
     go_wp2_with fail
     go_meet
     case rel => exact ⟨by rw [HK.out], ⟨rfl⟩⟩
    | false =>
     cases c3 : decide (1125899906842624 < a0_2) with
     | true =>
      have HK := Aside0.mk (show rangeBad a0_1 a0_2 a0_3 = true by unfold rangeBad; simp only [c0, c1, c2, c3, Bool.false_or, Bool.true_or])
      go_wp2_with fail
      go_meet
      case rel => exact ⟨by rw [HK.out], ⟨rfl⟩⟩
     | false =>
      cases c4 : decide (a0_3 < 0) with
      | true =>
       have HK := Aside0.mk (show rangeBad a0_1 a0_2 a0_3 = true by unfold rangeBad; simp only [c0, c1, c2, c3, c4, Bool.false_or, Bool.true_or])
       go_wp2_with fail
       go_meet
       case rel => exact ⟨by rw [HK.out], ⟨rfl⟩⟩
      | false =>
       cases c5 : decide (16 ≤ a0_3) with
       | true =>
        have HK := Aside0.mk (show rangeBad a0_1 a0_2 a0_3 = true by unfold rangeBad; simp only [c0, c1, c2, c3, c4, c5, Bool.false_or, Bool.true_or])
        go_wp2_with fail
        go_meet
        case rel => exact ⟨by rw [HK.out], ⟨rfl⟩⟩
       | false =>
        have HK := Aside0.mk (show rangeBad a0_1 a0_2 a0_3 = false by unfold rangeBad; simp only [c0, c1, c2, c3, c4, c5, Bool.false_or])
        go_wp2_with fail
        go_meet
        case rel => exact ⟨by rw [HK.out], ⟨rfl⟩⟩
 case rest =>
  obtain ⟨rfl, HE⟩ := hcut
  rw [HE.out]
  clear HE
  cases hb : rangeBad a0_1 a0_2 a0_3 with
  | true =>
   have HV := Aside0.mk (check_bad HRV.out hb)
   clear hb
   go_wp2_with fail
   go_ret
   exact ⟨by rw [HV.out]; rfl, HBY.out⟩
  | false =>
   have HV := Aside0.mk (check_good HRV.out hb)
   have KEEP : Aside0 (∀ W, Below wy.heap.size wy W → W.cell? ⟨w.heap.size, 0, none⟩ = some (.int .i64 a0_0) ∧ W.cell? ⟨w.heap.size, 1, none⟩ = some (.int .i64 a0_1) ∧ W.cell? ⟨w.heap.size, 2, none⟩ = some (.int .i64 a0_2) ∧ W.cell? ⟨w.heap.size, 3, none⟩ = some (.int .i64 a0_3) ∧ W.cell? ⟨w.heap.size, 4, none⟩ = some (.string a0_4) ∧ W.cell? ⟨w.heap.size, 5, none⟩ = some (.string a0_5) ∧ W.cell? ⟨w.heap.size, 6, none⟩ = some (.bool a0_6) ∧ W.cell? ⟨w.heap.size, 7, none⟩ = some (.slice A0_7 l0_7.length c0_7) ∧ W.cell? ⟨w.heap.size, 8, none⟩ = some (.slice A0_8 l0_8.length c0_8)) := ⟨fun W hW => rec_cells (blk_below HX.out hW)⟩
   clear hb HRV
   go_upto_region 3 with (fail)
   go_cut [3, 4] (fun va vb wd => ∃ g, va = .pointer (some ⟨g, 0, none⟩) ∧ vb = .bool (noneB l0_7 l0_8) ∧ Aside0 (wy.heap.size ≤ g) ∧ Aside0 (wd.heap[g]? = some (.cells #[.int .i64 a0_0, .int .i64 a0_1, .int .i64 a0_2, .int .i64 0, .string ⟨#[]⟩, .string ⟨#[]⟩, .bool false] 129 (0, 0)) ∧ Below wy.heap.size wy wd))
   case first =>
    go_region_held3 (fun w' => w'.cell? ⟨w.heap.size, 0, none⟩ = some (.int .i64 a0_0) ∧ w'.cell? ⟨w.heap.size, 1, none⟩ = some (.int .i64 a0_1) ∧ w'.cell? ⟨w.heap.size, 2, none⟩ = some (.int .i64 a0_2) ∧ w'.cell? ⟨w.heap.size, 3, none⟩ = some (.int .i64 a0_3) ∧ w'.cell? ⟨w.heap.size, 4, none⟩ = some (.string a0_4) ∧ w'.cell? ⟨w.heap.size, 5, none⟩ = some (.string a0_5) ∧ w'.cell? ⟨w.heap.size, 6, none⟩ = some (.bool a0_6) ∧ w'.cell? ⟨w.heap.size, 7, none⟩ = some (.slice A0_7 l0_7.length c0_7) ∧ w'.cell? ⟨w.heap.size, 8, none⟩ = some (.slice A0_8 l0_8.length c0_8)) (exact KEEP.out _ (by repeat (with_reducible first | exact HQ.out | exact Below.refl _ _ | apply below_drew1 | apply below_alloc | exact put7_below HQ.out (Nat.le_refl _) _ _ _ _ _ _ _ | exact put7_below HQ.out HQ.out.size _ _ _ _ _ _ _ | exact put7_below (below_alloc HQ.out _) HQ.out.size _ _ _ _ _ _ _)))
     (first
      | (go_simp; go_at_call 73; refine (HBR.out _ (by repeat (with_reducible first | exact HQ.out | exact Below.refl _ _ | apply below_drew1 | apply below_alloc | exact put7_below HQ.out (Nat.le_refl _) _ _ _ _ _ _ _ | exact put7_below HQ.out HQ.out.size _ _ _ _ _ _ _ | exact put7_below (below_alloc HQ.out _) HQ.out.size _ _ _ _ _ _ _))).mono ?_; rintro e wq ⟨rfl, hq⟩; have HQ := Aside0.mk (belT7 (a := wy) (by repeat (with_reducible first | exact HQ.out | exact Below.refl _ _ | apply below_drew1 | apply below_alloc | exact put7_below HQ.out (Nat.le_refl _) _ _ _ _ _ _ _ | exact put7_below HQ.out HQ.out.size _ _ _ _ _ _ _ | exact put7_below (below_alloc HQ.out _) HQ.out.size _ _ _ _ _ _ _)) hq); (first | (have hgx := blk_below (show ((wy.drew).alloc (.cells #[.int .i64 0, .int .i64 0, .int .i64 0, .int .i64 0, .string ⟨#[]⟩, .string ⟨#[]⟩, .bool false] 129)).heap[wy.heap.size]? = some (.cells #[.int .i64 0, .int .i64 0, .int .i64 0, .int .i64 0, .string ⟨#[]⟩, .string ⟨#[]⟩, .bool false] 129 (0, 0)) from blk_new _ _) hq; have HGX := Aside0.mk hgx; obtain ⟨gx0, gx1, gx2, gx3, gx4, gx5, gx6⟩ := flat_cells hgx; obtain ⟨fx0, fx1, fx2, fx3, fx4, fx5, fx6⟩ := flat_frozen hgx; clear hgx hq) | clear hq)))
    all_goals (try go_wp2_with fail)
    all_goals go_meet
    all_goals (case rel => first | (with_reducible refine ⟨wq.heap.size, rfl, ?_, ⟨HQ.out.size⟩, ⟨?_, ?_⟩⟩; rw [i64_w, HNN.out]; exact blk_new _ _; exact below_alloc HQ.out _) | (with_reducible refine ⟨wy.heap.size, rfl, ?_, ⟨Nat.le_refl _⟩, ⟨?_, ?_⟩⟩; rw [i64_w, HNN.out]; exact put7_blk HGX.out _ _ _ _ _ _ _; exact put7_below HQ.out (Nat.le_refl _) _ _ _ _ _ _ _))
   case rest =>
    obtain ⟨g, rfl, rfl, HGE, HG⟩ := hcut
    obtain ⟨w5, hw5⟩ : ∃ w5, w5 = wc := ⟨_, rfl⟩
    subst hw5
    have HB5 : Aside0 (Below wy.heap.size wy w5) := ⟨HG.out.2⟩
    have HG5 := Aside0.mk HG.out.1
    have HX5 := Aside0.mk (blk_below HX.out HG.out.2)
    have HBW : Aside0 (Below w.heap.size w w5) := ⟨HBY.out.trans (HB5.out.mono HBY.out.size)⟩
    clear HNN HBR HG q0 q1 q2 q3 q4 q5 q6 q7 q8
    obtain ⟨q0, q1, q2, q3, q4, q5, q6, q7, q8⟩ := rec_cells HX5.out
    obtain ⟨r0, r1, r2, r3, r4, r5, r6⟩ := flat_cells HG5.out
    obtain ⟨f0, f1, f2, f3, f4, f5, f6⟩ := flat_frozen HG5.out
    have HOK := Aside0.mk (Eq.refl (recOk a0_0 a0_1 a0_2 a0_3 a0_4 a0_5 a0_6 l0_7 l0_8))
    obtain ⟨nb, hnb⟩ : ∃ nb, nb = noneB l0_7 l0_8 := ⟨_, rfl⟩
    rw [← hnb]
    have HNB := Aside0.mk hnb
    clear hnb
    ·go_upto_block 0 with (fail)
     go_cut [4] (fun v4 wd => ∃ b4 t0 t1 t2 t3 t4 t5 t6, v4 = .bool b4 ∧ Aside0 (recOk a0_0 a0_1 a0_2 a0_3 a0_4 a0_5 a0_6 l0_7 l0_8 = (b4 && (t0 == a0_0 && (t1 == a0_1 && (t2 == a0_2 && (t3 == a0_3 && (t4.toList == a0_4.toList && (t5.toList == a0_5.toList && (t6 == a0_6))))))))) ∧ Aside0 (wd.heap[g]? = some (.cells #[.int .i64 t0, .int .i64 t1, .int .i64 t2, .int .i64 t3, .string t4, .string t5, .bool t6] 129 (0, 0))) ∧ Aside0 (Below wy.heap.size wy wd))
     case first =>
      obtain rfl := HKK.out
      ·cases hl : listedB l0_7 l0_8 with
       | false =>
        have HLJ : Aside0 (∀ W, Below wy.heap.size wy W → Calls Try.prog 74 #[.agg #[.int .i64 1, .int .i64 a0_1, .int .i64 a0_2, .int .i64 a0_3, .string a0_4, .string a0_5, .bool a0_6, .slice A0_7 l0_7.length c0_7, .slice A0_8 l0_8.length c0_8]] W fun e w' => e = .returned (.bool false) ∧ Below W.heap.size W w') := ⟨fun W hW => by have h := HLI.out W hW; rw [hl] at h; exact h⟩
        clear HLI
        go_wp2_with fail
        have BK103 := Aside0.mk (blk_drew HX5.out)
        have BK111 := Aside0.mk (blk_drew HG5.out)
        have HB : Aside0 (Below wy.heap.size wy w5.drew) := ⟨below_drew1 HB5.out⟩
        have NB103_111 : Aside0 (w.heap.size ≠ g) := ⟨by have := blk_lt HX.out; have := HGE.out; omega⟩
        have NB111_103 : Aside0 (g ≠ w.heap.size) := ⟨fun h => NB103_111.out h.symm⟩
        clear HG5 HX5 HB5 q0 q1 q2 q3 q4 q5 q6 q7 q8 r0 r1 r2 r3 r4 r5 r6 f0 f1 f2 f3 f4 f5 f6
        refine start_ (n := 12) (S := fun w' => w'.cell? ⟨w.heap.size, 0, none⟩ = some (.int .i64 1) ∧ w'.cell? ⟨w.heap.size, 1, none⟩ = some (.int .i64 a0_1) ∧ w'.cell? ⟨w.heap.size, 2, none⟩ = some (.int .i64 a0_2) ∧ w'.cell? ⟨w.heap.size, 3, none⟩ = some (.int .i64 a0_3) ∧ w'.cell? ⟨w.heap.size, 4, none⟩ = some (.string a0_4) ∧ w'.cell? ⟨w.heap.size, 5, none⟩ = some (.string a0_5) ∧ w'.cell? ⟨w.heap.size, 6, none⟩ = some (.bool a0_6) ∧ w'.cell? ⟨w.heap.size, 7, none⟩ = some (.slice A0_7 l0_7.length c0_7) ∧ w'.cell? ⟨w.heap.size, 8, none⟩ = some (.slice A0_8 l0_8.length c0_8)) (ds := []) #[false, false, false, false, false, false, false, false, false, false, false, false] (by kernel_rfl) rfl rfl ⟨(blk_cell BK103.out 0).trans rfl, (blk_cell BK103.out 1).trans rfl, (blk_cell BK103.out 2).trans rfl, (blk_cell BK103.out 3).trans rfl, (blk_cell BK103.out 4).trans rfl, (blk_cell BK103.out 5).trans rfl, (blk_cell BK103.out 6).trans rfl, (blk_cell BK103.out 7).trans rfl, (blk_cell BK103.out 8).trans rfl⟩ (fun hHeld => ?_); refine with_tabW record_Check.tab7 record_Check.bits7 (fun HT_ HW_ => ?_)
        generalize w5.drew = w91 at BK103 BK111 HB hHeld ⊢
        refine pure_ (i := 0) (N := some 47) (v := ?_) (a' := ?_) #[true, false, false, false, false, false, false, false, false, false, false, false] rfl rfl (any_of HT_.out (by kernel_rfl)) (fun _ _ _ h => h) (Or.inl ⟨by rfl, ?_⟩) ?_ ?_
        rotate_left
        ·intro w'
         go_simp
         with_reducible rfl
        rotate_left
        ·simp only [Act.put, List.setIfInBounds_toArray, List.set_cons_zero, List.set_cons_succ, i64_w, i32_w]
         rfl
        refine take_ (i := 1) (N := some 48) (v := ?_) (a' := ?_) #[true, true, false, false, false, false, false, false, false, false, false, false] rfl rfl (take_ofW HT_.out HW_.out (by kernel_rfl)) (fun _ _ _ h => h) (Or.inl ⟨by rfl, ?_⟩) hHeld ?_ ?_
        rotate_left
        ·rintro w' ⟨s0, s1, s2, s3, s4, s5, s6, s7, s8⟩
         go_simp
         with_reducible rfl
        rotate_left
        ·simp only [Act.put, List.setIfInBounds_toArray, List.set_cons_zero, List.set_cons_succ, i64_w, i32_w]
         rfl
        refine pure_ (i := 9) (N := some 56) (v := ?_) (a' := ?_) #[true, true, false, false, false, false, false, false, false, true, false, false] rfl rfl (any_of HT_.out (by kernel_rfl)) (fun _ _ _ h => h) (Or.inl ⟨by rfl, ?_⟩) ?_ ?_
        rotate_left
        ·intro w'
         go_simp
         with_reducible rfl
        rotate_left
        ·simp only [Act.put, List.setIfInBounds_toArray, List.set_cons_zero, List.set_cons_succ, i64_w, i32_w]
         rfl
        refine take_ (i := 2) (N := some 49) (v := ?_) (a' := ?_) #[true, true, true, false, false, false, false, false, false, true, false, false] rfl rfl (take_ofW HT_.out HW_.out (by kernel_rfl)) (fun _ _ _ h => h) (Or.inl ⟨by rfl, ?_⟩) hHeld ?_ ?_
        rotate_left
        ·rintro w' ⟨s0, s1, s2, s3, s4, s5, s6, s7, s8⟩
         go_simp
         with_reducible rfl
        rotate_left
        ·simp only [Act.put, List.setIfInBounds_toArray, List.set_cons_zero, List.set_cons_succ, i64_w, i32_w]
         rfl
        refine one_ (i := 3) (N := some 50) #[true, true, true, true, false, false, false, false, false, true, false, false] rfl rfl (one_of HT_.out (by kernel_rfl)) (by decide) (fun K hK => ?_)
        refine goes_ Try.func74 (by kernel_rfl) rfl #[.agg #[.int .i64 1, .int .i64 a0_1, .int .i64 a0_2, .int .i64 a0_3, .string a0_4, .string a0_5, .bool a0_6, .slice A0_7 l0_7.length c0_7, .slice A0_8 l0_8.length c0_8]] (by rfl) rfl rfl (by (try simp only [List.map_toArray, List.map_cons, List.map_nil]); first | done | rfl | (simp only [List.length_drop, List.length_take]; rfl)) ?_
        refine (HLJ.out _ HB.out).mono ?_
        rintro e w92 ⟨rfl, hb⟩
        refine ⟨_, rfl, ?_⟩
        have n0_ := Aside0.mk (blk_below (g := w.heap.size) (o := .cells #[.int .i64 1, .int .i64 a0_1, .int .i64 a0_2, .int .i64 a0_3, .string a0_4, .string a0_5, .bool a0_6, .slice A0_7 l0_7.length c0_7, .slice A0_8 l0_8.length c0_8] 35 (0, 0)) BK103.out hb)
        have n1_ := Aside0.mk (blk_below (g := g) (o := .cells #[.int .i64 1, .int .i64 a0_1, .int .i64 a0_2, .int .i64 0, .string ⟨#[]⟩, .string ⟨#[]⟩, .bool false] 129 (0, 0)) BK111.out hb)
        have n2_ := Aside0.mk (HB.out.trans (hb.mono HB.out.size))
        clear BK103
        clear BK111
        clear HB
        have BK103 := n0_
        have BK111 := n1_
        have HB := n2_
        clear n0_ n1_ n2_
        (try clear hb)
        (try clear hb2)
        (try clear hk)
        (try clear hi)
        refine hK.out _ _ ⟨(blk_cell BK103.out 0).trans rfl, (blk_cell BK103.out 1).trans rfl, (blk_cell BK103.out 2).trans rfl, (blk_cell BK103.out 3).trans rfl, (blk_cell BK103.out 4).trans rfl, (blk_cell BK103.out 5).trans rfl, (blk_cell BK103.out 6).trans rfl, (blk_cell BK103.out 7).trans rfl, (blk_cell BK103.out 8).trans rfl⟩ (fun hHeld => ?_)
        clear hK K
        refine norm_ (a' := ?_) ?_ ?_
        rotate_left
        ·show Act.put _ (some 50) _ = _
         simp only [Act.put, List.setIfInBounds_toArray, List.set_cons_zero, List.set_cons_succ, i64_w, i32_w]
         rfl
        refine pure_ (i := 4) (N := some 51) (v := ?_) (a' := ?_) #[true, true, true, true, true, false, false, false, false, true, false, false] rfl rfl (any_of HT_.out (by kernel_rfl)) (fun _ _ _ h => h) (Or.inl ⟨by rfl, ?_⟩) ?_ ?_
        rotate_left
        ·intro w'
         go_simp
         with_reducible rfl
        rotate_left
        ·simp only [Act.put, List.setIfInBounds_toArray, List.set_cons_zero, List.set_cons_succ, i64_w, i32_w]
         rfl
        refine pure_ (i := 5) (N := some 52) (v := undef) (a' := ?_) #[true, true, true, true, true, true, false, false, false, true, false, false] rfl rfl (any_of HT_.out (by kernel_rfl)) (fun _ _ _ h => h) (Or.inr ⟨by rfl, rfl⟩) ?_ ?_
        rotate_left
        ·simp only [Act.put, List.setIfInBounds_toArray, List.set_cons_zero, List.set_cons_succ, i64_w, i32_w]
         rfl
        refine pure_ (i := 6) (N := some 53) (v := undef) (a' := ?_) #[true, true, true, true, true, true, true, false, false, true, false, false] rfl rfl (any_of HT_.out (by kernel_rfl)) (fun _ _ _ h => h) (Or.inr ⟨by rfl, rfl⟩) ?_ ?_
        rotate_left
        ·simp only [Act.put, List.setIfInBounds_toArray, List.set_cons_zero, List.set_cons_succ, i64_w, i32_w]
         rfl
        refine pure_ (i := 7) (N := some 54) (v := undef) (a' := ?_) #[true, true, true, true, true, true, true, true, false, true, false, false] rfl rfl (any_of HT_.out (by kernel_rfl)) (fun _ _ _ h => h) (Or.inr ⟨by rfl, rfl⟩) ?_ ?_
        rotate_left
        ·simp only [Act.put, List.setIfInBounds_toArray, List.set_cons_zero, List.set_cons_succ, i64_w, i32_w]
         rfl
        refine pure_ (i := 8) (N := some 55) (v := ?_) (a' := ?_) #[true, true, true, true, true, true, true, true, true, true, false, false] rfl rfl (any_of HT_.out (by kernel_rfl)) (fun _ _ _ h => h) (Or.inl ⟨by rfl, ?_⟩) ?_ ?_
        rotate_left
        ·intro w'
         go_simp
         with_reducible rfl
        rotate_left
        ·simp only [Act.put, List.setIfInBounds_toArray, List.set_cons_zero, List.set_cons_succ, i64_w, i32_w]
         rfl
        refine one_ (i := 10) (N := none) #[true, true, true, true, true, true, true, true, true, true, true, false] rfl rfl (one_of HT_.out (by kernel_rfl)) (by decide) (fun K hK => ?_)
        have hs93 : w92.cell? ⟨g, 3, none⟩ = some (.int .i64 0) := (blk_cell BK111.out 3).trans rfl
        have hfs93 := blk_frozen BK111.out 3
        have hns93_0 := NB103_111.out
        have hms93_0 := NB111_103.out
        refine skip_ (w1 := ?_) (by rfl) rfl ?_ ?_
        rotate_left
        ·go_simp
         rfl
        refine hK.out _ _ ⟨((cell_far (p := ⟨g, _, none⟩) NB103_111.out _).trans (hHeld.1)), ((cell_far (p := ⟨g, _, none⟩) NB103_111.out _).trans (hHeld.2.1)), ((cell_far (p := ⟨g, _, none⟩) NB103_111.out _).trans (hHeld.2.2.1)), ((cell_far (p := ⟨g, _, none⟩) NB103_111.out _).trans (hHeld.2.2.2.1)), ((cell_far (p := ⟨g, _, none⟩) NB103_111.out _).trans (hHeld.2.2.2.2.1)), ((cell_far (p := ⟨g, _, none⟩) NB103_111.out _).trans (hHeld.2.2.2.2.2.1)), ((cell_far (p := ⟨g, _, none⟩) NB103_111.out _).trans (hHeld.2.2.2.2.2.2.1)), ((cell_far (p := ⟨g, _, none⟩) NB103_111.out _).trans (hHeld.2.2.2.2.2.2.2.1)), ((cell_far (p := ⟨g, _, none⟩) NB103_111.out _).trans (hHeld.2.2.2.2.2.2.2.2))⟩ (fun hHeld => ?_)
        clear hK K
        refine pure_ (i := 11) (N := some 4) (v := ?_) (a' := ?_) #[true, true, true, true, true, true, true, true, true, true, true, true] rfl rfl (any_of HT_.out (by kernel_rfl)) (fun _ _ _ h => h) (Or.inl ⟨by rfl, ?_⟩) ?_ ?_
        rotate_left
        ·intro w'
         go_simp
         with_reducible rfl
        rotate_left
        ·simp only [Act.put, List.setIfInBounds_toArray, List.set_cons_zero, List.set_cons_succ, i64_w, i32_w]
         rfl
        refine done_ (done_of HT_.out (by kernel_rfl)) ?_
        all_goals (try go_wp2_with fail)
        all_goals go_meet
        all_goals (case rel => exact ⟨false, 1, a0_1, a0_2, a0_3, ⟨#[]⟩, ⟨#[]⟩, false, rfl, ⟨by rw [ok1 rfl, hl]; simp only [bareB, emp, beq0, beq_self_eq_true, Bool.true_and, Bool.and_true, Bool.and_assoc]; cases a0_6 <;> simp⟩, ⟨blk_put BK111.out 3 _ rfl⟩, ⟨Below.setCell HB.out HGE.out _⟩⟩)
       | true =>
        have HLJ : Aside0 (∀ W, Below wy.heap.size wy W → Calls Try.prog 74 #[.agg #[.int .i64 1, .int .i64 a0_1, .int .i64 a0_2, .int .i64 a0_3, .string a0_4, .string a0_5, .bool a0_6, .slice A0_7 l0_7.length c0_7, .slice A0_8 l0_8.length c0_8]] W fun e w' => e = .returned (.bool true) ∧ Below W.heap.size W w') := ⟨fun W hW => by have h := HLI.out W hW; rw [hl] at h; exact h⟩
        clear HLI
        go_wp2_with fail
        go_region_held3 (fun w' => w'.cell? ⟨w.heap.size, 0, none⟩ = some (.int .i64 1) ∧ w'.cell? ⟨w.heap.size, 1, none⟩ = some (.int .i64 a0_1) ∧ w'.cell? ⟨w.heap.size, 2, none⟩ = some (.int .i64 a0_2) ∧ w'.cell? ⟨w.heap.size, 3, none⟩ = some (.int .i64 a0_3) ∧ w'.cell? ⟨w.heap.size, 4, none⟩ = some (.string a0_4) ∧ w'.cell? ⟨w.heap.size, 5, none⟩ = some (.string a0_5) ∧ w'.cell? ⟨w.heap.size, 6, none⟩ = some (.bool a0_6) ∧ w'.cell? ⟨w.heap.size, 7, none⟩ = some (.slice A0_7 l0_7.length c0_7) ∧ w'.cell? ⟨w.heap.size, 8, none⟩ = some (.slice A0_8 l0_8.length c0_8)) (exact KEEP.out _ (by repeat (with_reducible first | exact HQW.out | exact HB5.out | apply below_drew1 | refine Below.setCell ?_ HGE.out _)))
         (first
          | (go_simp; go_at_call 74; refine (HLJ.out _ (by repeat (with_reducible first | exact HB5.out | apply below_drew1))).mono ?_; rintro e wq ⟨rfl, hq⟩; have HQ := Aside0.mk (belT7 (a := w5) (by repeat (with_reducible first | exact Below.refl _ _ | apply below_drew1)) hq); have HQW : Aside0 (Below wy.heap.size wy wq) := ⟨HB5.out.trans (HQ.out.mono HB5.out.size)⟩; have hgx := blk_below HG5.out HQ.out; have HGX := Aside0.mk hgx; obtain ⟨gx0, gx1, gx2, gx3, gx4, gx5, gx6⟩ := flat_cells hgx; obtain ⟨fx0, fx1, fx2, fx3, fx4, fx5, fx6⟩ := flat_frozen hgx; clear hgx hq))
        all_goals (try go_wp2_with fail)
        all_goals go_meet
        all_goals (case rel => exact ⟨decide (0 < a0_1), 1, a0_1, a0_2, a0_3, ⟨#[]⟩, ⟨#[]⟩, false, rfl, ⟨by rw [ok1 rfl, hl]; simp only [bareB, emp, beq0, beq_self_eq_true, Bool.true_and, Bool.and_true, Bool.and_assoc]; cases a0_6 <;> simp⟩, ⟨blk_put HGX.out 3 _ rfl⟩, ⟨Below.setCell HQW.out HGE.out _⟩⟩)
     case rest =>
      obtain ⟨b4, t0, t1, t2, t3, t4, t5, t6, rfl, HEQ, HT, HBT⟩ := hcut
      obtain ⟨w6, hw6⟩ : ∃ w6, w6 = wc := ⟨_, rfl⟩
      subst hw6
      clear HLI KEEP HG5 HB5 HX5 q0 q1 q2 q3 q4 q5 q6 q7 q8 r0 r1 r2 r3 r4 r5 r6 f0 f1 f2 f3 f4 f5 f6
      have HBZ : Aside0 (Below w.heap.size w w6) := ⟨HBY.out.trans (HBT.out.mono HBY.out.size)⟩
      obtain ⟨q0, q1, q2, q3, q4, q5, q6, q7, q8⟩ := rec_cells (blk_below HX.out HBT.out)
      obtain ⟨r0, r1, r2, r3, r4, r5, r6⟩ := flat_cells HT.out
      clear HX HT HBT HBW HBY
      cases b4 with
      | false =>
       have HR : Aside0 (r = 80) := ⟨by rw [HV.out, HEQ.out]; rfl⟩
       clear HV HEQ
       go_wp2_with fail
       go_ret
       exact ⟨by rw [HR.out]; rfl, HBZ.out⟩
      | true =>
       have HN := Aside0.mk (not_and7 (t0 == a0_0) (t1 == a0_1) (t2 == a0_2) (t3 == a0_3) (t4.toList == a0_4.toList) (t5.toList == a0_5.toList) (t6 == a0_6))
       cases hz : (t0 == a0_0 && (t1 == a0_1 && (t2 == a0_2 && (t3 == a0_3 && (t4.toList == a0_4.toList && (t5.toList == a0_5.toList && (t6 == a0_6))))))) with
       | false =>
        have HR : Aside0 (r = 80) := ⟨by rw [HV.out, HEQ.out, hz]; rfl⟩
        have czb := HN.out
        rw [hz] at czb
        have czb2 : _ = true := czb
        clear HV HEQ hz czb HN
        go_wp2_with fail
        go_ret
        exact ⟨by rw [HR.out]; rfl, HBZ.out⟩
       | true =>
        have HR : Aside0 (r = 0) := ⟨by rw [HV.out, HEQ.out, hz]; rfl⟩
        have czb := HN.out
        rw [hz] at czb
        have czb2 : _ = false := czb
        clear HV HEQ hz czb HN
        go_wp2_with fail
        go_ret
        exact ⟨by rw [HR.out]; rfl, HBZ.out⟩

set_option maxHeartbeats 8000000 in
set_option maxRecDepth 100000 in
theorem check_k3 (a0_0 : Int) (a0_1 : Int) (a0_2 : Int) (a0_3 : Int) (a0_4 : ByteArray) (a0_5 : ByteArray) (a0_6 : Bool) (A0_7 : Option Addr) (c0_7 : Nat) (l0_7 : List ByteArray) (A0_8 : Option Addr) (c0_8 : Nat) (l0_8 : List (S56)) (r : Int) (w : World) (hr0_7 : Kd.C Kd.string w A0_7 l0_7.length l0_7) (hc0_7 : l0_7.length ≤ c0_7) (hr0_8 : Kd.C k56 w A0_8 l0_8.length l0_8) (hc0_8 : l0_8.length ≤ c0_8) (h : record_Check.f a0_0 a0_1 a0_2 a0_3 a0_4 a0_5 a0_6 l0_7 l0_8 = some r) (hkk : a0_0 = 3) :
 Calls Try.prog 35 #[.agg #[.int .i64 a0_0, .int .i64 a0_1, .int .i64 a0_2, .int .i64 a0_3, .string a0_4, .string a0_5, .bool a0_6, .slice A0_7 l0_7.length c0_7, .slice A0_8 l0_8.length c0_8]] w fun e w' => e = .returned (.int .i64 r) ∧ Below w.heap.size w w' := by
 have HKK := Aside0.mk hkk
 clear hkk
 have hsm := check_small h
 have HRV := Aside0.mk (check_val h)
 obtain ⟨wy, hwy⟩ : ∃ wy, wy = w.alloc (.cells #[.int .i64 a0_0, .int .i64 a0_1, .int .i64 a0_2, .int .i64 a0_3, .string a0_4, .string a0_5, .bool a0_6, .slice A0_7 l0_7.length c0_7, .slice A0_8 l0_8.length c0_8] 35) := ⟨_, rfl⟩
 have hby : Below w.heap.size w wy := by rw [hwy]; exact below_alloc (Below.refl _ _) _
 have hx : wy.heap[w.heap.size]? = some (.cells #[.int .i64 a0_0, .int .i64 a0_1, .int .i64 a0_2, .int .i64 a0_3, .string a0_4, .string a0_5, .bool a0_6, .slice A0_7 l0_7.length c0_7, .slice A0_8 l0_8.length c0_8] 35 (0, 0)) := by rw [hwy]; exact blk_new _ _
 have HBY := Aside0.mk hby
 have HX := Aside0.mk hx
 have HWY := Aside0.mk hwy
 have HNN := Aside0.mk (none_eq l0_7 l0_8 hsm.1 hsm.2)
 have HBR : Aside0 (∀ W, Below wy.heap.size wy W → Calls Try.prog 73 #[.agg #[.int .i64 a0_0, .int .i64 a0_1, .int .i64 a0_2, .int .i64 a0_3, .string a0_4, .string a0_5, .bool a0_6, .slice A0_7 l0_7.length c0_7, .slice A0_8 l0_8.length c0_8]] W fun e w' => e = .returned (.agg #[.int .i64 a0_0, .int .i64 a0_1, .int .i64 a0_2, .int .i64 0, .string ⟨#[]⟩, .string ⟨#[]⟩, .bool false]) ∧ Below W.heap.size W w') := ⟨fun W hW => record_bare.calls a0_0 a0_1 a0_2 a0_3 a0_4 a0_5 a0_6 A0_7 c0_7 l0_7 A0_8 c0_8 l0_8 _ _ _ _ _ _ _ W (Kd.C_below (Kd.C_below hr0_7 hby) hW) hc0_7 (Kd.C_below (Kd.C_below hr0_8 hby) hW) hc0_8 rfl⟩
 have HLI : Aside0 (∀ W, Below wy.heap.size wy W → Calls Try.prog 74 #[.agg #[.int .i64 a0_0, .int .i64 a0_1, .int .i64 a0_2, .int .i64 a0_3, .string a0_4, .string a0_5, .bool a0_6, .slice A0_7 l0_7.length c0_7, .slice A0_8 l0_8.length c0_8]] W fun e w' => e = .returned (.bool (listedB l0_7 l0_8)) ∧ Below W.heap.size W w') := ⟨fun W hW => record_listed.calls _ a0_0 a0_1 a0_2 a0_3 a0_4 a0_5 a0_6 A0_7 c0_7 l0_7 A0_8 c0_8 l0_8 _ W (Kd.C_below (Kd.C_below hr0_7 hby) hW) hc0_7 (Kd.C_below (Kd.C_below hr0_8 hby) hW) hc0_8 (listed_f a0_0 a0_1 a0_2 a0_3 a0_4 a0_5 a0_6 l0_7 l0_8 (Kd.C_max hr0_7) hsm.2 _ (Nat.lt_succ_self _))⟩
 have h7m := Kd.C_max hr0_7
 have h8m := Kd.C_max hr0_8
 have hu := Try.underlying35
 have hv := Try.underlying129
 obtain ⟨q0, q1, q2, q3, q4, q5, q6, q7, q8⟩ := rec_cells hx
 clear hr0_7 hc0_7 hr0_8 hc0_8 h hsm hwy hby hx
 go_enter Try.func35, Try.ntmps35
 go_upto_region 1 with (fail)
 rw [← HWY.out]
 clear HWY
 go_cut [32] (fun v wd => v = .bool (rangeBad a0_1 a0_2 a0_3) ∧ Aside0 (wd = wy))
 case first =>
  cases c0 : decide (a0_1 < 0) with
  | true =>
   have HK := Aside0.mk (show rangeBad a0_1 a0_2 a0_3 = true by unfold rangeBad; simp only [c0, Bool.false_or, Bool.true_or])
   go_wp2_with fail
   go_meet
   case rel => exact ⟨by rw [HK.out], ⟨rfl⟩⟩
  | false =>
   cases c1 : decide (1125899906842623 < a0_1) with
   | true =>
    have HK := Aside0.mk (show rangeBad a0_1 a0_2 a0_3 = true by unfold rangeBad; simp only [c0, c1, Bool.false_or, Bool.true_or])
    go_wp2_with fail
    go_meet
    case rel => exact ⟨by rw [HK.out], ⟨rfl⟩⟩
   | false =>
    cases c2 : decide (a0_2 < 0) with
    | true =>
     have HK := Aside0.mk (show rangeBad a0_1 a0_2 a0_3 = true by unfold rangeBad; simp only [c0, c1, c2, Bool.false_or, Bool.true_or])
     go_wp2_with fail
     go_meet
     case rel => exact ⟨by rw [HK.out], ⟨rfl⟩⟩
    | false =>
     cases c3 : decide (1125899906842624 < a0_2) with
     | true =>
      have HK := Aside0.mk (show rangeBad a0_1 a0_2 a0_3 = true by unfold rangeBad; simp only [c0, c1, c2, c3, Bool.false_or, Bool.true_or])
      go_wp2_with fail
      go_meet
      case rel => exact ⟨by rw [HK.out], ⟨rfl⟩⟩
     | false =>
      cases c4 : decide (a0_3 < 0) with
      | true =>
       have HK := Aside0.mk (show rangeBad a0_1 a0_2 a0_3 = true by unfold rangeBad; simp only [c0, c1, c2, c3, c4, Bool.false_or, Bool.true_or])
       go_wp2_with fail
       go_meet
       case rel => exact ⟨by rw [HK.out], ⟨rfl⟩⟩
      | false =>
       cases c5 : decide (16 ≤ a0_3) with
       | true =>
        have HK := Aside0.mk (show rangeBad a0_1 a0_2 a0_3 = true by unfold rangeBad; simp only [c0, c1, c2, c3, c4, c5, Bool.false_or, Bool.true_or])
        go_wp2_with fail
        go_meet
        case rel => exact ⟨by rw [HK.out], ⟨rfl⟩⟩
       | false =>
        have HK := Aside0.mk (show rangeBad a0_1 a0_2 a0_3 = false by unfold rangeBad; simp only [c0, c1, c2, c3, c4, c5, Bool.false_or])
        go_wp2_with fail
        go_meet
        case rel => exact ⟨by rw [HK.out], ⟨rfl⟩⟩
 case rest =>
  obtain ⟨rfl, HE⟩ := hcut
  rw [HE.out]
  clear HE
  cases hb : rangeBad a0_1 a0_2 a0_3 with
  | true =>
   have HV := Aside0.mk (check_bad HRV.out hb)
   clear hb
   go_wp2_with fail
   go_ret
   exact ⟨by rw [HV.out]; rfl, HBY.out⟩
  | false =>
   have HV := Aside0.mk (check_good HRV.out hb)
   have KEEP : Aside0 (∀ W, Below wy.heap.size wy W → W.cell? ⟨w.heap.size, 0, none⟩ = some (.int .i64 a0_0) ∧ W.cell? ⟨w.heap.size, 1, none⟩ = some (.int .i64 a0_1) ∧ W.cell? ⟨w.heap.size, 2, none⟩ = some (.int .i64 a0_2) ∧ W.cell? ⟨w.heap.size, 3, none⟩ = some (.int .i64 a0_3) ∧ W.cell? ⟨w.heap.size, 4, none⟩ = some (.string a0_4) ∧ W.cell? ⟨w.heap.size, 5, none⟩ = some (.string a0_5) ∧ W.cell? ⟨w.heap.size, 6, none⟩ = some (.bool a0_6) ∧ W.cell? ⟨w.heap.size, 7, none⟩ = some (.slice A0_7 l0_7.length c0_7) ∧ W.cell? ⟨w.heap.size, 8, none⟩ = some (.slice A0_8 l0_8.length c0_8)) := ⟨fun W hW => rec_cells (blk_below HX.out hW)⟩
   clear hb HRV
   go_upto_region 3 with (fail)
   go_cut [3, 4] (fun va vb wd => ∃ g, va = .pointer (some ⟨g, 0, none⟩) ∧ vb = .bool (noneB l0_7 l0_8) ∧ Aside0 (wy.heap.size ≤ g) ∧ Aside0 (wd.heap[g]? = some (.cells #[.int .i64 a0_0, .int .i64 a0_1, .int .i64 a0_2, .int .i64 0, .string ⟨#[]⟩, .string ⟨#[]⟩, .bool false] 129 (0, 0)) ∧ Below wy.heap.size wy wd))
   case first =>
    go_region_held3 (fun w' => w'.cell? ⟨w.heap.size, 0, none⟩ = some (.int .i64 a0_0) ∧ w'.cell? ⟨w.heap.size, 1, none⟩ = some (.int .i64 a0_1) ∧ w'.cell? ⟨w.heap.size, 2, none⟩ = some (.int .i64 a0_2) ∧ w'.cell? ⟨w.heap.size, 3, none⟩ = some (.int .i64 a0_3) ∧ w'.cell? ⟨w.heap.size, 4, none⟩ = some (.string a0_4) ∧ w'.cell? ⟨w.heap.size, 5, none⟩ = some (.string a0_5) ∧ w'.cell? ⟨w.heap.size, 6, none⟩ = some (.bool a0_6) ∧ w'.cell? ⟨w.heap.size, 7, none⟩ = some (.slice A0_7 l0_7.length c0_7) ∧ w'.cell? ⟨w.heap.size, 8, none⟩ = some (.slice A0_8 l0_8.length c0_8)) (exact KEEP.out _ (by repeat (with_reducible first | exact HQ.out | exact Below.refl _ _ | apply below_drew1 | apply below_alloc | exact put7_below HQ.out (Nat.le_refl _) _ _ _ _ _ _ _ | exact put7_below HQ.out HQ.out.size _ _ _ _ _ _ _ | exact put7_below (below_alloc HQ.out _) HQ.out.size _ _ _ _ _ _ _)))
     (first
      | (go_simp; go_at_call 73; refine (HBR.out _ (by repeat (with_reducible first | exact HQ.out | exact Below.refl _ _ | apply below_drew1 | apply below_alloc | exact put7_below HQ.out (Nat.le_refl _) _ _ _ _ _ _ _ | exact put7_below HQ.out HQ.out.size _ _ _ _ _ _ _ | exact put7_below (below_alloc HQ.out _) HQ.out.size _ _ _ _ _ _ _))).mono ?_; rintro e wq ⟨rfl, hq⟩; have HQ := Aside0.mk (belT7 (a := wy) (by repeat (with_reducible first | exact HQ.out | exact Below.refl _ _ | apply below_drew1 | apply below_alloc | exact put7_below HQ.out (Nat.le_refl _) _ _ _ _ _ _ _ | exact put7_below HQ.out HQ.out.size _ _ _ _ _ _ _ | exact put7_below (below_alloc HQ.out _) HQ.out.size _ _ _ _ _ _ _)) hq); (first | (have hgx := blk_below (show ((wy.drew).alloc (.cells #[.int .i64 0, .int .i64 0, .int .i64 0, .int .i64 0, .string ⟨#[]⟩, .string ⟨#[]⟩, .bool false] 129)).heap[wy.heap.size]? = some (.cells #[.int .i64 0, .int .i64 0, .int .i64 0, .int .i64 0, .string ⟨#[]⟩, .string ⟨#[]⟩, .bool false] 129 (0, 0)) from blk_new _ _) hq; have HGX := Aside0.mk hgx; obtain ⟨gx0, gx1, gx2, gx3, gx4, gx5, gx6⟩ := flat_cells hgx; obtain ⟨fx0, fx1, fx2, fx3, fx4, fx5, fx6⟩ := flat_frozen hgx; clear hgx hq) | clear hq)))
    all_goals (try go_wp2_with fail)
    all_goals go_meet
    all_goals (case rel => first | (with_reducible refine ⟨wq.heap.size, rfl, ?_, ⟨HQ.out.size⟩, ⟨?_, ?_⟩⟩; rw [i64_w, HNN.out]; exact blk_new _ _; exact below_alloc HQ.out _) | (with_reducible refine ⟨wy.heap.size, rfl, ?_, ⟨Nat.le_refl _⟩, ⟨?_, ?_⟩⟩; rw [i64_w, HNN.out]; exact put7_blk HGX.out _ _ _ _ _ _ _; exact put7_below HQ.out (Nat.le_refl _) _ _ _ _ _ _ _))
   case rest =>
    obtain ⟨g, rfl, rfl, HGE, HG⟩ := hcut
    obtain ⟨w5, hw5⟩ : ∃ w5, w5 = wc := ⟨_, rfl⟩
    subst hw5
    have HB5 : Aside0 (Below wy.heap.size wy w5) := ⟨HG.out.2⟩
    have HG5 := Aside0.mk HG.out.1
    have HX5 := Aside0.mk (blk_below HX.out HG.out.2)
    have HBW : Aside0 (Below w.heap.size w w5) := ⟨HBY.out.trans (HB5.out.mono HBY.out.size)⟩
    clear HNN HBR HG q0 q1 q2 q3 q4 q5 q6 q7 q8
    obtain ⟨q0, q1, q2, q3, q4, q5, q6, q7, q8⟩ := rec_cells HX5.out
    obtain ⟨r0, r1, r2, r3, r4, r5, r6⟩ := flat_cells HG5.out
    obtain ⟨f0, f1, f2, f3, f4, f5, f6⟩ := flat_frozen HG5.out
    have HOK := Aside0.mk (Eq.refl (recOk a0_0 a0_1 a0_2 a0_3 a0_4 a0_5 a0_6 l0_7 l0_8))
    obtain ⟨nb, hnb⟩ : ∃ nb, nb = noneB l0_7 l0_8 := ⟨_, rfl⟩
    rw [← hnb]
    have HNB := Aside0.mk hnb
    clear hnb
    ·go_upto_block 0 with (fail)
     go_cut [4] (fun v4 wd => ∃ b4 t0 t1 t2 t3 t4 t5 t6, v4 = .bool b4 ∧ Aside0 (recOk a0_0 a0_1 a0_2 a0_3 a0_4 a0_5 a0_6 l0_7 l0_8 = (b4 && (t0 == a0_0 && (t1 == a0_1 && (t2 == a0_2 && (t3 == a0_3 && (t4.toList == a0_4.toList && (t5.toList == a0_5.toList && (t6 == a0_6))))))))) ∧ Aside0 (wd.heap[g]? = some (.cells #[.int .i64 t0, .int .i64 t1, .int .i64 t2, .int .i64 t3, .string t4, .string t5, .bool t6] 129 (0, 0))) ∧ Aside0 (Below wy.heap.size wy wd))
     case first =>
      obtain rfl := HKK.out
      ·obtain ⟨w6, hw6⟩ : ∃ w6, w6 = (((((((w5.setCell ⟨g, 0, none⟩ (.int .i64 3)).setCell ⟨g, 1, none⟩ (.int .i64 0)).setCell ⟨g, 2, none⟩ (.int .i64 a0_2)).setCell ⟨g, 3, none⟩ (.int .i64 0)).setCell ⟨g, 4, none⟩ (.string a0_4)).setCell ⟨g, 5, none⟩ (.string a0_5)).setCell ⟨g, 6, none⟩ (.bool a0_6)) := ⟨_, rfl⟩
       have HT6 : Aside0 (w6.heap[g]? = some (.cells #[.int .i64 3, .int .i64 0, .int .i64 a0_2, .int .i64 0, .string a0_4, .string a0_5, .bool a0_6] 129 (0, 0))) := ⟨by rw [hw6]; exact put7_blk HG5.out (.int .i64 3) (.int .i64 0) (.int .i64 a0_2) (.int .i64 0) (.string a0_4) (.string a0_5) (.bool a0_6)⟩
       have HB6 : Aside0 (Below wy.heap.size wy w6) := ⟨by rw [hw6]; exact put7_below HB5.out HGE.out (.int .i64 3) (.int .i64 0) (.int .i64 a0_2) (.int .i64 0) (.string a0_4) (.string a0_5) (.bool a0_6)⟩
       have HW6 := Aside0.mk hw6
       have k6 := KEEP.out _ HB6.out
       clear hw6 HLI KEEP
       go_upto_region 16 with (fail)
       rw [← HW6.out]
       clear q0 q1 q2 q3 q4 q5 q6 q7 q8 HG5 HB5 HX5 r0 r1 r2 r3 r4 r5 r6 f0 f1 f2 f3 f4 f5 f6 HW6
       obtain ⟨q0, q1, q2, q3, q4, q5, q6, q7, q8⟩ := k6
       cases nb with
       | false =>
        go_wp2_with fail
        go_meet
        case rel => exact ⟨false, 3, 0, a0_2, 0, a0_4, a0_5, a0_6, rfl, ⟨by rw [ok3 rfl, ← HNB.out]; simp only [bareB, emp, beq0, beq_self_eq_true, Bool.true_and, Bool.and_true, Bool.and_assoc]; cases a0_6 <;> simp⟩, ⟨HT6.out⟩, ⟨HB6.out⟩⟩
       | true =>
        cases c2 : decide (0 < a0_2) with
        | false =>
         go_wp2_with fail
         go_meet
         case rel => exact ⟨false, 3, 0, a0_2, 0, a0_4, a0_5, a0_6, rfl, ⟨by rw [ok3 rfl, ← HNB.out, c2]; simp only [bareB, emp, beq0, beq_self_eq_true, Bool.true_and, Bool.and_true, Bool.and_assoc]; cases a0_6 <;> simp⟩, ⟨HT6.out⟩, ⟨HB6.out⟩⟩
        | true =>
         cases hk : keyB a0_4 with
         | false =>
          have HKY := Aside0.mk ((key_f a0_4).trans (congrArg some hk))
          go_wp2_with fail
          refine (letter_Key.calls a0_4 false _ HKY.out).mono ?_
          rintro e w' ⟨rfl, ⟨nd, rfl⟩⟩
          go_wp2_with fail
          go_meet
          case rel => exact ⟨false, 3, 0, a0_2, 0, a0_4, a0_5, a0_6, rfl, ⟨by rw [ok3 rfl, ← HNB.out, c2, hk]; simp only [bareB, emp, beq0, beq_self_eq_true, Bool.true_and, Bool.and_true, Bool.and_assoc]; cases a0_6 <;> simp⟩, ⟨blk_drewN HT6.out _⟩, ⟨pw_below_drewN HB6.out _⟩⟩
         | true =>
          have HKY := Aside0.mk ((key_f a0_4).trans (congrArg some hk))
          go_wp2_with fail
          refine (letter_Key.calls a0_4 true _ HKY.out).mono ?_
          rintro e w' ⟨rfl, ⟨nd, rfl⟩⟩
          cases hz : decide ((a0_5.size : Int) ≤ 2052) with
           | false =>
            have hz2 : decide (a0_5.size ≤ 2052) = false := by rw [← hz]; exact decide_eq_decide.2 (by omega)
            go_wp2_with fail
            go_meet
            case rel => exact ⟨false, 3, 0, a0_2, 0, a0_4, a0_5, a0_6, rfl, ⟨by rw [ok3 rfl, ← HNB.out, c2, hk, hz2]; simp only [bareB, emp, beq0, beq_self_eq_true, Bool.true_and, Bool.and_true, Bool.and_assoc]; cases a0_6 <;> simp⟩, ⟨blk_drewN HT6.out _⟩, ⟨pw_below_drewN HB6.out _⟩⟩
           | true =>
            have hz2 : decide (a0_5.size ≤ 2052) = true := by rw [← hz]; exact decide_eq_decide.2 (by omega)
            cases a0_6 with
            | false =>
             go_wp2_with fail
             go_meet
             case rel => exact ⟨true, 3, 0, a0_2, 0, a0_4, a0_5, false, rfl, ⟨by rw [ok3 rfl, ← HNB.out, c2, hk, hz2]; simp only [bareB, emp, beq0, beq_self_eq_true, Bool.true_and, Bool.and_true, Bool.and_assoc]; simp⟩, ⟨blk_drewN HT6.out _⟩, ⟨pw_below_drewN HB6.out _⟩⟩
            | true =>
             cases he : a0_5.toList.isEmpty with
             | false =>
              go_wp2_with fail
              go_meet
              case rel => exact ⟨false, 3, 0, a0_2, 0, a0_4, a0_5, true, rfl, ⟨by rw [ok3 rfl, ← HNB.out, c2, hk, hz2, he]; simp only [bareB, emp, beq0, beq_self_eq_true, Bool.true_and, Bool.and_true, Bool.and_assoc]; simp⟩, ⟨blk_drewN HT6.out _⟩, ⟨pw_below_drewN HB6.out _⟩⟩
             | true =>
              go_wp2_with fail
              go_meet
              case rel => exact ⟨true, 3, 0, a0_2, 0, a0_4, a0_5, true, rfl, ⟨by rw [ok3 rfl, ← HNB.out, c2, hk, hz2, he]; simp only [bareB, emp, beq0, beq_self_eq_true, Bool.true_and, Bool.and_true, Bool.and_assoc]; simp⟩, ⟨blk_drewN HT6.out _⟩, ⟨pw_below_drewN HB6.out _⟩⟩
     case rest =>
      obtain ⟨b4, t0, t1, t2, t3, t4, t5, t6, rfl, HEQ, HT, HBT⟩ := hcut
      obtain ⟨w6, hw6⟩ : ∃ w6, w6 = wc := ⟨_, rfl⟩
      subst hw6
      clear HLI KEEP HG5 HB5 HX5 q0 q1 q2 q3 q4 q5 q6 q7 q8 r0 r1 r2 r3 r4 r5 r6 f0 f1 f2 f3 f4 f5 f6
      have HBZ : Aside0 (Below w.heap.size w w6) := ⟨HBY.out.trans (HBT.out.mono HBY.out.size)⟩
      obtain ⟨q0, q1, q2, q3, q4, q5, q6, q7, q8⟩ := rec_cells (blk_below HX.out HBT.out)
      obtain ⟨r0, r1, r2, r3, r4, r5, r6⟩ := flat_cells HT.out
      clear HX HT HBT HBW HBY
      cases b4 with
      | false =>
       have HR : Aside0 (r = 80) := ⟨by rw [HV.out, HEQ.out]; rfl⟩
       clear HV HEQ
       go_wp2_with fail
       go_ret
       exact ⟨by rw [HR.out]; rfl, HBZ.out⟩
      | true =>
       have HN := Aside0.mk (not_and7 (t0 == a0_0) (t1 == a0_1) (t2 == a0_2) (t3 == a0_3) (t4.toList == a0_4.toList) (t5.toList == a0_5.toList) (t6 == a0_6))
       cases hz : (t0 == a0_0 && (t1 == a0_1 && (t2 == a0_2 && (t3 == a0_3 && (t4.toList == a0_4.toList && (t5.toList == a0_5.toList && (t6 == a0_6))))))) with
       | false =>
        have HR : Aside0 (r = 80) := ⟨by rw [HV.out, HEQ.out, hz]; rfl⟩
        have czb := HN.out
        rw [hz] at czb
        have czb2 : _ = true := czb
        clear HV HEQ hz czb HN
        go_wp2_with fail
        go_ret
        exact ⟨by rw [HR.out]; rfl, HBZ.out⟩
       | true =>
        have HR : Aside0 (r = 0) := ⟨by rw [HV.out, HEQ.out, hz]; rfl⟩
        have czb := HN.out
        rw [hz] at czb
        have czb2 : _ = false := czb
        clear HV HEQ hz czb HN
        go_wp2_with fail
        go_ret
        exact ⟨by rw [HR.out]; rfl, HBZ.out⟩

set_option maxHeartbeats 8000000 in
set_option maxRecDepth 100000 in
theorem check_kr (a0_0 : Int) (a0_1 : Int) (a0_2 : Int) (a0_3 : Int) (a0_4 : ByteArray) (a0_5 : ByteArray) (a0_6 : Bool) (A0_7 : Option Addr) (c0_7 : Nat) (l0_7 : List ByteArray) (A0_8 : Option Addr) (c0_8 : Nat) (l0_8 : List (S56)) (r : Int) (w : World) (hr0_7 : Kd.C Kd.string w A0_7 l0_7.length l0_7) (hc0_7 : l0_7.length ≤ c0_7) (hr0_8 : Kd.C k56 w A0_8 l0_8.length l0_8) (hc0_8 : l0_8.length ≤ c0_8) (h : record_Check.f a0_0 a0_1 a0_2 a0_3 a0_4 a0_5 a0_6 l0_7 l0_8 = some r) (hkk : a0_0 ≠ 1 ∧ a0_0 ≠ 3) :
 Calls Try.prog 35 #[.agg #[.int .i64 a0_0, .int .i64 a0_1, .int .i64 a0_2, .int .i64 a0_3, .string a0_4, .string a0_5, .bool a0_6, .slice A0_7 l0_7.length c0_7, .slice A0_8 l0_8.length c0_8]] w fun e w' => e = .returned (.int .i64 r) ∧ Below w.heap.size w w' := by
 have HKK := Aside0.mk hkk
 clear hkk
 have hsm := check_small h
 have HRV := Aside0.mk (check_val h)
 obtain ⟨wy, hwy⟩ : ∃ wy, wy = w.alloc (.cells #[.int .i64 a0_0, .int .i64 a0_1, .int .i64 a0_2, .int .i64 a0_3, .string a0_4, .string a0_5, .bool a0_6, .slice A0_7 l0_7.length c0_7, .slice A0_8 l0_8.length c0_8] 35) := ⟨_, rfl⟩
 have hby : Below w.heap.size w wy := by rw [hwy]; exact below_alloc (Below.refl _ _) _
 have hx : wy.heap[w.heap.size]? = some (.cells #[.int .i64 a0_0, .int .i64 a0_1, .int .i64 a0_2, .int .i64 a0_3, .string a0_4, .string a0_5, .bool a0_6, .slice A0_7 l0_7.length c0_7, .slice A0_8 l0_8.length c0_8] 35 (0, 0)) := by rw [hwy]; exact blk_new _ _
 have HBY := Aside0.mk hby
 have HX := Aside0.mk hx
 have HWY := Aside0.mk hwy
 have HNN := Aside0.mk (none_eq l0_7 l0_8 hsm.1 hsm.2)
 have HBR : Aside0 (∀ W, Below wy.heap.size wy W → Calls Try.prog 73 #[.agg #[.int .i64 a0_0, .int .i64 a0_1, .int .i64 a0_2, .int .i64 a0_3, .string a0_4, .string a0_5, .bool a0_6, .slice A0_7 l0_7.length c0_7, .slice A0_8 l0_8.length c0_8]] W fun e w' => e = .returned (.agg #[.int .i64 a0_0, .int .i64 a0_1, .int .i64 a0_2, .int .i64 0, .string ⟨#[]⟩, .string ⟨#[]⟩, .bool false]) ∧ Below W.heap.size W w') := ⟨fun W hW => record_bare.calls a0_0 a0_1 a0_2 a0_3 a0_4 a0_5 a0_6 A0_7 c0_7 l0_7 A0_8 c0_8 l0_8 _ _ _ _ _ _ _ W (Kd.C_below (Kd.C_below hr0_7 hby) hW) hc0_7 (Kd.C_below (Kd.C_below hr0_8 hby) hW) hc0_8 rfl⟩
 have HLI : Aside0 (∀ W, Below wy.heap.size wy W → Calls Try.prog 74 #[.agg #[.int .i64 a0_0, .int .i64 a0_1, .int .i64 a0_2, .int .i64 a0_3, .string a0_4, .string a0_5, .bool a0_6, .slice A0_7 l0_7.length c0_7, .slice A0_8 l0_8.length c0_8]] W fun e w' => e = .returned (.bool (listedB l0_7 l0_8)) ∧ Below W.heap.size W w') := ⟨fun W hW => record_listed.calls _ a0_0 a0_1 a0_2 a0_3 a0_4 a0_5 a0_6 A0_7 c0_7 l0_7 A0_8 c0_8 l0_8 _ W (Kd.C_below (Kd.C_below hr0_7 hby) hW) hc0_7 (Kd.C_below (Kd.C_below hr0_8 hby) hW) hc0_8 (listed_f a0_0 a0_1 a0_2 a0_3 a0_4 a0_5 a0_6 l0_7 l0_8 (Kd.C_max hr0_7) hsm.2 _ (Nat.lt_succ_self _))⟩
 have h7m := Kd.C_max hr0_7
 have h8m := Kd.C_max hr0_8
 have hu := Try.underlying35
 have hv := Try.underlying129
 obtain ⟨q0, q1, q2, q3, q4, q5, q6, q7, q8⟩ := rec_cells hx
 clear hr0_7 hc0_7 hr0_8 hc0_8 h hsm hwy hby hx
 go_enter Try.func35, Try.ntmps35
 go_upto_region 1 with (fail)
 rw [← HWY.out]
 clear HWY
 go_cut [32] (fun v wd => v = .bool (rangeBad a0_1 a0_2 a0_3) ∧ Aside0 (wd = wy))
 case first =>
  cases c0 : decide (a0_1 < 0) with
  | true =>
   have HK := Aside0.mk (show rangeBad a0_1 a0_2 a0_3 = true by unfold rangeBad; simp only [c0, Bool.false_or, Bool.true_or])
   go_wp2_with fail
   go_meet
   case rel => exact ⟨by rw [HK.out], ⟨rfl⟩⟩
  | false =>
   cases c1 : decide (1125899906842623 < a0_1) with
   | true =>
    have HK := Aside0.mk (show rangeBad a0_1 a0_2 a0_3 = true by unfold rangeBad; simp only [c0, c1, Bool.false_or, Bool.true_or])
    go_wp2_with fail
    go_meet
    case rel => exact ⟨by rw [HK.out], ⟨rfl⟩⟩
   | false =>
    cases c2 : decide (a0_2 < 0) with
    | true =>
     have HK := Aside0.mk (show rangeBad a0_1 a0_2 a0_3 = true by unfold rangeBad; simp only [c0, c1, c2, Bool.false_or, Bool.true_or])
     go_wp2_with fail
     go_meet
     case rel => exact ⟨by rw [HK.out], ⟨rfl⟩⟩
    | false =>
     cases c3 : decide (1125899906842624 < a0_2) with
     | true =>
      have HK := Aside0.mk (show rangeBad a0_1 a0_2 a0_3 = true by unfold rangeBad; simp only [c0, c1, c2, c3, Bool.false_or, Bool.true_or])
      go_wp2_with fail
      go_meet
      case rel => exact ⟨by rw [HK.out], ⟨rfl⟩⟩
     | false =>
      cases c4 : decide (a0_3 < 0) with
      | true =>
       have HK := Aside0.mk (show rangeBad a0_1 a0_2 a0_3 = true by unfold rangeBad; simp only [c0, c1, c2, c3, c4, Bool.false_or, Bool.true_or])
       go_wp2_with fail
       go_meet
       case rel => exact ⟨by rw [HK.out], ⟨rfl⟩⟩
      | false =>
       cases c5 : decide (16 ≤ a0_3) with
       | true =>
        have HK := Aside0.mk (show rangeBad a0_1 a0_2 a0_3 = true by unfold rangeBad; simp only [c0, c1, c2, c3, c4, c5, Bool.false_or, Bool.true_or])
        go_wp2_with fail
        go_meet
        case rel => exact ⟨by rw [HK.out], ⟨rfl⟩⟩
       | false =>
        have HK := Aside0.mk (show rangeBad a0_1 a0_2 a0_3 = false by unfold rangeBad; simp only [c0, c1, c2, c3, c4, c5, Bool.false_or])
        go_wp2_with fail
        go_meet
        case rel => exact ⟨by rw [HK.out], ⟨rfl⟩⟩
 case rest =>
  obtain ⟨rfl, HE⟩ := hcut
  rw [HE.out]
  clear HE
  cases hb : rangeBad a0_1 a0_2 a0_3 with
  | true =>
   have HV := Aside0.mk (check_bad HRV.out hb)
   clear hb
   go_wp2_with fail
   go_ret
   exact ⟨by rw [HV.out]; rfl, HBY.out⟩
  | false =>
   have HV := Aside0.mk (check_good HRV.out hb)
   have KEEP : Aside0 (∀ W, Below wy.heap.size wy W → W.cell? ⟨w.heap.size, 0, none⟩ = some (.int .i64 a0_0) ∧ W.cell? ⟨w.heap.size, 1, none⟩ = some (.int .i64 a0_1) ∧ W.cell? ⟨w.heap.size, 2, none⟩ = some (.int .i64 a0_2) ∧ W.cell? ⟨w.heap.size, 3, none⟩ = some (.int .i64 a0_3) ∧ W.cell? ⟨w.heap.size, 4, none⟩ = some (.string a0_4) ∧ W.cell? ⟨w.heap.size, 5, none⟩ = some (.string a0_5) ∧ W.cell? ⟨w.heap.size, 6, none⟩ = some (.bool a0_6) ∧ W.cell? ⟨w.heap.size, 7, none⟩ = some (.slice A0_7 l0_7.length c0_7) ∧ W.cell? ⟨w.heap.size, 8, none⟩ = some (.slice A0_8 l0_8.length c0_8)) := ⟨fun W hW => rec_cells (blk_below HX.out hW)⟩
   clear hb HRV
   go_upto_region 3 with (fail)
   go_cut [3, 4] (fun va vb wd => ∃ g, va = .pointer (some ⟨g, 0, none⟩) ∧ vb = .bool (noneB l0_7 l0_8) ∧ Aside0 (wy.heap.size ≤ g) ∧ Aside0 (wd.heap[g]? = some (.cells #[.int .i64 a0_0, .int .i64 a0_1, .int .i64 a0_2, .int .i64 0, .string ⟨#[]⟩, .string ⟨#[]⟩, .bool false] 129 (0, 0)) ∧ Below wy.heap.size wy wd))
   case first =>
    go_region_held3 (fun w' => w'.cell? ⟨w.heap.size, 0, none⟩ = some (.int .i64 a0_0) ∧ w'.cell? ⟨w.heap.size, 1, none⟩ = some (.int .i64 a0_1) ∧ w'.cell? ⟨w.heap.size, 2, none⟩ = some (.int .i64 a0_2) ∧ w'.cell? ⟨w.heap.size, 3, none⟩ = some (.int .i64 a0_3) ∧ w'.cell? ⟨w.heap.size, 4, none⟩ = some (.string a0_4) ∧ w'.cell? ⟨w.heap.size, 5, none⟩ = some (.string a0_5) ∧ w'.cell? ⟨w.heap.size, 6, none⟩ = some (.bool a0_6) ∧ w'.cell? ⟨w.heap.size, 7, none⟩ = some (.slice A0_7 l0_7.length c0_7) ∧ w'.cell? ⟨w.heap.size, 8, none⟩ = some (.slice A0_8 l0_8.length c0_8)) (exact KEEP.out _ (by repeat (with_reducible first | exact HQ.out | exact Below.refl _ _ | apply below_drew1 | apply below_alloc | exact put7_below HQ.out (Nat.le_refl _) _ _ _ _ _ _ _ | exact put7_below HQ.out HQ.out.size _ _ _ _ _ _ _ | exact put7_below (below_alloc HQ.out _) HQ.out.size _ _ _ _ _ _ _)))
     (first
      | (go_simp; go_at_call 73; refine (HBR.out _ (by repeat (with_reducible first | exact HQ.out | exact Below.refl _ _ | apply below_drew1 | apply below_alloc | exact put7_below HQ.out (Nat.le_refl _) _ _ _ _ _ _ _ | exact put7_below HQ.out HQ.out.size _ _ _ _ _ _ _ | exact put7_below (below_alloc HQ.out _) HQ.out.size _ _ _ _ _ _ _))).mono ?_; rintro e wq ⟨rfl, hq⟩; have HQ := Aside0.mk (belT7 (a := wy) (by repeat (with_reducible first | exact HQ.out | exact Below.refl _ _ | apply below_drew1 | apply below_alloc | exact put7_below HQ.out (Nat.le_refl _) _ _ _ _ _ _ _ | exact put7_below HQ.out HQ.out.size _ _ _ _ _ _ _ | exact put7_below (below_alloc HQ.out _) HQ.out.size _ _ _ _ _ _ _)) hq); (first | (have hgx := blk_below (show ((wy.drew).alloc (.cells #[.int .i64 0, .int .i64 0, .int .i64 0, .int .i64 0, .string ⟨#[]⟩, .string ⟨#[]⟩, .bool false] 129)).heap[wy.heap.size]? = some (.cells #[.int .i64 0, .int .i64 0, .int .i64 0, .int .i64 0, .string ⟨#[]⟩, .string ⟨#[]⟩, .bool false] 129 (0, 0)) from blk_new _ _) hq; have HGX := Aside0.mk hgx; obtain ⟨gx0, gx1, gx2, gx3, gx4, gx5, gx6⟩ := flat_cells hgx; obtain ⟨fx0, fx1, fx2, fx3, fx4, fx5, fx6⟩ := flat_frozen hgx; clear hgx hq) | clear hq)))
    all_goals (try go_wp2_with fail)
    all_goals go_meet
    all_goals (case rel => first | (with_reducible refine ⟨wq.heap.size, rfl, ?_, ⟨HQ.out.size⟩, ⟨?_, ?_⟩⟩; rw [i64_w, HNN.out]; exact blk_new _ _; exact below_alloc HQ.out _) | (with_reducible refine ⟨wy.heap.size, rfl, ?_, ⟨Nat.le_refl _⟩, ⟨?_, ?_⟩⟩; rw [i64_w, HNN.out]; exact put7_blk HGX.out _ _ _ _ _ _ _; exact put7_below HQ.out (Nat.le_refl _) _ _ _ _ _ _ _))
   case rest =>
    obtain ⟨g, rfl, rfl, HGE, HG⟩ := hcut
    obtain ⟨w5, hw5⟩ : ∃ w5, w5 = wc := ⟨_, rfl⟩
    subst hw5
    have HB5 : Aside0 (Below wy.heap.size wy w5) := ⟨HG.out.2⟩
    have HG5 := Aside0.mk HG.out.1
    have HX5 := Aside0.mk (blk_below HX.out HG.out.2)
    have HBW : Aside0 (Below w.heap.size w w5) := ⟨HBY.out.trans (HB5.out.mono HBY.out.size)⟩
    clear HNN HBR HG q0 q1 q2 q3 q4 q5 q6 q7 q8
    obtain ⟨q0, q1, q2, q3, q4, q5, q6, q7, q8⟩ := rec_cells HX5.out
    obtain ⟨r0, r1, r2, r3, r4, r5, r6⟩ := flat_cells HG5.out
    obtain ⟨f0, f1, f2, f3, f4, f5, f6⟩ := flat_frozen HG5.out
    have HOK := Aside0.mk (Eq.refl (recOk a0_0 a0_1 a0_2 a0_3 a0_4 a0_5 a0_6 l0_7 l0_8))
    obtain ⟨nb, hnb⟩ : ∃ nb, nb = noneB l0_7 l0_8 := ⟨_, rfl⟩
    rw [← hnb]
    have HNB := Aside0.mk hnb
    clear hnb
    by_cases hk : a0_0 = 2 ∨ a0_0 = 5 ∨ a0_0 = 6 ∨ a0_0 = 4 ∨ a0_0 = 7
    ·go_upto_block 0 with (fail)
     go_cut [4] (fun v4 wd => ∃ b4 t0 t1 t2 t3 t4 t5 t6, v4 = .bool b4 ∧ Aside0 (recOk a0_0 a0_1 a0_2 a0_3 a0_4 a0_5 a0_6 l0_7 l0_8 = (b4 && (t0 == a0_0 && (t1 == a0_1 && (t2 == a0_2 && (t3 == a0_3 && (t4.toList == a0_4.toList && (t5.toList == a0_5.toList && (t6 == a0_6))))))))) ∧ Aside0 (wd.heap[g]? = some (.cells #[.int .i64 t0, .int .i64 t1, .int .i64 t2, .int .i64 t3, .string t4, .string t5, .bool t6] 129 (0, 0))) ∧ Aside0 (Below wy.heap.size wy wd))
     case first =>
      rcases hk with rfl | rfl | rfl | rfl | rfl
      ·clear HLI KEEP
       cases nb with
       | false =>
        go_wp2_with fail
        go_meet
        case rel => exact ⟨false, 2, a0_1, a0_2, 0, ⟨#[]⟩, ⟨#[]⟩, false, rfl, ⟨by rw [ok2 rfl, ← HNB.out]; simp only [bareB, emp, beq0, beq_self_eq_true, Bool.true_and, Bool.and_true, Bool.and_assoc]; cases a0_6 <;> simp⟩, ⟨HG5.out⟩, ⟨HB5.out⟩⟩
       | true =>
        go_wp2_with fail
        go_meet
        case rel => exact ⟨decide (0 < a0_1), 2, a0_1, a0_2, 0, ⟨#[]⟩, ⟨#[]⟩, false, rfl, ⟨by rw [ok2 rfl, ← HNB.out]; simp only [bareB, emp, beq0, beq_self_eq_true, Bool.true_and, Bool.and_true, Bool.and_assoc]; cases a0_6 <;> simp⟩, ⟨HG5.out⟩, ⟨HB5.out⟩⟩
      ·clear HLI KEEP
       cases nb with
       | false =>
        go_wp2_with fail
        go_meet
        case rel => exact ⟨false, 5, a0_1, a0_2, 0, ⟨#[]⟩, ⟨#[]⟩, false, rfl, ⟨by rw [ok5 rfl, ← HNB.out]; simp only [bareB, emp, beq0, beq_self_eq_true, Bool.true_and, Bool.and_true, Bool.and_assoc]; cases a0_6 <;> simp⟩, ⟨HG5.out⟩, ⟨HB5.out⟩⟩
       | true =>
        cases c1 : decide (0 < a0_1) with
        | false =>
         go_wp2_with fail
         go_meet
         case rel => exact ⟨false, 5, a0_1, a0_2, 0, ⟨#[]⟩, ⟨#[]⟩, false, rfl, ⟨by rw [ok5 rfl, ← HNB.out, c1]; simp only [bareB, emp, beq0, beq_self_eq_true, Bool.true_and, Bool.and_true, Bool.and_assoc]; cases a0_6 <;> simp⟩, ⟨HG5.out⟩, ⟨HB5.out⟩⟩
        | true =>
         go_wp2_with fail
         go_meet
         case rel => exact ⟨decide (0 < a0_2), 5, a0_1, a0_2, 0, ⟨#[]⟩, ⟨#[]⟩, false, rfl, ⟨by rw [ok5 rfl, ← HNB.out, c1]; simp only [bareB, emp, beq0, beq_self_eq_true, Bool.true_and, Bool.and_true, Bool.and_assoc]; cases a0_6 <;> simp⟩, ⟨HG5.out⟩, ⟨HB5.out⟩⟩
      ·clear HLI KEEP
       cases nb with
       | false =>
        go_wp2_with fail
        go_region
        all_goals (try go_wp2_with fail)
        all_goals go_meet
        all_goals (case rel => exact ⟨false, 6, a0_1, 0, 0, ⟨#[]⟩, ⟨#[]⟩, false, rfl, ⟨by rw [ok6 rfl, ← HNB.out]; simp only [bareB, emp, beq0, beq_self_eq_true, Bool.true_and, Bool.and_true, Bool.and_assoc]; cases a0_6 <;> simp⟩, ⟨blk_drew (blk_put HG5.out 2 _ rfl)⟩, ⟨below_drew1 (Below.setCell HB5.out HGE.out _)⟩⟩)
       | true =>
        go_wp2_with fail
        go_region
        all_goals (try go_wp2_with fail)
        all_goals go_meet
        all_goals (case rel => exact ⟨decide (0 < a0_1), 6, a0_1, 0, 0, ⟨#[]⟩, ⟨#[]⟩, false, rfl, ⟨by rw [ok6 rfl, ← HNB.out]; simp only [bareB, emp, beq0, beq_self_eq_true, Bool.true_and, Bool.and_true, Bool.and_assoc]; cases a0_6 <;> simp⟩, ⟨blk_drew (blk_put HG5.out 2 _ rfl)⟩, ⟨below_drew1 (Below.setCell HB5.out HGE.out _)⟩⟩)
      ·clear HLI KEEP
       go_wp2_with fail
       go_meet
       case rel => exact ⟨nb, 4, 0, a0_2, 0, ⟨#[]⟩, ⟨#[]⟩, false, rfl, ⟨by rw [ok4 rfl, ← HNB.out]; simp only [bareB, emp, beq0, beq_self_eq_true, Bool.true_and, Bool.and_true, Bool.and_assoc]; cases a0_6 <;> simp⟩, ⟨blk_put HG5.out 1 _ rfl⟩, ⟨Below.setCell HB5.out HGE.out _⟩⟩
      ·clear HLI KEEP
       cases nb with
       | false =>
        go_wp2_with fail
        go_region
        all_goals (try go_wp2_with fail)
        all_goals go_meet
        all_goals (case rel => exact ⟨false, 7, 0, a0_2, 0, ⟨#[]⟩, ⟨#[]⟩, false, rfl, ⟨by rw [ok7 rfl, ← HNB.out]; simp only [bareB, emp, beq0, beq_self_eq_true, Bool.true_and, Bool.and_true, Bool.and_assoc]; cases a0_6 <;> simp⟩, ⟨blk_drew (blk_put HG5.out 1 _ rfl)⟩, ⟨below_drew1 (Below.setCell HB5.out HGE.out _)⟩⟩)
       | true =>
        go_wp2_with fail
        go_region
        all_goals (try go_wp2_with fail)
        all_goals go_meet
        all_goals (case rel => exact ⟨decide (0 < a0_2), 7, 0, a0_2, 0, ⟨#[]⟩, ⟨#[]⟩, false, rfl, ⟨by rw [ok7 rfl, ← HNB.out]; simp only [bareB, emp, beq0, beq_self_eq_true, Bool.true_and, Bool.and_true, Bool.and_assoc]; cases a0_6 <;> simp⟩, ⟨blk_drew (blk_put HG5.out 1 _ rfl)⟩, ⟨below_drew1 (Below.setCell HB5.out HGE.out _)⟩⟩)
     case rest =>
      obtain ⟨b4, t0, t1, t2, t3, t4, t5, t6, rfl, HEQ, HT, HBT⟩ := hcut
      obtain ⟨w6, hw6⟩ : ∃ w6, w6 = wc := ⟨_, rfl⟩
      subst hw6
      clear HLI KEEP HG5 HB5 HX5 q0 q1 q2 q3 q4 q5 q6 q7 q8 r0 r1 r2 r3 r4 r5 r6 f0 f1 f2 f3 f4 f5 f6
      have HBZ : Aside0 (Below w.heap.size w w6) := ⟨HBY.out.trans (HBT.out.mono HBY.out.size)⟩
      obtain ⟨q0, q1, q2, q3, q4, q5, q6, q7, q8⟩ := rec_cells (blk_below HX.out HBT.out)
      obtain ⟨r0, r1, r2, r3, r4, r5, r6⟩ := flat_cells HT.out
      clear HX HT HBT HBW HBY
      cases b4 with
      | false =>
       have HR : Aside0 (r = 80) := ⟨by rw [HV.out, HEQ.out]; rfl⟩
       clear HV HEQ
       go_wp2_with fail
       go_ret
       exact ⟨by rw [HR.out]; rfl, HBZ.out⟩
      | true =>
       have HN := Aside0.mk (not_and7 (t0 == a0_0) (t1 == a0_1) (t2 == a0_2) (t3 == a0_3) (t4.toList == a0_4.toList) (t5.toList == a0_5.toList) (t6 == a0_6))
       cases hz : (t0 == a0_0 && (t1 == a0_1 && (t2 == a0_2 && (t3 == a0_3 && (t4.toList == a0_4.toList && (t5.toList == a0_5.toList && (t6 == a0_6))))))) with
       | false =>
        have HR : Aside0 (r = 80) := ⟨by rw [HV.out, HEQ.out, hz]; rfl⟩
        have czb := HN.out
        rw [hz] at czb
        have czb2 : _ = true := czb
        clear HV HEQ hz czb HN
        go_wp2_with fail
        go_ret
        exact ⟨by rw [HR.out]; rfl, HBZ.out⟩
       | true =>
        have HR : Aside0 (r = 0) := ⟨by rw [HV.out, HEQ.out, hz]; rfl⟩
        have czb := HN.out
        rw [hz] at czb
        have czb2 : _ = false := czb
        clear HV HEQ hz czb HN
        go_wp2_with fail
        go_ret
        exact ⟨by rw [HR.out]; rfl, HBZ.out⟩
    ·have n1 : (a0_0 == 1) = false := by simpa using HKK.out.1
     have n3 : (a0_0 == 3) = false := by simpa using HKK.out.2
     have n2 : (a0_0 == 2) = false := by simpa using fun h => hk (.inl h)
     have n5 : (a0_0 == 5) = false := by simpa using fun h => hk (.inr (.inl h))
     have n6 : (a0_0 == 6) = false := by simpa using fun h => hk (.inr (.inr (.inl h)))
     have n4 : (a0_0 == 4) = false := by simpa using fun h => hk (.inr (.inr (.inr (.inl h))))
     have n7 : (a0_0 == 7) = false := by simpa using fun h => hk (.inr (.inr (.inr (.inr (h)))))
     have HR : Aside0 (r = 80) := ⟨by rw [HV.out, ok0 HKK.out.1 (fun h => hk (.inl h)) (fun h => hk (.inr (.inl h))) (fun h => hk (.inr (.inr (.inl h)))) HKK.out.2 (fun h => hk (.inr (.inr (.inr (.inl h))))) (fun h => hk (.inr (.inr (.inr (.inr (h))))))]; rfl⟩
     clear HV hk
     go_wp2_with fail
     go_ret
     exact ⟨by rw [HR.out]; rfl, HBW.out⟩
theorem record_Check.calls (a0_0 : Int) (a0_1 : Int) (a0_2 : Int) (a0_3 : Int) (a0_4 : ByteArray) (a0_5 : ByteArray) (a0_6 : Bool) (A0_7 : Option Addr) (c0_7 : Nat) (l0_7 : List ByteArray) (A0_8 : Option Addr) (c0_8 : Nat) (l0_8 : List (S56)) (r : Int) (w : World) (hr0_7 : Kd.C Kd.string w A0_7 l0_7.length l0_7) (hc0_7 : l0_7.length ≤ c0_7) (hr0_8 : Kd.C k56 w A0_8 l0_8.length l0_8) (hc0_8 : l0_8.length ≤ c0_8) (h : record_Check.f a0_0 a0_1 a0_2 a0_3 a0_4 a0_5 a0_6 l0_7 l0_8 = some r) :
 Calls Try.prog 35 #[.agg #[.int .i64 a0_0, .int .i64 a0_1, .int .i64 a0_2, .int .i64 a0_3, .string a0_4, .string a0_5, .bool a0_6, .slice A0_7 l0_7.length c0_7, .slice A0_8 l0_8.length c0_8]] w fun e w' => e = .returned (.int .i64 r) ∧ Below w.heap.size w w' := by
 by_cases h1 : a0_0 = 1
 ·exact check_k1 a0_0 a0_1 a0_2 a0_3 a0_4 a0_5 a0_6 A0_7 c0_7 l0_7 A0_8 c0_8 l0_8 r w hr0_7 hc0_7 hr0_8 hc0_8 h h1
 by_cases h3 : a0_0 = 3
 ·exact check_k3 a0_0 a0_1 a0_2 a0_3 a0_4 a0_5 a0_6 A0_7 c0_7 l0_7 A0_8 c0_8 l0_8 r w hr0_7 hc0_7 hr0_8 hc0_8 h h3
 exact check_kr a0_0 a0_1 a0_2 a0_3 a0_4 a0_5 a0_6 A0_7 c0_7 l0_7 A0_8 c0_8 l0_8 r w hr0_7 hc0_7 hr0_8 hc0_8 h ⟨h1, h3⟩
end Go.Proofs.Ytaldfbmjmpkmmaa.PL
