/- The document's Get and New; step. -/
import Derived.Test.YteibcojjbcihbaaHRefT
import Derived.Test.YteibcojjbcihbaaHActT
namespace Go.Proofs.Yteibcojjbcihbaa.PT
open Go.RowKit Go.Proofs.YteibcojjbcihbaaW.PrintWords Go.Proofs.YteibcojjbcihbaaW.PrintLast Go.Proofs.YteibcojjbcihbaaW.PrintMore Go.Maps
open Mk (Up)
open Go.Proofs.Yteibcojjbcihbaa.Txn (Tab tput it0 keyB wrongV noteV writeV getV unguard newBad)
attribute [local go_sem] Mk.str_leq Mk.str_gtr Mk.str_geq
set_option linter.unusedVariables false
set_option linter.unusedSimpArgs false
set_option maxRecDepth 100000 in
set_option maxHeartbeats 2000000 in
/-- Get. -/
theorem refGet_walk (w : World) (b : Nat) (num ts : Int) (vR vW : Value) (R W : List S96) (h : RefT w b num ts vR vW R W) (hupR : Up (keysR R)) (hupW : Up (keysR W)) (hlR : R.length ≤ 16) (hlW : W.length ≤ 16) (k : ByteArray) :
    Calls Try.prog 44 #[.pointer (some ⟨b, 0, none⟩), .string k] w fun e w' => e = .returned (.tuple #[.string (getV (lookR R) (lookR W) k).1.1, .bool (getV (lookR R) (lookR W) k).1.2, .int .i64 (getV (lookR R) (lookR W) k).2]) ∧ Below w.heap.size w w' := by
  have H := Aside0.mk h
  obtain ⟨A, c, rfl, hlc, hC⟩ := Kd.R_reads h.ww
  obtain ⟨B, d, rfl, hld, hD⟩ := Kd.R_reads h.rr
  have HA := Aside0.mk (at_f W k (by omega))
  have HA' := Aside0.mk (at_f R k (by omega))
  have HKB := Aside0.mk (key_f k)
  have HC := Aside0.mk (And.intro hC hD)
  have HLC := Aside0.mk (And.intro hlc hld)
  have HI := Aside0.mk (And.intro (at_item W k.data.toList hupW) (And.intro (at_look W k.data.toList hupW) (And.intro (at_item R k.data.toList hupR) (at_look R k.data.toList hupR))))
  have hltW := at_lt W k.data.toList
  have hltR := at_lt R k.data.toList
  have HN : Aside0 (getV (lookR R) (lookR W) k = if keyB k = false then (it0, 3) else if (atR W k.data.toList).2 = true then (((rd_T96 W ((atR W k.data.toList).1 : Int)).f1, (rd_T96 W ((atR W k.data.toList).1 : Int)).f2), 0) else
      if (atR R k.data.toList).2 = true then (((rd_T96 R ((atR R k.data.toList).1 : Int)).f1, (rd_T96 R ((atR R k.data.toList).1 : Int)).f2), 0) else (it0, 240)) := ⟨by
    have h1 := HI.out.1
    have h2 := HI.out.2.1
    have h3 := HI.out.2.2.1
    have h4 := HI.out.2.2.2
    unfold getV
    cases hk : keyB k with
    | false => rfl
    | true =>
      rw [if_neg (by simp), if_neg (by simp)]
      cases hw : (atR W k.data.toList).2 with
      | true => rw [h1 hw]; rfl
      | false =>
        rw [hw] at h2
        have e1 : lookR W k.data.toList = none := by simpa using h2.symm
        rw [e1, if_neg (by decide)]
        cases hr : (atR R k.data.toList).2 with
        | true => rw [h3 hr]; rfl
        | false =>
          rw [hr] at h4
          have e2 : lookR R k.data.toList = none := by simpa using h4.symm
          rw [e2]
          rfl⟩
  clear hC hD hlc hld h hupR hupW HI
  obtain ⟨K1, hK1⟩ := HA.out
  obtain ⟨K2, hK2⟩ := HA'.out
  have HA1 : Aside0 (corncribref23_at.f K1 W k = some (((atR W k.data.toList).1 : Int), (atR W k.data.toList).2)) := ⟨hK1 K1 (Nat.le_refl _)⟩
  have HA2 : Aside0 (corncribref23_at.f K2 R k = some (((atR R k.data.toList).1 : Int), (atR R k.data.toList).2)) := ⟨hK2 K2 (Nat.le_refl _)⟩
  clear hK1 hK2 HA HA'
  generalize (atR W k.data.toList).1 = nW at *
  generalize (atR W k.data.toList).2 = fW at *
  generalize (atR R k.data.toList).1 = nR at *
  generalize (atR R k.data.toList).2 = fR at *
  go_enter Try.func44, Try.ntmps44
  go_wp2_with fail
  refine (corncribref07_Key.calls k _ _ HKB.out).mono ?_
  rintro e w1 ⟨rfl, n1, rfl⟩
  have HT := Aside0.mk (H.out.below (pw_below_drewN (Below.refl _ _) n1))
  have HG := Aside0.mk (pw_below_drewN (Below.refl w.heap.size w) n1)
  have HC1 := Aside0.mk (And.intro (Kd.C_drewN HC.out.1 n1) (Kd.C_drewN HC.out.2 n1))
  generalize w.drewN n1 = w1 at *
  generalize keyB k = kb at *
  cases kb with
  | false =>
    rw [if_pos rfl] at HN
    go_wp2
    go_ret3
    exact ⟨by rw [HN.out]; rfl, HG.out⟩
  | true =>
    rw [if_neg (by simp)] at HN
    obtain ⟨c1, c2, c3, c0⟩ := HT.out.cells
    go_wp2_with fail
    refine (corncribref23_at.calls K1 A c W k (nW : Int) fW w1 HC1.out.1 HLC.out.1 HA1.out).mono ?_
    rintro e w2 ⟨rfl, n2, rfl⟩
    have HT2 := Aside0.mk (HT.out.below (pw_below_drewN (Below.refl _ _) n2))
    have HG2 := Aside0.mk (HG.out.trans ((pw_below_drewN (Below.refl w1.heap.size w1) n2).mono HG.out.size))
    have HC2 := Aside0.mk (And.intro (Kd.C_drewN HC1.out.1 n2) (Kd.C_drewN HC1.out.2 n2))
    clear c0 c1 c2 c3 HT HG HC1
    generalize w1.drewN n2 = w2 at *
    obtain ⟨c1, c2, c3, c0⟩ := HT2.out.cells
    cases fW with
    | true =>
      rw [if_pos rfl] at HN
      have hl := hltW rfl
      obtain ⟨ad, rfl, q0, q1, q2⟩ := at_T96 HC2.out.1 (nW : Int) (by omega) (by omega)
      rw [Int.toNat_natCast] at q0 q1 q2
      generalize rd_T96 W (nW : Int) = x at *
      go_wp2
      go_quiet (fail)
      go_wp2
      go_ret3
      exact ⟨by rw [HN.out]; rfl, pw_below_drewN HG2.out _⟩
    | false =>
      rw [if_neg (by decide)] at HN
      go_wp2_with fail
      refine (corncribref23_at.calls K2 B d R k (nR : Int) fR w2 HC2.out.2 HLC.out.2 HA2.out).mono ?_
      rintro e w3 ⟨rfl, n3, rfl⟩
      have HT3 := Aside0.mk (HT2.out.below (pw_below_drewN (Below.refl _ _) n3))
      have HG3 := Aside0.mk (HG2.out.trans ((pw_below_drewN (Below.refl w2.heap.size w2) n3).mono HG2.out.size))
      have HC3 := Aside0.mk (Kd.C_drewN HC2.out.2 n3)
      clear c0 c1 c2 c3 HT2 HG2 HC2
      generalize w2.drewN n3 = w3 at *
      obtain ⟨c1, c2, c3, c0⟩ := HT3.out.cells
      cases fR with
      | true =>
        rw [if_pos rfl] at HN
        have hl := hltR rfl
        obtain ⟨ad, rfl, q0, q1, q2⟩ := at_T96 HC3.out (nR : Int) (by omega) (by omega)
        rw [Int.toNat_natCast] at q0 q1 q2
        generalize rd_T96 R (nR : Int) = x at *
        go_wp2
        go_quiet (fail)
        go_wp2
        go_ret3
        exact ⟨by rw [HN.out]; rfl, pw_below_drewN HG3.out _⟩
      | false =>
        rw [if_neg (by decide)] at HN
        go_wp2
        go_ret3
        exact ⟨by rw [HN.out]; rfl, HG3.out⟩
def badF (n t : Int) : Bool := newBad n t
theorem txn_f (n : Int) : corncribref07_Txn.f n = some (decide (1 ≤ n) && decide (n ≤ 1125899906842623)) := by
  unfold corncribref07_Txn.f
  by_cases h : n ≥ 1
  · rw [if_pos h]; simp; omega
  · rw [if_neg h]; simp; omega
theorem stamp_f (n : Int) : corncribref07_Stamp.f n = some (decide (0 ≤ n) && decide (n ≤ 1125899906842624)) := by
  unfold corncribref07_Stamp.f
  by_cases h : n ≥ 0
  · rw [if_pos h]; simp; omega
  · rw [if_neg h]; simp; omega
theorem bad_of (n t : Int) : newBad n t = (!(decide (1 ≤ n) && decide (n ≤ 1125899906842623)) || !(decide (0 ≤ t) && decide (t ≤ 1125899906842624))) := by
  unfold newBad
  rw [Bool.eq_iff_iff]
  simp only [Bool.or_eq_true, decide_eq_true_eq, Bool.not_eq_true', Bool.and_eq_false_iff, decide_eq_false_iff_not]
  omega
set_option maxRecDepth 100000 in
set_option maxHeartbeats 2000000 in
/-- New. -/
theorem refNew_bad (w : World) (n t : Int) (hb : newBad n t = true) : Calls Try.prog 18 #[.int .i64 n, .int .i64 t] w fun e w' => e = .returned (.tuple #[.pointer none, .int .i64 1]) ∧ Below w.heap.size w w' := by
  have H1 := Aside0.mk (txn_f n)
  have H2 := Aside0.mk (stamp_f t)
  rw [bad_of] at hb
  generalize (decide (1 ≤ n) && decide (n ≤ 1125899906842623)) = p at *
  generalize (decide (0 ≤ t) && decide (t ≤ 1125899906842624)) = q at *
  go_enter Try.func18, Try.ntmps18
  go_wp2_with fail
  refine (corncribref07_Txn.calls n _ _ H1.out).mono ?_
  rintro e w1 ⟨rfl, n1, rfl⟩
  cases p with
  | false =>
    go_wp2
    go_ret2
    exact ⟨rfl, pw_below_drewN (Below.refl _ _) _⟩
  | true =>
    obtain rfl : q = false := by simpa using hb
    go_wp2_with fail
    refine (corncribref07_Stamp.calls t _ _ H2.out).mono ?_
    rintro e w2 ⟨rfl, n2, rfl⟩
    have HB := Aside0.mk (pw_below_drewN (pw_below_drewN (Below.refl w.heap.size w) n1) n2)
    generalize hw : (w.drewN n1).drewN n2 = w2 at *
    clear hw
    go_wp2
    go_ret2
    exact ⟨rfl, HB.out⟩
set_option maxRecDepth 100000 in
set_option maxHeartbeats 2000000 in
theorem refNew_walk (w : World) (n t : Int) (hb : newBad n t = false) : Calls Try.prog 18 #[.int .i64 n, .int .i64 t] w fun e w' => Below w.heap.size w w' ∧ ∃ b : Nat, w.heap.size ≤ b ∧
      e = .returned (.tuple #[.pointer (some ⟨b, 0, none⟩), .int .i64 0]) ∧ RefT w' b n t (.slice none 0 0) (.slice none 0 0) [] [] := by
  have H1 := Aside0.mk (txn_f n)
  have H2 := Aside0.mk (stamp_f t)
  rw [bad_of] at hb
  generalize (decide (1 ≤ n) && decide (n ≤ 1125899906842623)) = p at *
  generalize (decide (0 ≤ t) && decide (t ≤ 1125899906842624)) = q at *
  obtain ⟨rfl, rfl⟩ : p = true ∧ q = true := by simpa using hb
  clear hb
  go_enter Try.func18, Try.ntmps18
  go_wp2_with fail
  refine (corncribref07_Txn.calls n _ _ H1.out).mono ?_
  rintro e w1 ⟨rfl, n1, rfl⟩
  go_wp2_with fail
  refine (corncribref07_Stamp.calls t _ _ H2.out).mono ?_
  rintro e w2 ⟨rfl, n2, rfl⟩
  have HB := Aside0.mk (pw_below_drewN (pw_below_drewN (Below.refl w.heap.size w) n1) n2)
  generalize hw : (w.drewN n1).drewN n2 = w2 at *
  clear hw
  go_wp2
  go_ret2
  exact ⟨below_alloc HB.out _, w2.heap.size, HB.out.size, rfl, ⟨blk_new _ _, Kd.R_nil _ _ _ _ _, Kd.R_nil _ _ _ _ _⟩⟩
end Go.Proofs.Yteibcojjbcihbaa.PT
