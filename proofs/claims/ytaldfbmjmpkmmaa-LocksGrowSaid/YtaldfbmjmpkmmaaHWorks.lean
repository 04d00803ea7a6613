/- The chapter's example: what prep makes; that works answers true. -/
-- IMPORTS
-- END IMPORTS
import Derived.Test.YtaldfbmjmpkmmaaPL0
import Derived.Test.YtaldfbmjmpkmmaaPLf55
import Derived.Test.YtaldfbmjmpkmmaaHAdmit
namespace Go.Proofs.Ytaldfbmjmpkmmaa.PL.Lk
open Go.Proofs.Ytaldfbmjmpkmmaa.PL Go.RowKit Go.Proofs.YtaldfbmjmpkmmaaW.PrintWords Go.Proofs.YtaldfbmjmpkmmaaW.PrintLast Go.Proofs.YtaldfbmjmpkmmaaW.PrintMore Go.Maps Mk
set_option linter.unusedVariables false
set_option linter.unusedSimpArgs false

theorem k56_heap : Kd.Heap k56 := Kd.heap_iso _ (Kd.heap_pair Kd.heap_string (Kd.heap_pair Kd.heap_string Kd.heap_bool))
theorem C_one1 {α : Type} {d : Kd α} {W : World} {g t : Nat} {cs : Array Value} {x : α} (h : W.heap[g]? = some (.cells cs t (0, 0))) (hk : d.K W x cs.toList) : d.C W (some ⟨g, 0, none⟩) 1 [x] := by
  refine ⟨rfl, by decide, fun _ => ⟨_, rfl, fun j p hj => ?_⟩⟩
  have hj0 : j = 0 := by
    have := (List.getElem?_eq_some_iff.1 hj).1
    simpa using this
  subst hj0
  obtain rfl : x = p := by simpa using hj
  refine ⟨cs.toList, d.K_len hk, hk, fun i u hu => ?_⟩
  have e : (⟨g, 0, none⟩ : Addr).add (0 * d.sz + i) = ⟨g, i, none⟩ := by cases i <;> simp [Addr.add]
  rw [e, blk_cell h i]
  simpa using hu
theorem blk_newI {W : World} {n : Nat} {o : Obj} (h : W.heap.size = n) : (W.alloc o).heap[n]? = some o := h ▸ blk_new W o
def prepR (a0 : Int) (a1 a2 : ByteArray) : S35 := ⟨1, a0, 0, 0, ⟨#[]⟩, ⟨#[]⟩, false, if a1.toList = [] then [] else [a1], if a2.toList = [] then [] else [⟨a2, ⟨#[]⟩, false⟩]⟩
set_option maxRecDepth 100000 in
set_option maxHeartbeats 2000000 in
theorem prep_walk (w : World) (a0 : Int) (a1 a2 : ByteArray) :
    Calls Try.prog 56 #[.int .i64 a0, .string a1, .string a2] w fun e w' => ∃ A7 c7 A8 c8, e = .returned (.agg #[.int .i64 1, .int .i64 a0, .int .i64 0, .int .i64 0, .string (⟨#[]⟩ : ByteArray), .string (⟨#[]⟩ : ByteArray), .bool false, .slice A7 (prepR a0 a1 a2).f7.length c7, .slice A8 (prepR a0 a1 a2).f8.length c8]) ∧
      (prepR a0 a1 a2).f7.length ≤ c7 ∧ Kd.C Kd.string w' A7 (prepR a0 a1 a2).f7.length (prepR a0 a1 a2).f7 ∧ (prepR a0 a1 a2).f8.length ≤ c8 ∧ Kd.C k56 w' A8 (prepR a0 a1 a2).f8.length (prepR a0 a1 a2).f8 ∧ Below w.heap.size w w' := by
  have hu35 := Try.underlying35
  have hu56 := Try.underlying56
  go_enter Try.func56, Try.ntmps56
  go_wp2
  all_goals rename_i h1 h2
  all_goals refine bodyPost_ret (results_cell_row rfl _ _ w.heap.size 35 _ (0, 0) _ rfl (by repeat (first | (refine blk_newI ?_; simp; done) | refine blk_alloc ?_ _)) Try.underlying35 rfl (by kernel_rfl)) rfl ?_
  · have e7 : (prepR a0 a1 a2).f7 = [a1] := by simp [prepR]; simpa using h1
    have e8 : (prepR a0 a1 a2).f8 = [⟨a2, ⟨#[]⟩, false⟩] := by simp [prepR]; simpa using h2
    rw [e7, e8]
    exact ⟨_, _, _, _, rfl, Nat.le_refl _, C_one1 (cs := #[.string a1]) (t := 9) (by repeat (first | (refine blk_newI ?_; simp; done) | refine blk_alloc ?_ _)) rfl, Nat.le_refl _, C_one1 (cs := #[.string a2, .string ⟨#[]⟩, .bool false]) (t := 56) (by repeat (first | (refine blk_newI ?_; simp; done) | refine blk_alloc ?_ _)) (k56_mk _ ⟨a2, ⟨#[]⟩, false⟩), (by repeat (first | exact Below.refl _ _ | apply below_alloc))⟩
  · have e7 : (prepR a0 a1 a2).f7 = [a1] := by simp [prepR]; simpa using h1
    have e8 : (prepR a0 a1 a2).f8 = [] := by simp [prepR]; simpa using h2
    rw [e7, e8]
    exact ⟨_, _, _, _, rfl, Nat.le_refl _, C_one1 (cs := #[.string a1]) (t := 9) (by repeat (first | (refine blk_newI ?_; simp; done) | refine blk_alloc ?_ _)) rfl, Nat.le_refl _, Kd.C_nil _ _, (by repeat (first | exact Below.refl _ _ | apply below_alloc))⟩
  · have e7 : (prepR a0 a1 a2).f7 = [] := by simp [prepR]; simpa using h1
    have e8 : (prepR a0 a1 a2).f8 = [⟨a2, ⟨#[]⟩, false⟩] := by simp [prepR]; simpa using h2
    rw [e7, e8]
    exact ⟨_, _, _, _, rfl, Nat.le_refl _, Kd.C_nil _ _, Nat.le_refl _, C_one1 (cs := #[.string a2, .string ⟨#[]⟩, .bool false]) (t := 56) (by repeat (first | (refine blk_newI ?_; simp; done) | refine blk_alloc ?_ _)) (k56_mk _ ⟨a2, ⟨#[]⟩, false⟩), (by repeat (first | exact Below.refl _ _ | apply below_alloc))⟩
  · have e7 : (prepR a0 a1 a2).f7 = [] := by simp [prepR]; simpa using h1
    have e8 : (prepR a0 a1 a2).f8 = [] := by simp [prepR]; simpa using h2
    rw [e7, e8]
    exact ⟨_, _, _, _, rfl, Nat.le_refl _, Kd.C_nil _ _, Nat.le_refl _, Kd.C_nil _ _, (by repeat (first | exact Below.refl _ _ | apply below_alloc))⟩

def ClashV (a b : S35) : Bool × Int := if wrongV [a, b] = 0 then (clashR a b, 0) else (false, wrongV [a, b])
theorem Clash_f (k : Nat) (hk : 2 < k) (a b : S35) (ha : sizesOk a) (hb : sizesOk b) : locks_Clash.f k a.f0 a.f1 a.f2 a.f3 a.f4 a.f5 a.f6 a.f7 a.f8 b.f0 b.f1 b.f2 b.f3 b.f4 b.f5 b.f6 b.f7 b.f8 = some (ClashV a b) := by
  unfold locks_Clash.f
  rw [show ([(⟨a.f0, a.f1, a.f2, a.f3, a.f4, a.f5, a.f6, a.f7, a.f8⟩ : S35), (⟨b.f0, b.f1, b.f2, b.f3, b.f4, b.f5, b.f6, b.f7, b.f8⟩ : S35)] : List S35) = [a, b] from rfl,
    wrong_f [a, b] (by simp) (fun r hr => by rcases List.mem_cons.1 hr with rfl | hr; exact ha; rcases List.mem_cons.1 hr with rfl | hr; exact hb; cases hr) k (by simpa using hk), Option.bind_some]
  unfold ClashV
  by_cases h : wrongV [a, b] = 0
  · rw [if_pos h, if_pos h, clash_f a b (prep_small a ((wrong_zero _ h).2 a (by simp))) (prep_small b ((wrong_zero _ h).2 b (by simp))), Option.bind_some]
  · rw [if_neg h, if_neg h]
theorem tl0 : (⟨#[]⟩ : ByteArray).toList = [] := by simp [ByteArray.toList, ByteArray.toList.loop, ByteArray.size]
theorem tl1 (x : UInt8) : (⟨#[x]⟩ : ByteArray).toList = [x] := by
  simp [ByteArray.toList, ByteArray.toList.loop, ByteArray.size, ByteArray.get!]
def rA : S35 := ⟨1, 1, 0, 0, ⟨#[]⟩, ⟨#[]⟩, false, [⟨#[97]⟩], [⟨⟨#[98]⟩, ⟨#[]⟩, false⟩]⟩
def rB : S35 := ⟨1, 2, 0, 0, ⟨#[]⟩, ⟨#[]⟩, false, [⟨#[98]⟩], []⟩
def rC : S35 := ⟨1, 1, 0, 0, ⟨#[]⟩, ⟨#[]⟩, false, [⟨#[97]⟩], []⟩
def rD : S35 := ⟨1, 2, 0, 0, ⟨#[]⟩, ⟨#[]⟩, false, [⟨#[97]⟩], []⟩
def rO : S35 := ⟨0, 0, 0, 0, ⟨#[]⟩, ⟨#[]⟩, false, [], []⟩
theorem prepB_A : prepB rA = true := by simp [prepB, recVR, recV, recOk, rangeBad, bareB, listedB, risingB, ris, keyB, writesB, shardB, noneB, rA, tl0, tl1, ByteArray.size]
theorem prepB_B : prepB rB = true := by simp [prepB, recVR, recV, recOk, rangeBad, bareB, listedB, risingB, ris, keyB, writesB, shardB, noneB, rB, tl0, tl1, ByteArray.size]
theorem prepB_C : prepB rC = true := by simp [prepB, recVR, recV, recOk, rangeBad, bareB, listedB, risingB, ris, keyB, writesB, shardB, noneB, rC, tl0, tl1, ByteArray.size]
theorem prepB_D : prepB rD = true := by simp [prepB, recVR, recV, recOk, rangeBad, bareB, listedB, risingB, ris, keyB, writesB, shardB, noneB, rD, tl0, tl1, ByteArray.size]
theorem prepB_O : prepB rO = false := by simp [prepB, rO]
theorem clash_AB : ClashV rA rB = (true, 0) := by
  unfold ClashV
  rw [if_pos (by simp [wrongV, prepB_A, prepB_B])]
  simp [clashR, clashB, rA, rB, strs, wkeys]
theorem clash_CD : ClashV rC rD = (false, 0) := by
  unfold ClashV
  rw [if_pos (by simp [wrongV, prepB_C, prepB_D])]
  simp [clashR, clashB, rC, rD, strs, wkeys]
theorem admit_O : admitV [rO] = ([], 80) := by simp [admitV, wrongV, prepB_O]
theorem prepR_ab : prepR 1 ⟨#[97]⟩ ⟨#[98]⟩ = rA := by simp [prepR, rA, tl1]
theorem prepR_b : prepR 2 ⟨#[98]⟩ ⟨#[]⟩ = rB := by simp [prepR, rB, tl1, tl0]
theorem prepR_c : prepR 1 ⟨#[97]⟩ ⟨#[]⟩ = rC := by simp [prepR, rC, tl1, tl0]
theorem prepR_d : prepR 2 ⟨#[97]⟩ ⟨#[]⟩ = rD := by simp [prepR, rD, tl1, tl0]
theorem V_of {α : Type} {d : Kd α} {e : Nat} {W : World} {A : Option Addr} {c : Nat} {xs : List α} (hd : Kd.Heap d) (h : d.C W A xs.length xs) (hl : xs.length ≤ c) : Kd.V d e W W.heap.size (fun k_ => k_ < W.heap.size) (.slice A xs.length c) xs := Kd.V_mk hl (Kd.C_F hd h)
def quietV (l : List S35) : Bool × Int := (if (admitV l).2 = 0 then ((admitV l).1.length == l.length) else false, (admitV l).2)
set_option maxRecDepth 100000 in
theorem quiet_walk (A0 : Option Addr) (c0 : Nat) (l0 : List (S35)) (w : World) (hr0 : Kd.C k35 w A0 l0.length l0) (hc0 : l0.length ≤ c0) (hs : ∀ r, r ∈ l0 → sizesOk r) :
    Calls Try.prog 57 #[.slice A0 l0.length c0] w fun e w' => e = .returned (.tuple #[.bool (quietV l0).1, .int .i64 (quietV l0).2]) ∧ Below w.heap.size w w' := by
  have hmax := Kd.C_max hr0
  have HA := Aside0.mk (admit_walk A0 c0 l0 w hr0 hc0 hs)
  clear hr0 hc0 hs
  go_enter Try.func57, Try.ntmps57
  go_wp2_with fail
  refine HA.out.mono ?_
  rintro e w1 ⟨v0, rfl, ho, hb⟩
  obtain ⟨A, c, rfl, hlc, hC⟩ := Kd.R_reads ho
  have hm := Kd.C_max hC
  have HB := Aside0.mk hb
  have HQ : Aside0 (quietV l0 = (if (admitV l0).2 = 0 then ((admitV l0).1.length == l0.length) else false, (admitV l0).2)) := ⟨rfl⟩
  clear ho hC hb HA
  generalize (admitV l0).1 = x at *
  generalize (admitV l0).2 = y at *
  have e : ((x.length : Int) == (l0.length : Int)) = (x.length == l0.length) := by rw [Bool.eq_iff_iff]; simp; omega
  have HE := Aside0.mk e
  clear e
  by_cases hy : y = 0
  · have HQ2 : Aside0 (quietV l0 = (x.length == l0.length, 0)) := ⟨by rw [HQ.out, if_pos hy, hy]⟩
    subst hy
    clear HQ
    go_wp2
    go_ret2
    exact ⟨by rw [HQ2.out, ← HE.out]; rfl, HB.out⟩
  · have HQ2 : Aside0 (quietV l0 = (false, y)) := ⟨by rw [HQ.out, if_neg hy]⟩
    clear HQ
    go_wp2
    go_ret2
    exact ⟨by rw [HQ2.out]; rfl, HB.out⟩
def corncriblaw18_works.f : Option (Bool) := some true
set_option maxRecDepth 100000 in
set_option maxHeartbeats 4000000 in
theorem works_walk (w : World) : Calls Try.prog 26 #[] w fun e w' => e = .returned (.bool true) ∧ Below w.heap.size w w' := by
  have hu35 := Try.underlying35
  go_enter Try.func26, Try.ntmps26
  go_wp2_with fail
  refine (prep_walk w 1 _ _).mono ?_
  rintro e w1 ⟨A7, c7, A8, c8, rfl, h7c, h7, h8c, h8, hb1⟩
  rw [prepR_ab] at h7c h7 h8c h8 ⊢
  have H1 := Aside0.mk (And.intro h7c (And.intro h7 (And.intro h8c (And.intro h8 hb1))))
  clear h7c h7 h8c h8 hb1
  go_wp2_with fail
  refine (prep_walk w1 2 _ _).mono ?_
  rintro e w2 ⟨B7, d7, B8, d8, rfl, h7c, h7, h8c, h8, hb2⟩
  rw [prepR_b] at h7c h7 h8c h8 ⊢
  have H2 := Aside0.mk (And.intro h7c (And.intro h7 (And.intro h8c (And.intro h8 (H1.out.2.2.2.2.trans (hb2.mono H1.out.2.2.2.2.size))))))
  have H1b := Aside0.mk (And.intro (Kd.C_below H1.out.2.1 hb2) (Kd.C_below H1.out.2.2.2.1 hb2))
  clear h7c h7 h8c h8 hb2
  go_wp2_with fail
  have hcl := Clash_f 3 (by omega) rA rB (by simp [sizesOk, rA]) (by simp [sizesOk, rB])
  rw [clash_AB] at hcl
  refine (locks_Clash.calls 3 _ _ _ _ _ _ _ _ _ _ rA.f7 _ _ _ rA.f8 _ _ _ _ _ _ _ _ _ _ rB.f7 _ _ _ rB.f8 true 0 w2 (V_of Kd.heap_string H1b.out.1 H1.out.1) (V_of k56_heap H1b.out.2 H1.out.2.2.1) (V_of Kd.heap_string H2.out.2.1 H2.out.1) (V_of k56_heap H2.out.2.2.2.1 H2.out.2.2.1) hcl).mono ?_
  rintro e w3 ⟨rfl, hb3⟩
  have HB3 : Aside0 (Below w.heap.size w w3) := ⟨H2.out.2.2.2.2.trans (hb3.mono H2.out.2.2.2.2.size)⟩
  clear hb3 hcl H1 H1b H2
  go_wp2_with fail
  refine (prep_walk w3 1 _ _).mono ?_
  rintro e w4 ⟨A7, c7, A8, c8, rfl, h7c, h7, h8c, h8, hb1⟩
  rw [prepR_c] at h7c h7 h8c h8 ⊢
  have H1 := Aside0.mk (And.intro h7c (And.intro h7 (And.intro h8c (And.intro h8 (HB3.out.trans (hb1.mono HB3.out.size))))))
  clear h7c h7 h8c h8 hb1
  go_wp2_with fail
  refine (prep_walk w4 2 _ _).mono ?_
  rintro e w5 ⟨B7, d7, B8, d8, rfl, h7c, h7, h8c, h8, hb2⟩
  rw [prepR_d] at h7c h7 h8c h8 ⊢
  have H2 := Aside0.mk (And.intro h7c (And.intro h7 (And.intro h8c (And.intro h8 (H1.out.2.2.2.2.trans (hb2.mono H1.out.2.2.2.2.size))))))
  have H1b := Aside0.mk (And.intro (Kd.C_below H1.out.2.1 hb2) (Kd.C_below H1.out.2.2.2.1 hb2))
  clear h7c h7 h8c h8 hb2
  go_wp2_with fail
  have hcl := Clash_f 3 (by omega) rC rD (by simp [sizesOk, rC]) (by simp [sizesOk, rD])
  rw [clash_CD] at hcl
  refine (locks_Clash.calls 3 _ _ _ _ _ _ _ _ _ _ rC.f7 _ _ _ rC.f8 _ _ _ _ _ _ _ _ _ _ rD.f7 _ _ _ rD.f8 false 0 w5 (V_of Kd.heap_string H1b.out.1 H1.out.1) (V_of k56_heap H1b.out.2 H1.out.2.2.1) (V_of Kd.heap_string H2.out.2.1 H2.out.1) (V_of k56_heap H2.out.2.2.2.1 H2.out.2.2.1) hcl).mono ?_
  rintro e w6 ⟨rfl, hb3⟩
  have HB6 : Aside0 (Below w.heap.size w w6) := ⟨H2.out.2.2.2.2.trans (hb3.mono H2.out.2.2.2.2.size)⟩
  clear hb3 hcl H1 H1b H2
  go_wp2_with fail
  have hO : Kd.C k35 (w6.alloc (.cells #[.int .i64 0, .int .i64 0, .int .i64 0, .int .i64 0, .string (⟨#[]⟩ : ByteArray), .string (⟨#[]⟩ : ByteArray), .bool false, .slice none 0 0, .slice none 0 0] 35)) (some ⟨w6.heap.size, 0, none⟩) [rO].length [rO] :=
    C_one1 (cs := #[.int .i64 0, .int .i64 0, .int .i64 0, .int .i64 0, .string (⟨#[]⟩ : ByteArray), .string (⟨#[]⟩ : ByteArray), .bool false, .slice none 0 0, .slice none 0 0]) (t := 35) (blk_new _ _) (k35_mk _ rO (Nat.le_refl _) (Kd.C_nil _ _) (Nat.le_refl _) (Kd.C_nil _ _))
  have hq := quiet_walk (some ⟨w6.heap.size, 0, none⟩) 1 [rO] _ hO (by simp) (fun r hr => by rw [List.mem_singleton.1 hr]; simp [sizesOk, rO])
  rw [show quietV [rO] = (false, 80) by simp [quietV, admit_O]] at hq
  refine hq.mono ?_
  rintro e w7 ⟨rfl, hb7⟩
  have HB7 : Aside0 (Below w.heap.size w w7) := ⟨(below_alloc HB6.out _).trans (hb7.mono (below_alloc HB6.out _).size)⟩
  clear hb7 hq hO HB6 HB3
  go_wp2_with fail
  go_ret
  exact ⟨rfl, HB7.out⟩
theorem corncriblaw18_works.calls (r : Bool) (w : World) (h : corncriblaw18_works.f = some r) :
    Calls Try.prog 26 #[] w fun e w' => e = .returned (.bool r) ∧ Below w.heap.size w w' := by
  obtain rfl : true = r := by simpa [corncriblaw18_works.f] using h
  exact works_walk w
end Go.Proofs.Ytaldfbmjmpkmmaa.PL.Lk
