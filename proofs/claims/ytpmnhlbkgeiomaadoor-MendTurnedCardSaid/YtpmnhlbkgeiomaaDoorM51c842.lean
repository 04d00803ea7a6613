/- Texts of this proof, one behind the other (merged by a program of this session). -/
import Derived.Test.YtpmnhlbkgeiomaaDoorM0481f5
import Derived.Test.YtpmnhlbkgeiomaaDoorMf187c5
namespace Go.Proofs.YtpmnhlbkgeiomaaDoor.PS
open Go.RowKit Go.Proofs.YtpmnhlbkgeiomaaDoorW.PrintWords Go.Proofs.YtpmnhlbkgeiomaaDoorW.PrintLast Go.Proofs.YtpmnhlbkgeiomaaDoorW.PrintMore
attribute [local go_sem] Mk.str_leq Mk.str_gtr Mk.str_geq max2_int min2_int max_two min_two max_three min_three max_four min_four   -- for this text's walks alone
set_option linter.unusedVariables false
set_option linter.unusedSimpArgs false

/-! ### corncriblaw04_some: function 12 -/
mutual
def corncriblaw04_some.l0 : Nat → List ByteArray → Int → List Int → List Int → Int → Int → Option ((List (S37)))
 | 0, _, _, _, _, _, _ => none
 | k + 1, x0, x1, x2, x7, x13, x14 => if x14 < x13 then (if x7.length < 17592186044416 then (corncriblaw04_some.l0 k x0 x1 x2 (x7 ++ [x14]) x13 (wrap64 (x14 + 1))) else (none)) else (corncriblaw04_some.l1 k x0 x2 x7 ([] : List (S37)) x1 0)
def corncriblaw04_some.l1 : Nat → List ByteArray → List Int → List Int → List (S37) → Int → Int → Option ((List (S37)))
 | 0, _, _, _, _, _, _ => none
 | k + 1, x0, x2, x7, x9, x22, x23 => if x23 < x22 then (if x23 < (x2.length : Int) then (if 0 ≤ x23 then ((corncribbook_Among.f (rd x2 x23) (x7.length : Int)).bind fun t175 => (if 0 ≤ t175 then (if t175 < (x7.length : Int) then (if 0 ≤ (rd x7 t175) then (if (rd x7 t175) < (x0.length : Int) then (if x9.length < 5864062014805 then ((some (([] : List Int) : List Int)).bind fun y182 => (if t175 ≤ (x7.length : Int) then ((some (x7.take (t175 : Int).toNat : List Int)).bind fun y185 => (if y182.length + y185.length < 17592186044416 then ((some (y182 ++ y185 : List Int)).bind fun y189 => (if 0 ≤ (wrap64 (t175 + 1)) then (if (wrap64 (t175 + 1)) ≤ (x7.length : Int) then ((some (x7.drop ((wrap64 (t175 + 1)) : Int).toNat : List Int)).bind fun y192 => (if y189.length + y192.length < 17592186044416 then (corncriblaw04_some.l1 k x0 x2 (y189 ++ y192) (x9 ++ [(⟨rd x7 t175, rdOf ByteArray.empty x0 (rd x7 t175)⟩ : S37)]) x22 (wrap64 (x23 + 1))) else (none))) else (none)) else (none))) else (none))) else (none))) else (none)) else (none)) else (none)) else (none)) else (none))) else (none)) else (if 0 < (x7.length : Int) then (if 0 ≤ (rd x7 0) then (if (rd x7 0) < (x0.length : Int) then (if x9.length < 5864062014805 then ((some (([] : List Int) : List Int)).bind fun y205 => (if 0 ≤ (x7.length : Int) then ((some (x7.take 0 : List Int)).bind fun y208 => (if y205.length + y208.length < 17592186044416 then ((some (y205 ++ y208 : List Int)).bind fun y212 => (if 1 ≤ (x7.length : Int) then ((some (x7.drop 1 : List Int)).bind fun y215 => (if y212.length + y215.length < 17592186044416 then (corncriblaw04_some.l1 k x0 x2 (y212 ++ y215) (x9 ++ [(⟨rd x7 0, rdOf ByteArray.empty x0 (rd x7 0)⟩ : S37)]) x22 (wrap64 (x23 + 1))) else (none))) else (none))) else (none))) else (none))) else (none)) else (none)) else (none)) else (none))) else (some x9)
end
def corncriblaw04_some.f (k : Nat) (l0 : List ByteArray) (a1 : Int) (l2 : List Int) : Option ((List (S37))) := corncriblaw04_some.l0 k l0 a1 l2 ([] : List Int) (l0.length : Int) 0
theorem corncriblaw04_some.mono_l : ∀ k, (∀ y0 y1 y2 y3 y4 y5, LeO (corncriblaw04_some.l0 k y0 y1 y2 y3 y4 y5) (corncriblaw04_some.l0 (k + 1) y0 y1 y2 y3 y4 y5)) ∧ (∀ y0 y1 y2 y3 y4 y5, LeO (corncriblaw04_some.l1 k y0 y1 y2 y3 y4 y5) (corncriblaw04_some.l1 (k + 1) y0 y1 y2 y3 y4 y5))
 | 0 => ⟨fun _ _ _ _ _ _ r h => by simp [corncriblaw04_some.l0] at h, fun _ _ _ _ _ _ r h => by simp [corncriblaw04_some.l1] at h⟩
 | k + 1 => by
  obtain ⟨ih0, ih1⟩ := corncriblaw04_some.mono_l k
  refine ⟨?_, ?_⟩
  ·intro y0 y1 y2 y3 y4 y5
   unfold corncriblaw04_some.l0
   repeat' first
   | (with_reducible exact ih0 _ _ _ _ _ _)
   | (with_reducible exact ih1 _ _ _ _ _ _)
   | (with_reducible exact LeO.refl _)
   | (with_reducible exact LeO.none _)
   | (with_reducible refine LeO.ite ?_ ?_)
   | (with_reducible refine LeO.bind ?_ (fun _ => ?_))
   | exact ih0 _ _ _ _ _ _
   | exact ih1 _ _ _ _ _ _
   | exact LeO.none _
   | refine LeO.ite ?_ ?_
   | refine LeO.bind ?_ (fun _ => ?_)
  ·intro y0 y1 y2 y3 y4 y5
   unfold corncriblaw04_some.l1
   repeat' first
   | (with_reducible exact ih0 _ _ _ _ _ _)
   | (with_reducible exact ih1 _ _ _ _ _ _)
   | (with_reducible exact LeO.refl _)
   | (with_reducible exact LeO.none _)
   | (with_reducible refine LeO.ite ?_ ?_)
   | (with_reducible refine LeO.bind ?_ (fun _ => ?_))
   | exact ih0 _ _ _ _ _ _
   | exact ih1 _ _ _ _ _ _
   | exact LeO.none _
   | refine LeO.ite ?_ ?_
   | refine LeO.bind ?_ (fun _ => ?_)
theorem corncriblaw04_some.mono : ∀ a0 a1 a2 k, LeO (corncriblaw04_some.f k a0 a1 a2) (corncriblaw04_some.f (k + 1) a0 a1 a2) := by
 intro a0 a1 a2 k
 obtain ⟨ih0, ih1⟩ := corncriblaw04_some.mono_l k
 unfold corncriblaw04_some.f
 repeat' first
   | (with_reducible exact ih0 _ _ _ _ _ _)
   | (with_reducible exact ih1 _ _ _ _ _ _)
   | (with_reducible exact LeO.refl _)
   | (with_reducible exact LeO.none _)
   | (with_reducible refine LeO.ite ?_ ?_)
   | (with_reducible refine LeO.bind ?_ (fun _ => ?_))
   | exact ih0 _ _ _ _ _ _
   | exact ih1 _ _ _ _ _ _
   | exact LeO.none _
   | refine LeO.ite ?_ ?_
   | refine LeO.bind ?_ (fun _ => ?_)
def corncriblaw04_some.T14 : Bool × List (List Nat × List Nat) := (true, [([], []), ([], []), ([], []), ([1, 2], [1, 2]), ([3], [3]), ([], []), ([], []), ([], []), ([6, 7], [6, 7]), ([8], [8]), ([5, 9], [5, 9]), ([10], [10]), ([4, 11], [4, 11]), ([12], [12]), ([0, 13], [0, 13]), ([14, 14, 0, 1, 2, 3, 4, 5, 6, 7, 8, 9, 10, 11, 12, 13, 14], [0, 14])])
def corncriblaw04_some.B14 : List Nat := [0, 0, 0, 6, 14, 0, 0, 0, 192, 448, 992, 2016, 4094, 8190, 16383, 32767]
theorem corncriblaw04_some.tab14 : rtab .any (opsOf Tryd.f12 14) = corncriblaw04_some.T14 := by kernel_rfl
theorem corncriblaw04_some.bits14 : waitsOk corncriblaw04_some.T14.2 corncriblaw04_some.B14 = true := by kernel_rfl
def corncriblaw04_some.T15 : Bool × List (List Nat × List Nat) := (true, [([], []), ([], []), ([], []), ([1, 2], [1, 2]), ([0, 3], [0, 3]), ([], []), ([], []), ([6], [6]), ([5, 7], [5, 7]), ([4, 8, 4], [4, 8]), ([9, 9, 0, 1, 2, 3, 4, 5, 6, 7, 8, 9], [1, 5, 9])])
def corncriblaw04_some.B15 : List Nat := [0, 0, 0, 6, 15, 0, 0, 64, 224, 511, 1023]
theorem corncriblaw04_some.tab15 : rtab .any (opsOf Tryd.f12 15) = corncriblaw04_some.T15 := by kernel_rfl
theorem corncriblaw04_some.bits15 : waitsOk corncriblaw04_some.T15.2 corncriblaw04_some.B15 = true := by kernel_rfl
set_option maxHeartbeats 8000000 in
set_option maxRecDepth 100000 in
theorem corncriblaw04_some.calls (k : Nat) (A0 : Option Addr) (c0 : Nat) (l0 : List ByteArray) (a1 : Int) (A2 : Option Addr) (c2 : Nat) (l2 : List Int) (r : List (S37)) (w : World) (hr0 : Kd.C Kd.string w A0 l0.length l0) (hc0 : l0.length ≤ c0) (hr2 : Kd.C (Kd.int .i64) w A2 l2.length l2) (hc2 : l2.length ≤ c2) (h : corncriblaw04_some.f k l0 a1 l2 = some r) :
  Calls Tryd.prog 12 #[.slice A0 l0.length c0, .int .i64 a1, .slice A2 l2.length c2] w fun e w' => ∃ v0_ : Value, e = .returned (v0_) ∧ Kd.R k37 37 w' w.heap.size (fun _ => True) v0_ r ∧ Below w.heap.size w w' := by
 have hw1_ : wrap64 1 = 1 := by unfold wrap64; omega
 have hu37 := Tryd.underlying37
 have HR0 := Aside0.mk hr0
 have HC0 := Aside0.mk hc0
 clear hr0 hc0
 have HR2 := Aside0.mk hr2
 have HC2 := Aside0.mk hc2
 clear hr2 hc2
 have HB := Aside0.mk (Below.refl w.heap.size w)
 have H : (corncriblaw04_some.l0 k l0 a1 l2 ([] : List Int) (l0.length : Int) 0) = some r := h
 clear h
 have H' := Aside0.mk H
 clear H
 go_enter Tryd.func12, Tryd.ntmps12
 go_wp2
 go_loopg [7, 14] k (fun kq v7 v14 w' => ∃ (x7_1 : List Int) (x14_1 : Int), v14 = .int .i64 x14_1 ∧ Aside0 (corncriblaw04_some.l0 kq l0 a1 l2 x7_1 (l0.length : Int) x14_1 = some r) ∧ Aside0 (kq ≤ k) ∧ Aside0 (Kd.R (Kd.int .i64) 3 w' w.heap.size (fun _ => True) v7 x7_1) ∧ Aside0 (Below w.heap.size w w'))
 case atStart => exact ⟨(([] : List Int)), (0), (by first | rfl | (simp; done) | (simp [*]; done)), H', ⟨Nat.le_refl _⟩, ⟨by first | exact Kd.R_nil _ _ _ _ _ | exact Kd.N_nil _ _ _ _ _ | exact Kd.V_nil _ _ _ _ _ | exact Kd.Q_nil _ _ _ _ _ | exact Kd.S_nil _ _ _ _ _⟩, ⟨by repeat (first | (with_reducible first | exact HB.out | apply below_alloc | apply pw_below_drewN | apply below_drew1) | exact HB.out)⟩⟩
 case round =>
  clear H'
  try clear c1
  try clear c2
  try clear p2
  obtain ⟨x7_1, x14_1, rfl, HA, HK1, HO_7, HB⟩ := hrel
  cases gk with
  | zero => exact absurd HA.out (by simp [corncriblaw04_some.l0])
  | succ k1 =>
   have H := HA.out
   clear HA
   simp only [corncriblaw04_some.l0] at H
   by_cases c4 : x14_1 < (l0.length : Int)
   ·rw [if_pos c4] at H
    have c4b0 : decide (x14_1 < (l0.length : Int)) = true := decide_eq_true c4
    clear c4
    by_cases c5 : x7_1.length < 17592186044416
    ·rw [if_pos c5] at H
     have LMc5 := Aside0.mk c5
     clear c5
     obtain ⟨y171, hy171⟩ : ∃ y_ : List Int, y_ = (x7_1 ++ [x14_1]) := ⟨_, rfl⟩
     replace H : (corncriblaw04_some.l0 k1 l0 a1 l2 y171 (l0.length : Int) (wrap64 (x14_1 + 1))) = some r := by first | (rw [hy171]; with_reducible exact H) | (have H2_ := (Option.bind_some _ _).symm.trans H; rw [hy171]; with_reducible exact H2_) | (have H2_ := (Option.bind_some _ _).symm.trans H; with_reducible exact H2_) | with_reducible exact H | (rw [hy171]; exact H) | exact H
     have Ny171 := Aside0.mk hy171
     clear hy171
     have H' := Aside0.mk H
     clear H
     go_wp2_with (first | ((with_reducible refine gate_builtin (b := .append) (xs := #[.tmp 17, .tmp 19]) rfl ?_); at_builtin; refine Kd.R_append (Kd.int .i64) (w0 := w) w.heap.size rfl (.tmp 17) (.tmp 19) 32 3 (.int .i64 0) 8 rfl Tryd.underlying32 info3 rfl (by decide) (by omega) u7 x7_1 x14_1 [.int .i64 x14_1] (fun _ => True) (fun _ => False) rfl rfl ?aP (fun _ hk => hk.elim) ?aF ?aO ?aB ?aS ?aL ?_; (case aP => exact rfl); (case aB => exact (by repeat (first | (with_reducible first | exact HB.out | apply below_alloc | apply pw_below_drewN | apply below_drew1) | exact HB.out))); (case aF => exact (fun _ _ => trivial)); (case aO => exact (by (with_reducible repeat (first | apply Kd.R_alloc | apply Kd.R_drewN | apply Kd.R_drew)); exact HO_7.out)); (case aS => exact (below_size (by repeat (first | (with_reducible first | exact HB.out | apply below_alloc | apply pw_below_drewN | apply below_drew1) | exact HB.out)))); (case aL => have := LMc5.out; omega); intro v172 w6 ho hb hg hat; rw [← Ny171.out] at ho; have n0_ := Aside0.mk (hb); have n1_ := Aside0.mk (ho); clear HB; clear HO_7; have HB := n0_; have HO173 := n1_; clear n0_ n1_; clear ho hb hg hat))
     go_roundg k1
     case measure => have := HK1.out; omega
     case rel => exact ⟨(y171), (wrap64 (x14_1 + 1)), (by first | rfl | (simp; done) | (simp [*]; done)), H', ⟨by have := HK1.out; omega⟩, ⟨by (with_reducible repeat (first | apply Kd.R_alloc | apply Kd.R_drewN | apply Kd.R_drew)); exact HO173.out⟩, ⟨by repeat (first | (with_reducible first | exact HB.out | apply below_alloc | apply pw_below_drewN | apply below_drew1) | exact HB.out)⟩⟩
    ·rw [if_neg c5] at H
     exact absurd H (by simp)
   ·rw [if_neg c4] at H
    have c4b0 : decide (x14_1 < (l0.length : Int)) = false := decide_eq_false c4
    clear c4
    have H' := Aside0.mk H
    clear H
    go_wp2
    go_loopg [7, 9, 23] k1 (fun kq v7 v9 v23 w' => ∃ (x7_2 : List Int) (x9_2 : List (S37)) (x23_2 : Int), v23 = .int .i64 x23_2 ∧ Aside0 (corncriblaw04_some.l1 kq l0 l2 x7_2 x9_2 a1 x23_2 = some r) ∧ Aside0 (kq ≤ k1) ∧ Aside0 (Kd.R (Kd.int .i64) 3 w' w.heap.size (fun _ => True) v7 x7_2) ∧ Aside0 (Kd.R k37 37 w' w.heap.size (fun _ => True) v9 x9_2) ∧ Aside0 (Below w.heap.size w w'))
    case atStart => exact ⟨(x7_1), (([] : List (S37))), (0), (by first | rfl | (simp; done) | (simp [*]; done)), H', ⟨Nat.le_refl _⟩, ⟨by (with_reducible repeat (first | apply Kd.R_alloc | apply Kd.R_drewN | apply Kd.R_drew)); exact HO_7.out⟩, ⟨by first | exact Kd.R_nil _ _ _ _ _ | exact Kd.N_nil _ _ _ _ _ | exact Kd.V_nil _ _ _ _ _ | exact Kd.Q_nil _ _ _ _ _ | exact Kd.S_nil _ _ _ _ _⟩, ⟨by repeat (first | (with_reducible first | exact HB.out | apply below_alloc | apply pw_below_drewN | apply below_drew1) | exact HB.out)⟩⟩
    case round =>
     clear H'
     try clear c1
     try clear c2
     try clear p2
     try clear c4
     try clear c4b0
     try clear c5
     try clear p6
     try clear p2
     obtain ⟨x7_2, x9_2, x23_2, rfl, HA, HK2, HO_7, HO_9, HB⟩ := hrel
     cases gk with
     | zero => exact absurd HA.out (by simp [corncriblaw04_some.l1])
     | succ k2 =>
      have H := HA.out
      clear HA
      simp only [corncriblaw04_some.l1] at H
      by_cases c7 : x23_2 < a1
      ·rw [if_pos c7] at H
       have c7b0 : decide (x23_2 < a1) = true := decide_eq_true c7
       clear c7
       by_cases c8 : x23_2 < (l2.length : Int)
       ·rw [if_pos c8] at H
        have c8b0 : decide (x23_2 < (l2.length : Int)) = true := decide_eq_true c8
        clear c8
        by_cases c9 : 0 ≤ x23_2
        ·rw [if_pos c9] at H
         have c9b0 : decide (0 ≤ x23_2) = true := decide_eq_true c9
         clear c9
         replace H := Option.bind_eq_some_iff.mp H
         obtain ⟨t175, A100, H⟩ := H
         replace H : (if 0 ≤ t175 then (if t175 < (x7_2.length : Int) then (if 0 ≤ (rd x7_2 t175) then (if (rd x7_2 t175) < (l0.length : Int) then (if x9_2.length < 5864062014805 then ((some (([] : List Int) : List Int)).bind fun y182 => (if t175 ≤ (x7_2.length : Int) then ((some (x7_2.take (t175 : Int).toNat : List Int)).bind fun y185 => (if y182.length + y185.length < 17592186044416 then ((some (y182 ++ y185 : List Int)).bind fun y189 => (if 0 ≤ (wrap64 (t175 + 1)) then (if (wrap64 (t175 + 1)) ≤ (x7_2.length : Int) then ((some (x7_2.drop ((wrap64 (t175 + 1)) : Int).toNat : List Int)).bind fun y192 => (if y189.length + y192.length < 17592186044416 then (corncriblaw04_some.l1 k2 l0 l2 (y189 ++ y192) (x9_2 ++ [(⟨rd x7_2 t175, rdOf ByteArray.empty l0 (rd x7_2 t175)⟩ : S37)]) a1 (wrap64 (x23_2 + 1))) else (none))) else (none)) else (none))) else (none))) else (none))) else (none)) else (none)) else (none)) else (none)) else (none)) = some r := H
         have A10 := Aside0.mk A100
         clear A100
         by_cases c11 : 0 ≤ t175
         ·rw [if_pos c11] at H
          have c11b0 : decide (0 ≤ t175) = true := decide_eq_true c11
          clear c11
          by_cases c12 : t175 < (x7_2.length : Int)
          ·rw [if_pos c12] at H
           have c12b0 : decide (t175 < (x7_2.length : Int)) = true := decide_eq_true c12
           clear c12
           by_cases c13 : 0 ≤ (rd x7_2 t175)
           ·rw [if_pos c13] at H
            have c13b0 : decide (0 ≤ (rd x7_2 t175)) = true := decide_eq_true c13
            clear c13
            by_cases c14 : (rd x7_2 t175) < (l0.length : Int)
            ·rw [if_pos c14] at H
             have c14b0 : decide ((rd x7_2 t175) < (l0.length : Int)) = true := decide_eq_true c14
             clear c14
             by_cases c15 : x9_2.length < 5864062014805
             ·rw [if_pos c15] at H
              have LMc15 := Aside0.mk c15
              clear c15
              obtain ⟨y179, hy179⟩ : ∃ y_ : List (S37), y_ = (x9_2 ++ [(⟨rd x7_2 t175, rdOf ByteArray.empty l0 (rd x7_2 t175)⟩ : S37)]) := ⟨_, rfl⟩
              replace H : ((some (([] : List Int) : List Int)).bind fun y182 => (if t175 ≤ (x7_2.length : Int) then ((some (x7_2.take (t175 : Int).toNat : List Int)).bind fun y185 => (if y182.length + y185.length < 17592186044416 then ((some (y182 ++ y185 : List Int)).bind fun y189 => (if 0 ≤ (wrap64 (t175 + 1)) then (if (wrap64 (t175 + 1)) ≤ (x7_2.length : Int) then ((some (x7_2.drop ((wrap64 (t175 + 1)) : Int).toNat : List Int)).bind fun y192 => (if y189.length + y192.length < 17592186044416 then (corncriblaw04_some.l1 k2 l0 l2 (y189 ++ y192) y179 a1 (wrap64 (x23_2 + 1))) else (none))) else (none)) else (none))) else (none))) else (none))) = some r := by first | (rw [hy179]; with_reducible exact H) | (have H2_ := (Option.bind_some _ _).symm.trans H; rw [hy179]; with_reducible exact H2_) | (have H2_ := (Option.bind_some _ _).symm.trans H; with_reducible exact H2_) | with_reducible exact H | (rw [hy179]; exact H) | exact H
              have Ny179 := Aside0.mk hy179
              clear hy179
              obtain ⟨y182, hy182⟩ : ∃ y_ : List Int, y_ = (([] : List Int)) := ⟨_, rfl⟩
              replace H : (if t175 ≤ (x7_2.length : Int) then ((some (x7_2.take (t175 : Int).toNat : List Int)).bind fun y185 => (if y182.length + y185.length < 17592186044416 then ((some (y182 ++ y185 : List Int)).bind fun y189 => (if 0 ≤ (wrap64 (t175 + 1)) then (if (wrap64 (t175 + 1)) ≤ (x7_2.length : Int) then ((some (x7_2.drop ((wrap64 (t175 + 1)) : Int).toNat : List Int)).bind fun y192 => (if y189.length + y192.length < 17592186044416 then (corncriblaw04_some.l1 k2 l0 l2 (y189 ++ y192) y179 a1 (wrap64 (x23_2 + 1))) else (none))) else (none)) else (none))) else (none))) else (none)) = some r := by first | (rw [hy182]; with_reducible exact H) | (have H2_ := (Option.bind_some _ _).symm.trans H; rw [hy182]; with_reducible exact H2_) | (have H2_ := (Option.bind_some _ _).symm.trans H; with_reducible exact H2_) | with_reducible exact H | (rw [hy182]; exact H) | exact H
              have Ny182 := Aside0.mk hy182
              clear hy182
              have c16b0 := eq_true (of_decide_eq_true (by first | (with_reducible assumption) | assumption) : 0 ≤ t175)
              by_cases c17 : t175 ≤ (x7_2.length : Int)
              ·rw [if_pos c17] at H
               have c17b0 := eq_true c17
               have c17b1 : decide (t175 ≤ (x7_2.length : Int)) = true := decide_eq_true c17
               clear c17
               obtain ⟨y185, hy185⟩ : ∃ y_ : List Int, y_ = (x7_2.take (t175 : Int).toNat) := ⟨_, rfl⟩
               replace H : (if y182.length + y185.length < 17592186044416 then ((some (y182 ++ y185 : List Int)).bind fun y189 => (if 0 ≤ (wrap64 (t175 + 1)) then (if (wrap64 (t175 + 1)) ≤ (x7_2.length : Int) then ((some (x7_2.drop ((wrap64 (t175 + 1)) : Int).toNat : List Int)).bind fun y192 => (if y189.length + y192.length < 17592186044416 then (corncriblaw04_some.l1 k2 l0 l2 (y189 ++ y192) y179 a1 (wrap64 (x23_2 + 1))) else (none))) else (none)) else (none))) else (none)) = some r := by first | (rw [hy185]; with_reducible exact H) | (have H2_ := (Option.bind_some _ _).symm.trans H; rw [hy185]; with_reducible exact H2_) | (have H2_ := (Option.bind_some _ _).symm.trans H; with_reducible exact H2_) | with_reducible exact H | (rw [hy185]; exact H) | exact H
               have Ny185 := Aside0.mk hy185
               clear hy185
               by_cases c18 : y182.length + y185.length < 17592186044416
               ·rw [if_pos c18] at H
                have LMc18 := Aside0.mk c18
                clear c18
                obtain ⟨y189, hy189⟩ : ∃ y_ : List Int, y_ = (y182 ++ y185) := ⟨_, rfl⟩
                replace H : (if 0 ≤ (wrap64 (t175 + 1)) then (if (wrap64 (t175 + 1)) ≤ (x7_2.length : Int) then ((some (x7_2.drop ((wrap64 (t175 + 1)) : Int).toNat : List Int)).bind fun y192 => (if y189.length + y192.length < 17592186044416 then (corncriblaw04_some.l1 k2 l0 l2 (y189 ++ y192) y179 a1 (wrap64 (x23_2 + 1))) else (none))) else (none)) else (none)) = some r := by first | (rw [hy189]; with_reducible exact H) | (have H2_ := (Option.bind_some _ _).symm.trans H; rw [hy189]; with_reducible exact H2_) | (have H2_ := (Option.bind_some _ _).symm.trans H; with_reducible exact H2_) | with_reducible exact H | (rw [hy189]; exact H) | exact H
                have Ny189 := Aside0.mk hy189
                clear hy189
                obtain ⟨ji19, hji19⟩ : ∃ j_ : Int, (wrap64 (t175 + 1)) = j_ := ⟨_, rfl⟩
                replace H : (if 0 ≤ (ji19) then (if (ji19) ≤ (x7_2.length : Int) then ((some (x7_2.drop ((ji19) : Int).toNat : List Int)).bind fun y192 => (if y189.length + y192.length < 17592186044416 then (corncriblaw04_some.l1 k2 l0 l2 (y189 ++ y192) y179 a1 (wrap64 (x23_2 + 1))) else (none))) else (none)) else (none)) = some r := by first | (rw [hji19] at H; exact H) | (simp only [hji19] at H ⊢; exact H)
                (try rw [hji19] at A10)
                have hji19w : (IntKind.i64.wrap (t175 + 1)) = ji19 := (i64_w _).trans hji19
                by_cases c20 : 0 ≤ (ji19)
                ·rw [if_pos c20] at H
                 have c20b0 := eq_true c20
                 have c20b1 : decide (0 ≤ (ji19)) = true := decide_eq_true c20
                 clear c20
                 by_cases c21 : (ji19) ≤ (x7_2.length : Int)
                 ·rw [if_pos c21] at H
                  have c21b0 := eq_true c21
                  have c21b1 : decide ((ji19) ≤ (x7_2.length : Int)) = true := decide_eq_true c21
                  clear c21
                  obtain ⟨y192, hy192⟩ : ∃ y_ : List Int, y_ = (x7_2.drop ((ji19) : Int).toNat) := ⟨_, rfl⟩
                  replace H : (if y189.length + y192.length < 17592186044416 then (corncriblaw04_some.l1 k2 l0 l2 (y189 ++ y192) y179 a1 (wrap64 (x23_2 + 1))) else (none)) = some r := by first | (rw [hy192]; with_reducible exact H) | (have H2_ := (Option.bind_some _ _).symm.trans H; rw [hy192]; with_reducible exact H2_) | (have H2_ := (Option.bind_some _ _).symm.trans H; with_reducible exact H2_) | with_reducible exact H | (rw [hy192]; exact H) | exact H
                  have Ny192 := Aside0.mk hy192
                  clear hy192
                  by_cases c22 : y189.length + y192.length < 17592186044416
                  ·rw [if_pos c22] at H
                   have LMc22 := Aside0.mk c22
                   clear c22
                   obtain ⟨y196, hy196⟩ : ∃ y_ : List Int, y_ = (y189 ++ y192) := ⟨_, rfl⟩
                   replace H : (corncriblaw04_some.l1 k2 l0 l2 y196 y179 a1 (wrap64 (x23_2 + 1))) = some r := by first | (rw [hy196]; with_reducible exact H) | (have H2_ := (Option.bind_some _ _).symm.trans H; rw [hy196]; with_reducible exact H2_) | (have H2_ := (Option.bind_some _ _).symm.trans H; with_reducible exact H2_) | with_reducible exact H | (rw [hy196]; exact H) | exact H
                   have Ny196 := Aside0.mk hy196
                   clear hy196
                   have H' := Aside0.mk H
                   clear H
                   have p174 : 0 ≤ (x23_2 : Int) := of_decide_eq_true (by first | (with_reducible assumption) | assumption)
                   have q174 : x23_2 < (l2.length : Int) := of_decide_eq_true (by first | (with_reducible assumption) | assumption)
                   obtain ⟨ad174, e174, hx174_0⟩ := Kd.at_int HR2.out x23_2 p174 q174
                   cases e174
                   replace hx174_0 := (HB.out.cell (World.block_lt_of_cell? w _ hx174_0)).trans hx174_0
                   replace p174 := eq_true p174
                   replace q174 := eq_true q174
                   obtain ⟨Ao23, co23, eo23⟩ := Kd.R_slice HO_7.out
                   subst eo23
                   try go_wp2_with (first | ((with_reducible refine gate_callee (f := 10) rfl ?_); refine goesL_ (some 36) rfl rfl Tryd.func10 (by kernel_rfl) rfl #[.int .i64 (rd l2 x23_2), .int .i64 (x7_2.length : Int)] rfl (by (try simp only [List.map_toArray, List.map_cons, List.map_nil]); first | done | rfl | (simp only [List.length_drop, List.length_take]; rfl)) ?_; (with_reducible refine (corncribbook_Among.calls (rd l2 x23_2) (x7_2.length : Int) t175 _ A10.out).mono ?_); rintro e w' ⟨rfl, ⟨nd, rfl⟩⟩; refine ⟨_, rfl, ?_⟩))
                   (try (rw [drewN_self wr]; generalize hq_ : World.drewN wr _ = wr; have n0_ : Aside0 (Kd.R (Kd.int .i64) 3 wr w.heap.size (fun _ => True) (.slice Ao23 x7_2.length co23) x7_2) := ⟨by rw [← hq_]; exact (by (with_reducible repeat (first | apply Kd.R_alloc | apply Kd.R_drewN | apply Kd.R_drew)); exact HO_7.out)⟩; have n1_ : Aside0 (Kd.R k37 37 wr w.heap.size (fun _ => True) u9 x9_2) := ⟨by rw [← hq_]; exact (by (with_reducible repeat (first | apply Kd.R_alloc | apply Kd.R_drewN | apply Kd.R_drew)); exact HO_9.out)⟩; have n2_ : Aside0 (Below w.heap.size w wr) := ⟨by rw [← hq_]; exact (by repeat (first | (with_reducible first | exact HB.out | apply below_alloc | apply pw_below_drewN | apply below_drew1) | exact HB.out))⟩; clear HO_7 HO_9 HB hq_; have HO_7 := n0_; have HO_9 := n1_; have HB := n2_; clear n0_ n1_ n2_))
                   have n0_ := Aside0.mk (Kd.R_drew HO_7.out)
                   have n1_ := Aside0.mk (Kd.R_drew HO_9.out)
                   have n2_ := Aside0.mk (below_drew1 HB.out)
                   clear HO_7
                   clear HO_9
                   clear HB
                   have HO_7 := n0_
                   have HO_9 := n1_
                   have HB := n2_
                   clear n0_ n1_ n2_
                   have p176 : 0 ≤ (t175 : Int) := of_decide_eq_true (by first | (with_reducible assumption) | assumption)
                   have q176 : t175 < (x7_2.length : Int) := of_decide_eq_true (by first | (with_reducible assumption) | assumption)
                   obtain ⟨ad176, e176, hx176_0⟩ := Kd.at_int (Kd.R_reads' HO_7.out).2.2 t175 p176 q176
                   cases e176
                   replace p176 := eq_true p176
                   replace q176 := eq_true q176
                   have p177 : 0 ≤ (t175 : Int) := of_decide_eq_true (by first | (with_reducible assumption) | assumption)
                   have q177 : t175 < (x7_2.length : Int) := of_decide_eq_true (by first | (with_reducible assumption) | assumption)
                   obtain ⟨ad177, e177, hx177_0⟩ := Kd.at_int (Kd.R_reads' HO_7.out).2.2 t175 p177 q177
                   obtain rfl : ad176 = ad177 := (by injection e177)
                   replace p177 := eq_true p177
                   replace q177 := eq_true q177
                   have p178 : 0 ≤ ((rd x7_2 t175) : Int) := of_decide_eq_true (by first | (with_reducible assumption) | assumption)
                   have q178 : (rd x7_2 t175) < (l0.length : Int) := of_decide_eq_true (by first | (with_reducible assumption) | assumption)
                   obtain ⟨ad178, e178, hx178_0⟩ := Kd.at_string HR0.out (rd x7_2 t175) p178 q178
                   have hw178_0 := hx178_0
                   cases e178
                   replace hx178_0 := (HB.out.cell (World.block_lt_of_cell? w _ hx178_0)).trans hx178_0
                   replace p178 := eq_true p178
                   replace q178 := eq_true q178
                   refine start_ (n := 16) (S := fun w' => w'.cell? (ad176.add (t175).toNat) = some (.int .i64 (rd x7_2 t175)) ∧ w'.cell? (ad176.add (t175).toNat) = some (.int .i64 (rd x7_2 t175)) ∧ w'.cell? (ad178.add ((rd x7_2 t175)).toNat) = some (.string (rdOf ByteArray.empty l0 (rd x7_2 t175)))) (ds := [13, 14]) #[false, false, false, false, false, false, false, false, false, false, false, false, false, false, false, false] (by kernel_rfl) rfl rfl ⟨hx176_0, hx177_0, ((HB.out.cell (World.block_lt_of_cell? w _ hw178_0)).trans hw178_0)⟩ (fun hHeld => ?_); refine with_tabW corncriblaw04_some.tab14 corncriblaw04_some.bits14 (fun HT_ HW_ => ?_)
                   generalize wr.drew = w24 at HO_7 HO_9 HB hx176_0 hx177_0 hx178_0 hHeld ⊢
                   refine pure_ (i := 0) (N := some 37) (v := ?_) (a' := ?_) #[true, false, false, false, false, false, false, false, false, false, false, false, false, false, false, false] rfl rfl (any_of HT_.out (by kernel_rfl)) (fun _ _ _ h => h) (Or.inl ⟨by rfl, ?_⟩) ?_ ?_
                   rotate_left
                   ·intro w'
                    go_simp
                    with_reducible rfl
                   rotate_left
                   ·simp only [Act.put, List.setIfInBounds_toArray, List.set_cons_zero, List.set_cons_succ, i64_w, i32_w]
                    rfl
                   refine pure_ (i := 1) (N := some 38) (v := ?_) (a' := ?_) #[true, true, false, false, false, false, false, false, false, false, false, false, false, false, false, false] rfl rfl (any_of HT_.out (by kernel_rfl)) (fun _ _ _ h => h) (Or.inl ⟨by rfl, ?_⟩) ?_ ?_
                   rotate_left
                   ·intro w'
                    go_simp
                    with_reducible rfl
                   rotate_left
                   ·simp only [Act.put, List.setIfInBounds_toArray, List.set_cons_zero, List.set_cons_succ, i64_w, i32_w]
                    rfl
                   refine pure_ (i := 2) (N := some 39) (v := ?_) (a' := ?_) #[true, true, true, false, false, false, false, false, false, false, false, false, false, false, false, false] rfl rfl (any_of HT_.out (by kernel_rfl)) (fun _ _ _ h => h) (Or.inl ⟨by rfl, ?_⟩) ?_ ?_
                   rotate_left
                   ·intro w'
                    go_simp
                    with_reducible rfl
                   rotate_left
                   ·simp only [Act.put, List.setIfInBounds_toArray, List.set_cons_zero, List.set_cons_succ, i64_w, i32_w]
                    rfl
                   refine pure_ (i := 3) (N := some 40) (v := ?_) (a' := ?_) #[true, true, true, true, false, false, false, false, false, false, false, false, false, false, false, false] rfl rfl (any_of HT_.out (by kernel_rfl)) (fun _ _ _ h => h) (Or.inl ⟨by rfl, ?_⟩) ?_ ?_
                   rotate_left
                   ·intro w'
                    go_simp
                    with_reducible rfl
                   rotate_left
                   ·simp only [Act.put, List.setIfInBounds_toArray, List.set_cons_zero, List.set_cons_succ, i64_w, i32_w]
                    rfl
                   refine pure_ (i := 5) (N := some 42) (v := ?_) (a' := ?_) #[true, true, true, true, false, true, false, false, false, false, false, false, false, false, false, false] rfl rfl (any_of HT_.out (by kernel_rfl)) (fun _ _ _ h => h) (Or.inl ⟨by rfl, ?_⟩) ?_ ?_
                   rotate_left
                   ·intro w'
                    go_simp
                    with_reducible rfl
                   rotate_left
                   ·simp only [Act.put, List.setIfInBounds_toArray, List.set_cons_zero, List.set_cons_succ, i64_w, i32_w]
                    rfl
                   refine pure_ (i := 6) (N := some 43) (v := ?_) (a' := ?_) #[true, true, true, true, false, true, true, false, false, false, false, false, false, false, false, false] rfl rfl (any_of HT_.out (by kernel_rfl)) (fun _ _ _ h => h) (Or.inl ⟨by rfl, ?_⟩) ?_ ?_
                   rotate_left
                   ·intro w'
                    go_simp
                    with_reducible rfl
                   rotate_left
                   ·simp only [Act.put, List.setIfInBounds_toArray, List.set_cons_zero, List.set_cons_succ, i64_w, i32_w]
                    rfl
                   refine pure_ (i := 7) (N := some 44) (v := ?_) (a' := ?_) #[true, true, true, true, false, true, true, true, false, false, false, false, false, false, false, false] rfl rfl (any_of HT_.out (by kernel_rfl)) (fun _ _ _ h => h) (Or.inl ⟨by rfl, ?_⟩) ?_ ?_
                   rotate_left
                   ·intro w'
                    go_simp
                    with_reducible rfl
                   rotate_left
                   ·simp only [Act.put, List.setIfInBounds_toArray, List.set_cons_zero, List.set_cons_succ, i64_w, i32_w]
                    rfl
                   refine pure_ (i := 8) (N := some 45) (v := ?_) (a' := ?_) #[true, true, true, true, false, true, true, true, true, false, false, false, false, false, false, false] rfl rfl (any_of HT_.out (by kernel_rfl)) (fun _ _ _ h => h) (Or.inl ⟨by rfl, ?_⟩) ?_ ?_
                   rotate_left
                   ·intro w'
                    go_simp
                    with_reducible rfl
                   rotate_left
                   ·simp only [Act.put, List.setIfInBounds_toArray, List.set_cons_zero, List.set_cons_succ, i64_w, i32_w]
                    rfl
                   refine take_ (i := 4) (N := some 41) (v := ?_) (a' := ?_) #[true, true, true, true, true, true, true, true, true, false, false, false, false, false, false, false] rfl rfl (take_ofW HT_.out HW_.out (by kernel_rfl)) (fun _ _ _ h => h) (Or.inl ⟨by rfl, ?_⟩) hHeld ?_ ?_
                   rotate_left
                   ·rintro w' ⟨s0, s1, s2⟩
                    go_simp
                    with_reducible rfl
                   rotate_left
                   ·simp only [Act.put, List.setIfInBounds_toArray, List.set_cons_zero, List.set_cons_succ, i64_w, i32_w]
                    rfl
                   refine take_ (i := 9) (N := some 46) (v := ?_) (a' := ?_) #[true, true, true, true, true, true, true, true, true, true, false, false, false, false, false, false] rfl rfl (take_ofW HT_.out HW_.out (by kernel_rfl)) (fun _ _ _ h => h) (Or.inl ⟨by rfl, ?_⟩) hHeld ?_ ?_
                   rotate_left
                   ·rintro w' ⟨s0, s1, s2⟩
                    go_simp
                    with_reducible rfl
                   rotate_left
                   ·simp only [Act.put, List.setIfInBounds_toArray, List.set_cons_zero, List.set_cons_succ, i64_w, i32_w]
                    rfl
                   refine pure_ (i := 10) (N := some 47) (v := ?_) (a' := ?_) #[true, true, true, true, true, true, true, true, true, true, true, false, false, false, false, false] rfl rfl (any_of HT_.out (by kernel_rfl)) (fun _ _ _ h => h) (Or.inl ⟨by rfl, ?_⟩) ?_ ?_
                   rotate_left
                   ·intro w'
                    go_simp
                    with_reducible rfl
                   rotate_left
                   ·simp only [Act.put, List.setIfInBounds_toArray, List.set_cons_zero, List.set_cons_succ, i64_w, i32_w]
                    rfl
                   refine take_ (i := 11) (N := some 48) (v := ?_) (a' := ?_) #[true, true, true, true, true, true, true, true, true, true, true, true, false, false, false, false] rfl rfl (take_ofW HT_.out HW_.out (by kernel_rfl)) (fun _ _ _ h => h) (Or.inl ⟨by rfl, ?_⟩) hHeld ?_ ?_
                   rotate_left
                   ·rintro w' ⟨s0, s1, s2⟩
                    go_simp
                    with_reducible rfl
                   rotate_left
                   ·simp only [Act.put, List.setIfInBounds_toArray, List.set_cons_zero, List.set_cons_succ, i64_w, i32_w]
                    rfl
                   refine pure_ (i := 12) (N := some 49) (v := ?_) (a' := ?_) #[true, true, true, true, true, true, true, true, true, true, true, true, true, false, false, false] rfl rfl (any_of HT_.out (by kernel_rfl)) (fun _ _ _ h => h) (Or.inl ⟨by rfl, ?_⟩) ?_ ?_
                   rotate_left
                   ·intro w'
                    go_simp
                    with_reducible rfl
                   rotate_left
                   ·simp only [Act.put, List.setIfInBounds_toArray, List.set_cons_zero, List.set_cons_succ, i64_w, i32_w]
                    rfl
                   refine last_ (i := 13) (N := some 50) #[true, true, true, true, true, true, true, true, true, true, true, true, true, true, false, false] rfl rfl (one_of HT_.out (by kernel_rfl)) (by decide) (fun K hK => ?_)
                   refine value_ (w1 := ?_) (v := ?_) (by rfl) rfl ?_ ?_
                   rotate_left 2
                   ·go_simp
                    constructor
                    ·rfl
                    ·rfl
                   refine hK.out _ _ ?_
                   clear hK K
                   refine norm_ (a' := ?_) ?_ ?_
                   rotate_left
                   ·show Act.put _ (some 50) _ = _
                    simp only [Act.put, List.setIfInBounds_toArray, List.set_cons_zero, List.set_cons_succ, i64_w, i32_w]
                    rfl
                   refine last_ (i := 14) (N := some 51) #[true, true, true, true, true, true, true, true, true, true, true, true, true, true, true, false] rfl rfl (one_of HT_.out (by kernel_rfl)) (by decide) (fun K hK => ?_)
                   refine Kd.R_append_step k37 (w0 := w) w.heap.size (by rfl) (.tmp 37) (.tmp 50) 30 37 (.agg #[(.int .i64 0), (.string ⟨#[]⟩)]) 24 rfl Tryd.underlying30 info37 rfl (by decide) (by omega) u9 x9_2 (⟨rd x7_2 t175, rdOf ByteArray.empty l0 (rd x7_2 t175)⟩ : S37) [.int .i64 (rd x7_2 t175), .string (rdOf ByteArray.empty l0 (rd x7_2 t175))] (fun _ => True) (fun _ => False) rfl rfl ?aP (fun _ hk => hk.elim) ?aF ?aO ?aB ?aS ?aL ?_
                   (case aP => exact k37_mkM _ _ _ (⟨rd x7_2 t175, rdOf ByteArray.empty l0 (rd x7_2 t175)⟩ : S37))
                   (case aB => exact (by repeat (first | (with_reducible first | exact HB.out | apply below_alloc | apply pw_below_drewN | apply below_drew1) | exact HB.out)))
                   (case aF => exact (fun _ _ => trivial))
                   (case aO => exact (by (with_reducible repeat (first | apply Kd.R_alloc | apply Kd.R_drewN | apply Kd.R_drew)); exact HO_9.out))
                   (case aS => exact (below_size (by repeat (first | (with_reducible first | exact HB.out | apply below_alloc | apply pw_below_drewN | apply below_drew1) | exact HB.out))))
                   (case aL => have := LMc15.out; omega)
                   intro v180 w25 ho hb hg hat
                   rw [← Ny179.out] at ho
                   have n0_ := Aside0.mk (Kd.R_over' (by (with_reducible repeat (first | apply Kd.R_alloc | apply Kd.R_drewN | apply Kd.R_drew)); exact HO_7.out) (Kd.R_typed (by (with_reducible repeat (first | apply Kd.R_alloc | apply Kd.R_drewN | apply Kd.R_drew)); exact HO_9.out)) (by decide) hg)
                   have n1_ := Aside0.mk (hb)
                   have n2_ := Aside0.mk (ho)
                   clear HO_7
                   clear HB
                   clear HO_9
                   have HO_7 := n0_
                   have HB := n1_
                   have HO181 := n2_
                   clear n0_ n1_ n2_
                   clear ho hb hg hat
                   refine hK.out _ _ ?_
                   clear hK K
                   refine norm_ (a' := ?_) ?_ ?_
                   rotate_left
                   ·show Act.put _ (some 51) _ = _
                    simp only [Act.put, List.setIfInBounds_toArray, List.set_cons_zero, List.set_cons_succ, i64_w, i32_w]
                    rfl
                   refine pure_ (i := 15) (N := some 9) (v := ?_) (a' := ?_) #[true, true, true, true, true, true, true, true, true, true, true, true, true, true, true, true] rfl rfl (any_of HT_.out (by kernel_rfl)) (fun _ _ _ h => h) (Or.inl ⟨by rfl, ?_⟩) ?_ ?_
                   rotate_left
                   ·intro w'
                    go_simp
                    with_reducible rfl
                   rotate_left
                   ·simp only [Act.put, List.setIfInBounds_toArray, List.set_cons_zero, List.set_cons_succ, i64_w, i32_w]
                    rfl
                   refine done_ (done_of HT_.out (by kernel_rfl)) ?_
                   try go_wp2
                   have n0_ := Aside0.mk (Kd.R_drew HO_7.out)
                   have n1_ := Aside0.mk (Kd.R_drew HO181.out)
                   have n2_ := Aside0.mk (below_drew1 HB.out)
                   clear HO_7
                   clear HO181
                   clear HB
                   have HO_7 := n0_
                   have HO181 := n1_
                   have HB := n2_
                   clear n0_ n1_ n2_
                   have q27 : (t175 : Int) ≤ ((x7_2.length : Int) : Int) := of_decide_eq_true (by first | (with_reducible assumption) | assumption)
                   obtain ⟨i027, hi027, _, hsz27, _⟩ := info_parts info3
                   have hroom27 : x7_2.length ≤ co23 := (Kd.R_reads' HO_7.out).2.1
                   have hC27 : Kd.C (Kd.int .i64) _ (some ad176) x7_2.length x7_2 := (Kd.R_reads' HO_7.out).2.2
                   have hcut27 := cut_to (P := Tryd.prog) 32 3 .i64 Tryd.underlying32 hi027 (some ad176) x7_2.length co23 t175 (of_decide_eq_true (by first | (with_reducible assumption) | assumption)) q27 hroom27
                   have hr27 := Kd.C_take (m := (t175 : Int).toNat) hC27 (by omega)
                   have hy27 : y185.length = (t175 : Int).toNat := (by rw [Ny185.out, List.length_take]; omega)
                   rw [← Ny185.out] at hr27
                   rw [← hy27] at hcut27
                   have HR188 := Aside0.mk hr27
                   have HC188 := Aside0.mk (show y185.length ≤ co23 from by omega)
                   clear hr27 hC27 hroom27 hi027 hsz27
                   have KY27 := Aside0.mk hy27
                   clear hy27
                   have KL27 := Aside0.mk (show (t175 : Int).toNat ≤ x7_2.length from by omega)
                   replace q27 := eq_true q27
                   have q28 : ((ji19) : Int) ≤ ((x7_2.length : Int) : Int) := of_decide_eq_true (by first | (with_reducible assumption) | assumption)
                   obtain ⟨i028, hi028, _, hsz28, _⟩ := info_parts info3
                   have hroom28 : x7_2.length ≤ co23 := (Kd.R_reads' HO_7.out).2.1
                   have hC28 : Kd.C (Kd.int .i64) _ (some ad176) x7_2.length x7_2 := (Kd.R_reads' HO_7.out).2.2
                   have q028 : (0 : Int) ≤ ((ji19) : Int) := of_decide_eq_true (by first | (with_reducible assumption) | assumption)
                   have hcut28 := cut_from (P := Tryd.prog) 32 3 .i64 Tryd.underlying32 hi028 1 hsz28 (some ad176) x7_2.length co23 (ji19) q028 q28
                   have hr28 := Kd.C_drop (m := ((ji19) : Int).toNat) (c := co23) hC28 (by omega) hroom28
                   obtain ⟨A28, hA28⟩ : ∃ A1, A1 = (if co23 = ((ji19) : Int).toNat then (some ad176) else ((some ad176) : Option Addr).map (·.add (((ji19) : Int).toNat * 1))) := ⟨_, rfl⟩
                   obtain ⟨c28, hc28⟩ : ∃ c1, c1 = co23 - ((ji19) : Int).toNat := ⟨_, rfl⟩
                   have hy28 : y192.length = x7_2.length - ((ji19) : Int).toNat := (by rw [Ny192.out, List.length_drop] <;> omega)
                   rw [show (x7_2).drop ((ji19) : Int).toNat = y192 from Ny192.out.symm] at hr28
                   replace hr28 : Kd.C (Kd.int .i64) _ A28 y192.length y192 := (by rw [hA28]; exact hr28)
                   rw [← hy28, ← hA28, ← hc28] at hcut28
                   have HR195 := Aside0.mk hr28
                   have HC195 := Aside0.mk (show y192.length ≤ c28 from by rw [hy28, hc28]; exact Nat.sub_le_sub_right hroom28 _)
                   clear hr28 hC28 hroom28 hi028 hsz28 hc28
                   have KY28 := Aside0.mk hy28
                   have KA28 := Aside0.mk hA28
                   clear hy28 hA28
                   have KL28 := Aside0.mk (show ((ji19) : Int).toNat ≤ x7_2.length from by omega)
                   replace q28 := eq_true q28
                   refine start_ (n := 11) (S := fun w' => True) (ds := []) #[false, false, false, false, false, false, false, false, false, false, false] (by kernel_rfl) rfl rfl trivial (fun hHeld => ?_); refine with_tabW corncriblaw04_some.tab15 corncriblaw04_some.bits15 (fun HT_ HW_ => ?_)
                   generalize w25.drew = w26 at HO_7 HO181 HB HR188 HR195 hHeld ⊢
                   refine pure_ (i := 1) (N := some 53) (v := ?_) (a' := ?_) #[false, true, false, false, false, false, false, false, false, false, false] rfl rfl (any_of HT_.out (by kernel_rfl)) (fun _ _ _ h => h) (Or.inl ⟨by rfl, ?_⟩) ?_ ?_
                   rotate_left
                   ·intro w'
                    go_simp
                    with_reducible rfl
                   rotate_left
                   ·simp only [Act.put, List.setIfInBounds_toArray, List.set_cons_zero, List.set_cons_succ, i64_w, i32_w]
                    rfl
                   refine pure_ (i := 2) (N := some 54) (v := ?_) (a' := ?_) #[false, true, true, false, false, false, false, false, false, false, false] rfl rfl (any_of HT_.out (by kernel_rfl)) (fun _ _ _ h => h) (Or.inl ⟨by rfl, ?_⟩) ?_ ?_
                   rotate_left
                   ·intro w'
                    go_simp
                    with_reducible rfl
                   rotate_left
                   ·simp only [Act.put, List.setIfInBounds_toArray, List.set_cons_zero, List.set_cons_succ, i64_w, i32_w]
                    rfl
                   refine pure_ (i := 3) (N := some 55) (v := ?_) (a' := ?_) #[false, true, true, true, false, false, false, false, false, false, false] rfl rfl (any_of HT_.out (by kernel_rfl)) (fun _ _ _ h => h) (Or.inl ⟨by rfl, ?_⟩) ?_ ?_
                   rotate_left
                   ·intro w'
                    go_simp
                    with_reducible rfl
                   rotate_left
                   ·simp only [Act.put, List.setIfInBounds_toArray, List.set_cons_zero, List.set_cons_succ, i64_w, i32_w]
                    rfl
                   refine pure_ (i := 5) (N := some 57) (v := ?_) (a' := ?_) #[false, true, true, true, false, true, false, false, false, false, false] rfl rfl (any_of HT_.out (by kernel_rfl)) (fun _ _ _ h => h) (Or.inl ⟨by rfl, ?_⟩) ?_ ?_
                   rotate_left
                   ·intro w'
                    go_simp
                    with_reducible rfl
                   rotate_left
                   ·simp only [Act.put, List.setIfInBounds_toArray, List.set_cons_zero, List.set_cons_succ, i64_w, i32_w]
                    rfl
                   refine pure_ (i := 6) (N := some 58) (v := ?_) (a' := ?_) #[false, true, true, true, false, true, true, false, false, false, false] rfl rfl (any_of HT_.out (by kernel_rfl)) (fun _ _ _ h => h) (Or.inl ⟨by rfl, ?_⟩) ?_ ?_
                   rotate_left
                   ·intro w'
                    go_simp
                    with_reducible rfl
                   rotate_left
                   ·simp only [Act.put, List.setIfInBounds_toArray, List.set_cons_zero, List.set_cons_succ, i64_w, i32_w]
                    rfl
                   refine pure_ (i := 7) (N := some 59) (v := ?_) (a' := ?_) #[false, true, true, true, false, true, true, true, false, false, false] rfl rfl (any_of HT_.out (by kernel_rfl)) (fun _ _ _ h => h) (Or.inl ⟨by rfl, ?_⟩) ?_ ?_
                   rotate_left
                   ·intro w'
                    go_simp
                    with_reducible rfl
                   rotate_left
                   ·simp only [Act.put, List.setIfInBounds_toArray, List.set_cons_zero, List.set_cons_succ, i64_w, i32_w]
                    rfl
                   refine pure_ (i := 8) (N := some 60) (v := ?_) (a' := ?_) #[false, true, true, true, false, true, true, true, true, false, false] rfl rfl (any_of HT_.out (by kernel_rfl)) (fun _ _ _ h => h) (Or.inl ⟨by rfl, ?_⟩) ?_ ?_
                   rotate_left
                   ·intro w'
                    go_simp
                    with_reducible rfl
                   rotate_left
                   ·simp only [Act.put, List.setIfInBounds_toArray, List.set_cons_zero, List.set_cons_succ, i64_w, i32_w]
                    rfl
                   refine one_ (i := 0) (N := some 52) #[true, true, true, true, false, true, true, true, true, false, false] rfl rfl (one_of HT_.out (by kernel_rfl)) (by decide) (fun K hK => ?_)
                   refine Kd.R_lit_step (Kd.int .i64) _ 3 ?hg (N := 52) ?hd (xs := ([] : List Int)) (inner := []) (ok := fun _ => True) (okp := fun _ => True) ?hr ?hp (fun _ hk => hk) trivial (Below.refl _ _) (Nat.le_refl _) (by simp) ?_; (case hd => rfl); (case hg => rfl); (case hr => first | (go_simp; done) | (go_simp; rfl)); (case hp => exact (Reps.none _ _))
                   intro v183 w29 ho30 hb hg_ hnew_
                   clear hg_ hnew_
                   (first | rw [← Ny182.out] at ho30 | (simp only [Int.reduceToNat] at ho30; rw [← Ny182.out] at ho30))
                   have n0_ := Aside0.mk (Kd.R_elder' (by (with_reducible repeat (first | apply Kd.R_alloc | apply Kd.R_drewN | apply Kd.R_drew)); exact HO_7.out) (Kd.R_base ho30) hb)
                   have n1_ := Aside0.mk (Kd.R_below (by (with_reducible repeat (first | apply Kd.R_alloc | apply Kd.R_drewN | apply Kd.R_drew)); exact HO181.out) hb)
                   have n2_ := Aside0.mk (Kd.R_lower (Kd.R_new' ho30 (Kd.R_lt (by (with_reducible repeat (first | apply Kd.R_alloc | apply Kd.R_drewN | apply Kd.R_drew)); exact HO_7.out))) (below_size (by repeat (first | (with_reducible first | exact HB.out | apply below_alloc | apply pw_below_drewN | apply below_drew1) | exact HB.out))))
                   have n3_ := Aside0.mk (Kd.C_below (by repeat (first | (with_reducible exact HR188.out) | (with_reducible refine Kd.C_alloc ?_ _) | (with_reducible refine Kd.C_drewN ?_ _) | (with_reducible refine Kd.C_drew ?_) | exact HR188.out)) hb)
                   have n4_ := Aside0.mk (Kd.C_below (by repeat (first | (with_reducible exact HR195.out) | (with_reducible refine Kd.C_alloc ?_ _) | (with_reducible refine Kd.C_drewN ?_ _) | (with_reducible refine Kd.C_drew ?_) | exact HR195.out)) hb)
                   have n5_ := Aside0.mk (below_step (by repeat (first | (with_reducible first | exact HB.out | apply below_alloc | apply pw_below_drewN | apply below_drew1) | exact HB.out)) hb)
                   clear HO_7
                   clear HO181
                   clear HR188
                   clear HR195
                   clear HB
                   have HO_7 := n0_
                   have HO181 := n1_
                   have HO184 := n2_
                   have HR188 := n3_
                   have HR195 := n4_
                   have HB := n5_
                   clear n0_ n1_ n2_ n3_ n4_ n5_
                   clear hb ho30
                   refine hK.out _ _ trivial (fun hHeld => ?_)
                   clear hK K
                   refine norm_ (a' := ?_) ?_ ?_
                   rotate_left
                   ·show Act.put _ (some 52) _ = _
                    simp only [Act.put, List.setIfInBounds_toArray, List.set_cons_zero, List.set_cons_succ, i64_w, i32_w]
                    rfl
                   refine one_ (i := 4) (N := some 56) #[true, true, true, true, true, true, true, true, true, false, false] rfl rfl (one_of HT_.out (by kernel_rfl)) (by decide) (fun K hK => ?_)
                   refine Kd.R_append_rows_step (Kd.int .i64) (w0 := w) w.heap.size (by rfl) (.tmp 52) (.tmp 55) 32 3 (.int .i64 0) 8 rfl Tryd.underlying32 info3 rfl (by decide) (by omega) v183 y182 y185 _ _ _ (fun k_ => some k_ ≠ (.slice (some ad176) x7_2.length co23 : Value).ownBlock) (fun _ => False) rfl rfl ?aO ?aR (fun _ _ h => h) (fun _ h => h.elim) ?aF ?aB ?aS ?aL ?_
                   (case aR => repeat (first | exact (by repeat (first | (with_reducible exact HR188.out) | (with_reducible refine Kd.C_alloc ?_ _) | (with_reducible refine Kd.C_drewN ?_ _) | (with_reducible refine Kd.C_drew ?_) | exact HR188.out)) | (with_reducible refine Kd.C_alloc ?_ _) | (with_reducible refine Kd.C_drewN ?_ _) | (with_reducible refine Kd.C_drew ?_)))
                   (case aB => exact (by repeat (first | (with_reducible first | exact HB.out | apply below_alloc | apply pw_below_drewN | apply below_drew1) | exact HB.out)))
                   (case aF => exact (fun k_ hk => Kd.fresh' (Kd.R_lt (by (with_reducible repeat (first | apply Kd.R_alloc | apply Kd.R_drewN | apply Kd.R_drew)); exact HO_7.out)) k_ hk))
                   (case aO => exact (by (with_reducible repeat (first | apply Kd.R_alloc | apply Kd.R_drewN | apply Kd.R_drew)); exact Kd.R_mono HO184.out (fun _ hk => hk.2)))
                   (case aS => exact (below_size (by repeat (first | (with_reducible first | exact HB.out | apply below_alloc | apply pw_below_drewN | apply below_drew1) | exact HB.out))))
                   (case aL => have := LMc18.out; omega)
                   intro v190 w31 ho hb hg hat
                   rw [← Ny189.out] at ho
                   have n0_ := Aside0.mk (Kd.R_after (ok := (fun _ => True)) (by (with_reducible repeat (first | apply Kd.R_alloc | apply Kd.R_drewN | apply Kd.R_drew)); exact HO_7.out) hg hat)
                   have n1_ := Aside0.mk (Kd.R_over' (by (with_reducible repeat (first | apply Kd.R_alloc | apply Kd.R_drewN | apply Kd.R_drew)); exact HO181.out) (Kd.R_typed (by (with_reducible repeat (first | apply Kd.R_alloc | apply Kd.R_drewN | apply Kd.R_drew)); exact HO184.out)) (by decide) hg)
                   have n2_ := Aside0.mk (hb)
                   have n3_ := Aside0.mk ((show Kd.C (Kd.int .i64) w31 (some ad176) y185.length y185 from by rw [Ny185.out]; exact Kd.C_take (m := (t175 : Int).toNat) ((Kd.R_reads' (Kd.R_after (ok := (fun _ => True)) (by (with_reducible repeat (first | apply Kd.R_alloc | apply Kd.R_drewN | apply Kd.R_drew)); exact HO_7.out) hg hat)).2.2) KL27.out))
                   have n4_ := Aside0.mk ((show Kd.C (Kd.int .i64) w31 A28 y192.length y192 from by rw [Ny192.out, KA28.out]; exact Kd.C_drop (m := ((ji19) : Int).toNat) (c := co23) ((Kd.R_reads' (Kd.R_after (ok := (fun _ => True)) (by (with_reducible repeat (first | apply Kd.R_alloc | apply Kd.R_drewN | apply Kd.R_drew)); exact HO_7.out) hg hat)).2.2) KL28.out ((Kd.R_reads' (Kd.R_after (ok := (fun _ => True)) (by (with_reducible repeat (first | apply Kd.R_alloc | apply Kd.R_drewN | apply Kd.R_drew)); exact HO_7.out) hg hat)).2.1)))
                   have n5_ := Aside0.mk (ho)
                   clear HO_7
                   clear HO181
                   clear HB
                   clear HR188
                   clear HR195
                   clear HO184
                   have HO_7 := n0_
                   have HO181 := n1_
                   have HB := n2_
                   have HR188 := n3_
                   have HR195 := n4_
                   have HO191 := n5_
                   clear n0_ n1_ n2_ n3_ n4_ n5_
                   clear ho hb hg hat
                   refine hK.out _ _ trivial (fun hHeld => ?_)
                   clear hK K
                   refine norm_ (a' := ?_) ?_ ?_
                   rotate_left
                   ·show Act.put _ (some 56) _ = _
                    simp only [Act.put, List.setIfInBounds_toArray, List.set_cons_zero, List.set_cons_succ, i64_w, i32_w]
                    rfl
                   refine one_ (i := 9) (N := some 61) #[true, true, true, true, true, true, true, true, true, true, false] rfl rfl (one_of HT_.out (by kernel_rfl)) (by decide) (fun K hK => ?_)
                   refine Kd.R_append_rows_step (Kd.int .i64) (w0 := w) w.heap.size (by rfl) (.tmp 56) (.tmp 60) 32 3 (.int .i64 0) 8 rfl Tryd.underlying32 info3 rfl (by decide) (by omega) v190 y189 y192 _ _ _ (fun k_ => some k_ ≠ (.slice (some ad176) x7_2.length co23 : Value).ownBlock) (fun _ => False) rfl rfl ?aO ?aR (fun _ _ h => h) (fun _ h => h.elim) ?aF ?aB ?aS ?aL ?_
                   (case aR => repeat (first | exact (by repeat (first | (with_reducible exact HR195.out) | (with_reducible refine Kd.C_alloc ?_ _) | (with_reducible refine Kd.C_drewN ?_ _) | (with_reducible refine Kd.C_drew ?_) | exact HR195.out)) | (with_reducible refine Kd.C_alloc ?_ _) | (with_reducible refine Kd.C_drewN ?_ _) | (with_reducible refine Kd.C_drew ?_)))
                   (case aB => exact (by repeat (first | (with_reducible first | exact HB.out | apply below_alloc | apply pw_below_drewN | apply below_drew1) | exact HB.out)))
                   (case aF => exact (fun k_ hk => Kd.fresh' (Kd.R_lt (by (with_reducible repeat (first | apply Kd.R_alloc | apply Kd.R_drewN | apply Kd.R_drew)); exact HO_7.out)) k_ hk))
                   (case aO => exact (by (with_reducible repeat (first | apply Kd.R_alloc | apply Kd.R_drewN | apply Kd.R_drew)); exact HO191.out))
                   (case aS => exact (below_size (by repeat (first | (with_reducible first | exact HB.out | apply below_alloc | apply pw_below_drewN | apply below_drew1) | exact HB.out))))
                   (case aL => have := LMc22.out; omega)
                   intro v197 w32 ho hb hg hat
                   rw [← Ny196.out] at ho
                   have n0_ := Aside0.mk (Kd.R_after (ok := (fun _ => True)) (by (with_reducible repeat (first | apply Kd.R_alloc | apply Kd.R_drewN | apply Kd.R_drew)); exact HO_7.out) hg hat)
                   have n1_ := Aside0.mk (Kd.R_over' (by (with_reducible repeat (first | apply Kd.R_alloc | apply Kd.R_drewN | apply Kd.R_drew)); exact HO181.out) (Kd.R_typed (by (with_reducible repeat (first | apply Kd.R_alloc | apply Kd.R_drewN | apply Kd.R_drew)); exact HO191.out)) (by decide) hg)
                   have n2_ := Aside0.mk (hb)
                   have n3_ := Aside0.mk ((show Kd.C (Kd.int .i64) w32 (some ad176) y185.length y185 from by rw [Ny185.out]; exact Kd.C_take (m := (t175 : Int).toNat) ((Kd.R_reads' (Kd.R_after (ok := (fun _ => True)) (by (with_reducible repeat (first | apply Kd.R_alloc | apply Kd.R_drewN | apply Kd.R_drew)); exact HO_7.out) hg hat)).2.2) KL27.out))
                   have n4_ := Aside0.mk ((show Kd.C (Kd.int .i64) w32 A28 y192.length y192 from by rw [Ny192.out, KA28.out]; exact Kd.C_drop (m := ((ji19) : Int).toNat) (c := co23) ((Kd.R_reads' (Kd.R_after (ok := (fun _ => True)) (by (with_reducible repeat (first | apply Kd.R_alloc | apply Kd.R_drewN | apply Kd.R_drew)); exact HO_7.out) hg hat)).2.2) KL28.out ((Kd.R_reads' (Kd.R_after (ok := (fun _ => True)) (by (with_reducible repeat (first | apply Kd.R_alloc | apply Kd.R_drewN | apply Kd.R_drew)); exact HO_7.out) hg hat)).2.1)))
                   have n5_ := Aside0.mk (ho)
                   clear HO_7
                   clear HO181
                   clear HB
                   clear HR188
                   clear HR195
                   clear HO191
                   have HO_7 := n0_
                   have HO181 := n1_
                   have HB := n2_
                   have HR188 := n3_
                   have HR195 := n4_
                   have HO198 := n5_
                   clear n0_ n1_ n2_ n3_ n4_ n5_
                   clear ho hb hg hat
                   refine hK.out _ _ trivial (fun hHeld => ?_)
                   clear hK K
                   refine norm_ (a' := ?_) ?_ ?_
                   rotate_left
                   ·show Act.put _ (some 61) _ = _
                    simp only [Act.put, List.setIfInBounds_toArray, List.set_cons_zero, List.set_cons_succ, i64_w, i32_w]
                    rfl
                   refine pure_ (i := 10) (N := some 7) (v := ?_) (a' := ?_) #[true, true, true, true, true, true, true, true, true, true, true] rfl rfl (any_of HT_.out (by kernel_rfl)) (fun _ _ _ h => h) (Or.inl ⟨by rfl, ?_⟩) ?_ ?_
                   rotate_left
                   ·intro w'
                    go_simp
                    with_reducible rfl
                   rotate_left
                   ·simp only [Act.put, List.setIfInBounds_toArray, List.set_cons_zero, List.set_cons_succ, i64_w, i32_w]
                    rfl
                   refine done_ (done_of HT_.out (by kernel_rfl)) ?_
                   try go_wp2
                   go_roundg k2
                   case measure => have := HK1.out; have := HK2.out; omega
                   case rel => exact ⟨(y196), (y179), (wrap64 (x23_2 + 1)), (by first | rfl | (simp; done) | (simp [*]; done)), H', ⟨by have := HK1.out; have := HK2.out; omega⟩, ⟨by (with_reducible repeat (first | apply Kd.R_alloc | apply Kd.R_drewN | apply Kd.R_drew)); exact Kd.R_mono HO198.out (fun _ hk => trivial)⟩, ⟨by (with_reducible repeat (first | apply Kd.R_alloc | apply Kd.R_drewN | apply Kd.R_drew)); exact HO181.out⟩, ⟨by repeat (first | (with_reducible first | exact HB.out | apply below_alloc | apply pw_below_drewN | apply below_drew1) | exact HB.out)⟩⟩
                  ·rw [if_neg c22] at H
                   exact absurd H (by simp)
                 ·rw [if_neg c21] at H
                  exact absurd H (by simp)
                ·rw [if_neg c20] at H
                 exact absurd H (by simp)
               ·rw [if_neg c18] at H
                exact absurd H (by simp)
              ·rw [if_neg c17] at H
               exact absurd H (by simp)
             ·rw [if_neg c15] at H
              exact absurd H (by simp)
            ·rw [if_neg c14] at H
             exact absurd H (by simp)
           ·rw [if_neg c13] at H
            exact absurd H (by simp)
          ·rw [if_neg c12] at H
           exact absurd H (by simp)
         ·rw [if_neg c11] at H
          exact absurd H (by simp)
        ·rw [if_neg c9] at H
         exact absurd H (by simp)
       ·rw [if_neg c8] at H
        have c8b0 : decide (x23_2 < (l2.length : Int)) = false := decide_eq_false c8
        clear c8
        by_cases c33 : 0 < (x7_2.length : Int)
        ·rw [if_pos c33] at H
         have c33b0 : decide (0 < (x7_2.length : Int)) = true := decide_eq_true c33
         have c33b1 : decide (0 < x7_2.length) = true := decide_eq_true (by omega)
         clear c33
         by_cases c34 : 0 ≤ (rd x7_2 0)
         ·rw [if_pos c34] at H
          have c34b0 : decide (0 ≤ (rd x7_2 0)) = true := decide_eq_true c34
          clear c34
          by_cases c35 : (rd x7_2 0) < (l0.length : Int)
          ·rw [if_pos c35] at H
           have c35b0 : decide ((rd x7_2 0) < (l0.length : Int)) = true := decide_eq_true c35
           clear c35
           by_cases c36 : x9_2.length < 5864062014805
           ·rw [if_pos c36] at H
            have LMc36 := Aside0.mk c36
            clear c36
            obtain ⟨y202, hy202⟩ : ∃ y_ : List (S37), y_ = (x9_2 ++ [(⟨rd x7_2 0, rdOf ByteArray.empty l0 (rd x7_2 0)⟩ : S37)]) := ⟨_, rfl⟩
            replace H : ((some (([] : List Int) : List Int)).bind fun y205 => (if 0 ≤ (x7_2.length : Int) then ((some (x7_2.take 0 : List Int)).bind fun y208 => (if y205.length + y208.length < 17592186044416 then ((some (y205 ++ y208 : List Int)).bind fun y212 => (if 1 ≤ (x7_2.length : Int) then ((some (x7_2.drop 1 : List Int)).bind fun y215 => (if y212.length + y215.length < 17592186044416 then (corncriblaw04_some.l1 k2 l0 l2 (y212 ++ y215) y202 a1 (wrap64 (x23_2 + 1))) else (none))) else (none))) else (none))) else (none))) = some r := by first | (rw [hy202]; with_reducible exact H) | (have H2_ := (Option.bind_some _ _).symm.trans H; rw [hy202]; with_reducible exact H2_) | (have H2_ := (Option.bind_some _ _).symm.trans H; with_reducible exact H2_) | with_reducible exact H | (rw [hy202]; exact H) | exact H
            have Ny202 := Aside0.mk hy202
            clear hy202
            obtain ⟨y205, hy205⟩ : ∃ y_ : List Int, y_ = (([] : List Int)) := ⟨_, rfl⟩
            replace H : (if 0 ≤ (x7_2.length : Int) then ((some (x7_2.take 0 : List Int)).bind fun y208 => (if y205.length + y208.length < 17592186044416 then ((some (y205 ++ y208 : List Int)).bind fun y212 => (if 1 ≤ (x7_2.length : Int) then ((some (x7_2.drop 1 : List Int)).bind fun y215 => (if y212.length + y215.length < 17592186044416 then (corncriblaw04_some.l1 k2 l0 l2 (y212 ++ y215) y202 a1 (wrap64 (x23_2 + 1))) else (none))) else (none))) else (none))) else (none)) = some r := by first | (rw [hy205]; with_reducible exact H) | (have H2_ := (Option.bind_some _ _).symm.trans H; rw [hy205]; with_reducible exact H2_) | (have H2_ := (Option.bind_some _ _).symm.trans H; with_reducible exact H2_) | with_reducible exact H | (rw [hy205]; exact H) | exact H
            have Ny205 := Aside0.mk hy205
            clear hy205
            by_cases c37 : 0 ≤ (x7_2.length : Int)
            ·rw [if_pos c37] at H
             have c37b0 := eq_true c37
             have c37b1 : decide (0 ≤ (x7_2.length : Int)) = true := decide_eq_true c37
             clear c37
             obtain ⟨y208, hy208⟩ : ∃ y_ : List Int, y_ = (x7_2.take 0) := ⟨_, rfl⟩
             replace H : (if y205.length + y208.length < 17592186044416 then ((some (y205 ++ y208 : List Int)).bind fun y212 => (if 1 ≤ (x7_2.length : Int) then ((some (x7_2.drop 1 : List Int)).bind fun y215 => (if y212.length + y215.length < 17592186044416 then (corncriblaw04_some.l1 k2 l0 l2 (y212 ++ y215) y202 a1 (wrap64 (x23_2 + 1))) else (none))) else (none))) else (none)) = some r := by first | (rw [hy208]; with_reducible exact H) | (have H2_ := (Option.bind_some _ _).symm.trans H; rw [hy208]; with_reducible exact H2_) | (have H2_ := (Option.bind_some _ _).symm.trans H; with_reducible exact H2_) | with_reducible exact H | (rw [hy208]; exact H) | exact H
             have Ny208 := Aside0.mk hy208
             clear hy208
             by_cases c38 : y205.length + y208.length < 17592186044416
             ·rw [if_pos c38] at H
              have LMc38 := Aside0.mk c38
              clear c38
              obtain ⟨y212, hy212⟩ : ∃ y_ : List Int, y_ = (y205 ++ y208) := ⟨_, rfl⟩
              replace H : (if 1 ≤ (x7_2.length : Int) then ((some (x7_2.drop 1 : List Int)).bind fun y215 => (if y212.length + y215.length < 17592186044416 then (corncriblaw04_some.l1 k2 l0 l2 (y212 ++ y215) y202 a1 (wrap64 (x23_2 + 1))) else (none))) else (none)) = some r := by first | (rw [hy212]; with_reducible exact H) | (have H2_ := (Option.bind_some _ _).symm.trans H; rw [hy212]; with_reducible exact H2_) | (have H2_ := (Option.bind_some _ _).symm.trans H; with_reducible exact H2_) | with_reducible exact H | (rw [hy212]; exact H) | exact H
              have Ny212 := Aside0.mk hy212
              clear hy212
              by_cases c39 : 1 ≤ (x7_2.length : Int)
              ·rw [if_pos c39] at H
               have c39b0 := eq_true c39
               have c39b1 : decide (1 ≤ (x7_2.length : Int)) = true := decide_eq_true c39
               clear c39
               obtain ⟨y215, hy215⟩ : ∃ y_ : List Int, y_ = (x7_2.drop 1) := ⟨_, rfl⟩
               replace H : (if y212.length + y215.length < 17592186044416 then (corncriblaw04_some.l1 k2 l0 l2 (y212 ++ y215) y202 a1 (wrap64 (x23_2 + 1))) else (none)) = some r := by first | (rw [hy215]; with_reducible exact H) | (have H2_ := (Option.bind_some _ _).symm.trans H; rw [hy215]; with_reducible exact H2_) | (have H2_ := (Option.bind_some _ _).symm.trans H; with_reducible exact H2_) | with_reducible exact H | (rw [hy215]; exact H) | exact H
               have Ny215 := Aside0.mk hy215
               clear hy215
               by_cases c40 : y212.length + y215.length < 17592186044416
               ·rw [if_pos c40] at H
                have LMc40 := Aside0.mk c40
                clear c40
                obtain ⟨y219, hy219⟩ : ∃ y_ : List Int, y_ = (y212 ++ y215) := ⟨_, rfl⟩
                replace H : (corncriblaw04_some.l1 k2 l0 l2 y219 y202 a1 (wrap64 (x23_2 + 1))) = some r := by first | (rw [hy219]; with_reducible exact H) | (have H2_ := (Option.bind_some _ _).symm.trans H; rw [hy219]; with_reducible exact H2_) | (have H2_ := (Option.bind_some _ _).symm.trans H; with_reducible exact H2_) | with_reducible exact H | (rw [hy219]; exact H) | exact H
                have Ny219 := Aside0.mk hy219
                clear hy219
                have H' := Aside0.mk H
                clear H
                try go_wp2
                have n0_ := Aside0.mk (Kd.R_drew HO_7.out)
                have n1_ := Aside0.mk (Kd.R_drew HO_9.out)
                have n2_ := Aside0.mk (below_drew1 HB.out)
                clear HO_7
                clear HO_9
                clear HB
                have HO_7 := n0_
                have HO_9 := n1_
                have HB := n2_
                clear n0_ n1_ n2_
                obtain ⟨Ao42, co42, eo42⟩ := Kd.R_slice HO_7.out
                (first | subst eo42 | (injection eo42 with f1_ f2_ f3_; have f4_ := f1_.symm; have f5_ := f3_.symm; clear f1_ f2_ f3_; subst f4_; subst f5_))
                have p199 : 0 ≤ (0 : Int) := (by omega)
                have q199 : 0 < (x7_2.length : Int) := of_decide_eq_true (by first | (with_reducible assumption) | assumption)
                obtain ⟨ad199, e199, hx199_0⟩ := Kd.at_int (Kd.R_reads' HO_7.out).2.2 0 p199 q199
                cases e199
                have qi199 : (0 < x7_2.length) = True := eq_true (by omega)
                (try rw [show ((0 : Int)).toNat = 0 from rfl] at hx199_0)
                (try rw [Addr.add_zero'] at hx199_0)
                replace p199 := eq_true p199
                replace q199 := eq_true q199
                have p200 : 0 ≤ (0 : Int) := (by omega)
                have q200 : 0 < (x7_2.length : Int) := of_decide_eq_true (by first | (with_reducible assumption) | assumption)
                obtain ⟨ad200, e200, hx200_0⟩ := Kd.at_int (Kd.R_reads' HO_7.out).2.2 0 p200 q200
                obtain rfl : ad199 = ad200 := (by injection e200)
                have qi200 : (0 < x7_2.length) = True := eq_true (by omega)
                (try rw [show ((0 : Int)).toNat = 0 from rfl] at hx200_0)
                (try rw [Addr.add_zero'] at hx200_0)
                replace p200 := eq_true p200
                replace q200 := eq_true q200
                have p201 : 0 ≤ ((rd x7_2 0) : Int) := of_decide_eq_true (by first | (with_reducible assumption) | assumption)
                have q201 : (rd x7_2 0) < (l0.length : Int) := of_decide_eq_true (by first | (with_reducible assumption) | assumption)
                obtain ⟨ad201, e201, hx201_0⟩ := Kd.at_string HR0.out (rd x7_2 0) p201 q201
                have hw201_0 := hx201_0
                cases e201
                replace hx201_0 := (HB.out.cell (World.block_lt_of_cell? w _ hx201_0)).trans hx201_0
                replace p201 := eq_true p201
                replace q201 := eq_true q201
                refine start_ (n := 16) (S := fun w' => w'.cell? ad199 = some (.int .i64 (rd x7_2 0)) ∧ w'.cell? ad199 = some (.int .i64 (rd x7_2 0)) ∧ w'.cell? (ad201.add ((rd x7_2 0)).toNat) = some (.string (rdOf ByteArray.empty l0 (rd x7_2 0)))) (ds := [13, 14]) #[false, false, false, false, false, false, false, false, false, false, false, false, false, false, false, false] (by kernel_rfl) rfl rfl ⟨hx199_0, hx200_0, ((HB.out.cell (World.block_lt_of_cell? w _ hw201_0)).trans hw201_0)⟩ (fun hHeld => ?_); refine with_tabW corncriblaw04_some.tab14 corncriblaw04_some.bits14 (fun HT_ HW_ => ?_)
                generalize wr.drew = w41 at HO_7 HO_9 HB hx199_0 hx200_0 hx201_0 hHeld ⊢
                refine pure_ (i := 0) (N := some 37) (v := ?_) (a' := ?_) #[true, false, false, false, false, false, false, false, false, false, false, false, false, false, false, false] rfl rfl (any_of HT_.out (by kernel_rfl)) (fun _ _ _ h => h) (Or.inl ⟨by rfl, ?_⟩) ?_ ?_
                rotate_left
                ·intro w'
                 go_simp
                 with_reducible rfl
                rotate_left
                ·simp only [Act.put, List.setIfInBounds_toArray, List.set_cons_zero, List.set_cons_succ, i64_w, i32_w]
                 rfl
                refine pure_ (i := 1) (N := some 38) (v := ?_) (a' := ?_) #[true, true, false, false, false, false, false, false, false, false, false, false, false, false, false, false] rfl rfl (any_of HT_.out (by kernel_rfl)) (fun _ _ _ h => h) (Or.inl ⟨by rfl, ?_⟩) ?_ ?_
                rotate_left
                ·intro w'
                 go_simp
                 with_reducible rfl
                rotate_left
                ·simp only [Act.put, List.setIfInBounds_toArray, List.set_cons_zero, List.set_cons_succ, i64_w, i32_w]
                 rfl
                refine pure_ (i := 2) (N := some 39) (v := ?_) (a' := ?_) #[true, true, true, false, false, false, false, false, false, false, false, false, false, false, false, false] rfl rfl (any_of HT_.out (by kernel_rfl)) (fun _ _ _ h => h) (Or.inl ⟨by rfl, ?_⟩) ?_ ?_
                rotate_left
                ·intro w'
                 go_simp
                 with_reducible rfl
                rotate_left
                ·simp only [Act.put, List.setIfInBounds_toArray, List.set_cons_zero, List.set_cons_succ, i64_w, i32_w]
                 rfl
                refine pure_ (i := 3) (N := some 40) (v := ?_) (a' := ?_) #[true, true, true, true, false, false, false, false, false, false, false, false, false, false, false, false] rfl rfl (any_of HT_.out (by kernel_rfl)) (fun _ _ _ h => h) (Or.inl ⟨by rfl, ?_⟩) ?_ ?_
                rotate_left
                ·intro w'
                 go_simp
                 with_reducible rfl
                rotate_left
                ·simp only [Act.put, List.setIfInBounds_toArray, List.set_cons_zero, List.set_cons_succ, i64_w, i32_w]
                 rfl
                refine pure_ (i := 5) (N := some 42) (v := ?_) (a' := ?_) #[true, true, true, true, false, true, false, false, false, false, false, false, false, false, false, false] rfl rfl (any_of HT_.out (by kernel_rfl)) (fun _ _ _ h => h) (Or.inl ⟨by rfl, ?_⟩) ?_ ?_
                rotate_left
                ·intro w'
                 go_simp
                 with_reducible rfl
                rotate_left
                ·simp only [Act.put, List.setIfInBounds_toArray, List.set_cons_zero, List.set_cons_succ, i64_w, i32_w]
                 rfl
                refine pure_ (i := 6) (N := some 43) (v := ?_) (a' := ?_) #[true, true, true, true, false, true, true, false, false, false, false, false, false, false, false, false] rfl rfl (any_of HT_.out (by kernel_rfl)) (fun _ _ _ h => h) (Or.inl ⟨by rfl, ?_⟩) ?_ ?_
                rotate_left
                ·intro w'
                 go_simp
                 with_reducible rfl
                rotate_left
                ·simp only [Act.put, List.setIfInBounds_toArray, List.set_cons_zero, List.set_cons_succ, i64_w, i32_w]
                 rfl
                refine pure_ (i := 7) (N := some 44) (v := ?_) (a' := ?_) #[true, true, true, true, false, true, true, true, false, false, false, false, false, false, false, false] rfl rfl (any_of HT_.out (by kernel_rfl)) (fun _ _ _ h => h) (Or.inl ⟨by rfl, ?_⟩) ?_ ?_
                rotate_left
                ·intro w'
                 go_simp
                 with_reducible rfl
                rotate_left
                ·simp only [Act.put, List.setIfInBounds_toArray, List.set_cons_zero, List.set_cons_succ, i64_w, i32_w]
                 rfl
                refine pure_ (i := 8) (N := some 45) (v := ?_) (a' := ?_) #[true, true, true, true, false, true, true, true, true, false, false, false, false, false, false, false] rfl rfl (any_of HT_.out (by kernel_rfl)) (fun _ _ _ h => h) (Or.inl ⟨by rfl, ?_⟩) ?_ ?_
                rotate_left
                ·intro w'
                 go_simp
                 with_reducible rfl
                rotate_left
                ·simp only [Act.put, List.setIfInBounds_toArray, List.set_cons_zero, List.set_cons_succ, i64_w, i32_w]
                 rfl
                refine take_ (i := 4) (N := some 41) (v := ?_) (a' := ?_) #[true, true, true, true, true, true, true, true, true, false, false, false, false, false, false, false] rfl rfl (take_ofW HT_.out HW_.out (by kernel_rfl)) (fun _ _ _ h => h) (Or.inl ⟨by rfl, ?_⟩) hHeld ?_ ?_
                rotate_left
                ·rintro w' ⟨s0, s1, s2⟩
                 go_simp
                 with_reducible rfl
                rotate_left
                ·simp only [Act.put, List.setIfInBounds_toArray, List.set_cons_zero, List.set_cons_succ, i64_w, i32_w]
                 rfl
                refine take_ (i := 9) (N := some 46) (v := ?_) (a' := ?_) #[true, true, true, true, true, true, true, true, true, true, false, false, false, false, false, false] rfl rfl (take_ofW HT_.out HW_.out (by kernel_rfl)) (fun _ _ _ h => h) (Or.inl ⟨by rfl, ?_⟩) hHeld ?_ ?_
                rotate_left
                ·rintro w' ⟨s0, s1, s2⟩
                 go_simp
                 with_reducible rfl
                rotate_left
                ·simp only [Act.put, List.setIfInBounds_toArray, List.set_cons_zero, List.set_cons_succ, i64_w, i32_w]
                 rfl
                refine pure_ (i := 10) (N := some 47) (v := ?_) (a' := ?_) #[true, true, true, true, true, true, true, true, true, true, true, false, false, false, false, false] rfl rfl (any_of HT_.out (by kernel_rfl)) (fun _ _ _ h => h) (Or.inl ⟨by rfl, ?_⟩) ?_ ?_
                rotate_left
                ·intro w'
                 go_simp
                 with_reducible rfl
                rotate_left
                ·simp only [Act.put, List.setIfInBounds_toArray, List.set_cons_zero, List.set_cons_succ, i64_w, i32_w]
                 rfl
                refine take_ (i := 11) (N := some 48) (v := ?_) (a' := ?_) #[true, true, true, true, true, true, true, true, true, true, true, true, false, false, false, false] rfl rfl (take_ofW HT_.out HW_.out (by kernel_rfl)) (fun _ _ _ h => h) (Or.inl ⟨by rfl, ?_⟩) hHeld ?_ ?_
                rotate_left
                ·rintro w' ⟨s0, s1, s2⟩
                 go_simp
                 with_reducible rfl
                rotate_left
                ·simp only [Act.put, List.setIfInBounds_toArray, List.set_cons_zero, List.set_cons_succ, i64_w, i32_w]
                 rfl
                refine pure_ (i := 12) (N := some 49) (v := ?_) (a' := ?_) #[true, true, true, true, true, true, true, true, true, true, true, true, true, false, false, false] rfl rfl (any_of HT_.out (by kernel_rfl)) (fun _ _ _ h => h) (Or.inl ⟨by rfl, ?_⟩) ?_ ?_
                rotate_left
                ·intro w'
                 go_simp
                 with_reducible rfl
                rotate_left
                ·simp only [Act.put, List.setIfInBounds_toArray, List.set_cons_zero, List.set_cons_succ, i64_w, i32_w]
                 rfl
                refine last_ (i := 13) (N := some 50) #[true, true, true, true, true, true, true, true, true, true, true, true, true, true, false, false] rfl rfl (one_of HT_.out (by kernel_rfl)) (by decide) (fun K hK => ?_)
                refine value_ (w1 := ?_) (v := ?_) (by rfl) rfl ?_ ?_
                rotate_left 2
                ·go_simp
                 constructor
                 ·rfl
                 ·rfl
                refine hK.out _ _ ?_
                clear hK K
                refine norm_ (a' := ?_) ?_ ?_
                rotate_left
                ·show Act.put _ (some 50) _ = _
                 simp only [Act.put, List.setIfInBounds_toArray, List.set_cons_zero, List.set_cons_succ, i64_w, i32_w]
                 rfl
                refine last_ (i := 14) (N := some 51) #[true, true, true, true, true, true, true, true, true, true, true, true, true, true, true, false] rfl rfl (one_of HT_.out (by kernel_rfl)) (by decide) (fun K hK => ?_)
                refine Kd.R_append_step k37 (w0 := w) w.heap.size (by rfl) (.tmp 37) (.tmp 50) 30 37 (.agg #[(.int .i64 0), (.string ⟨#[]⟩)]) 24 rfl Tryd.underlying30 info37 rfl (by decide) (by omega) u9 x9_2 (⟨rd x7_2 0, rdOf ByteArray.empty l0 (rd x7_2 0)⟩ : S37) [.int .i64 (rd x7_2 0), .string (rdOf ByteArray.empty l0 (rd x7_2 0))] (fun _ => True) (fun _ => False) rfl rfl ?aP (fun _ hk => hk.elim) ?aF ?aO ?aB ?aS ?aL ?_
                (case aP => exact k37_mkM _ _ _ (⟨rd x7_2 0, rdOf ByteArray.empty l0 (rd x7_2 0)⟩ : S37))
                (case aB => exact (by repeat (first | (with_reducible first | exact HB.out | apply below_alloc | apply pw_below_drewN | apply below_drew1) | exact HB.out)))
                (case aF => exact (fun _ _ => trivial))
                (case aO => exact (by (with_reducible repeat (first | apply Kd.R_alloc | apply Kd.R_drewN | apply Kd.R_drew)); exact HO_9.out))
                (case aS => exact (below_size (by repeat (first | (with_reducible first | exact HB.out | apply below_alloc | apply pw_below_drewN | apply below_drew1) | exact HB.out))))
                (case aL => have := LMc36.out; omega)
                intro v203 w43 ho hb hg hat
                rw [← Ny202.out] at ho
                have n0_ := Aside0.mk (Kd.R_over' (by (with_reducible repeat (first | apply Kd.R_alloc | apply Kd.R_drewN | apply Kd.R_drew)); exact HO_7.out) (Kd.R_typed (by (with_reducible repeat (first | apply Kd.R_alloc | apply Kd.R_drewN | apply Kd.R_drew)); exact HO_9.out)) (by decide) hg)
                have n1_ := Aside0.mk (hb)
                have n2_ := Aside0.mk (ho)
                clear HO_7
                clear HB
                clear HO_9
                have HO_7 := n0_
                have HB := n1_
                have HO204 := n2_
                clear n0_ n1_ n2_
                clear ho hb hg hat
                refine hK.out _ _ ?_
                clear hK K
                refine norm_ (a' := ?_) ?_ ?_
                rotate_left
                ·show Act.put _ (some 51) _ = _
                 simp only [Act.put, List.setIfInBounds_toArray, List.set_cons_zero, List.set_cons_succ, i64_w, i32_w]
                 rfl
                refine pure_ (i := 15) (N := some 9) (v := ?_) (a' := ?_) #[true, true, true, true, true, true, true, true, true, true, true, true, true, true, true, true] rfl rfl (any_of HT_.out (by kernel_rfl)) (fun _ _ _ h => h) (Or.inl ⟨by rfl, ?_⟩) ?_ ?_
                rotate_left
                ·intro w'
                 go_simp
                 with_reducible rfl
                rotate_left
                ·simp only [Act.put, List.setIfInBounds_toArray, List.set_cons_zero, List.set_cons_succ, i64_w, i32_w]
                 rfl
                refine done_ (done_of HT_.out (by kernel_rfl)) ?_
                try go_wp2
                have n0_ := Aside0.mk (Kd.R_drew HO_7.out)
                have n1_ := Aside0.mk (Kd.R_drew HO204.out)
                have n2_ := Aside0.mk (below_drew1 HB.out)
                clear HO_7
                clear HO204
                clear HB
                have HO_7 := n0_
                have HO204 := n1_
                have HB := n2_
                clear n0_ n1_ n2_
                have q45 : (0 : Int) ≤ ((x7_2.length : Int) : Int) := of_decide_eq_true (by first | (with_reducible assumption) | assumption)
                obtain ⟨i045, hi045, _, hsz45, _⟩ := info_parts info3
                have hroom45 : x7_2.length ≤ co42 := (Kd.R_reads' HO_7.out).2.1
                have hC45 : Kd.C (Kd.int .i64) _ (some ad199) x7_2.length x7_2 := (Kd.R_reads' HO_7.out).2.2
                have hcut45 := cut_to (P := Tryd.prog) 32 3 .i64 Tryd.underlying32 hi045 (some ad199) x7_2.length co42 0 (by omega) q45 hroom45
                have hr45 := Kd.C_take (m := 0) hC45 (by omega)
                have hy45 : y208.length = (0 : Int).toNat := (by rw [Ny208.out, List.length_take]; omega)
                rw [← Ny208.out] at hr45
                rw [← hy45] at hcut45
                have HR211 := Aside0.mk hr45
                have HC211 := Aside0.mk (show y208.length ≤ co42 from by omega)
                clear hr45 hC45 hroom45 hi045 hsz45
                have KY45 := Aside0.mk hy45
                clear hy45
                have KL45 := Aside0.mk (show 0 ≤ x7_2.length from by omega)
                replace q45 := eq_true q45
                have q46 : (1 : Int) ≤ ((x7_2.length : Int) : Int) := of_decide_eq_true (by first | (with_reducible assumption) | assumption)
                obtain ⟨i046, hi046, _, hsz46, _⟩ := info_parts info3
                have hroom46 : x7_2.length ≤ co42 := (Kd.R_reads' HO_7.out).2.1
                have hC46 : Kd.C (Kd.int .i64) _ (some ad199) x7_2.length x7_2 := (Kd.R_reads' HO_7.out).2.2
                have hcut46 := cut_from (P := Tryd.prog) 32 3 .i64 Tryd.underlying32 hi046 1 hsz46 (some ad199) x7_2.length co42 1 (by omega) q46
                have hr46 := Kd.C_drop (m := (1 : Int).toNat) (c := co42) hC46 (by omega) hroom46
                obtain ⟨A46, hA46⟩ : ∃ A1, A1 = (if co42 = (1 : Int).toNat then (some ad199) else ((some ad199) : Option Addr).map (·.add ((1 : Int).toNat * 1))) := ⟨_, rfl⟩
                obtain ⟨c46, hc46⟩ : ∃ c1, c1 = co42 - (1 : Int).toNat := ⟨_, rfl⟩
                have hy46 : y215.length = x7_2.length - (1 : Int).toNat := (by rw [Ny215.out, List.length_drop] <;> omega)
                rw [show (x7_2).drop (1 : Int).toNat = y215 from Ny215.out.symm] at hr46
                replace hr46 : Kd.C (Kd.int .i64) _ A46 y215.length y215 := (by rw [hA46]; exact hr46)
                rw [← hy46, ← hA46, ← hc46] at hcut46
                have HR218 := Aside0.mk hr46
                have HC218 := Aside0.mk (show y215.length ≤ c46 from by rw [hy46, hc46]; exact Nat.sub_le_sub_right hroom46 _)
                clear hr46 hC46 hroom46 hi046 hsz46 hc46
                have KY46 := Aside0.mk hy46
                have KA46 := Aside0.mk hA46
                clear hy46 hA46
                have KL46 := Aside0.mk (show 1 ≤ x7_2.length from by omega)
                replace q46 := eq_true q46
                refine start_ (n := 11) (S := fun w' => True) (ds := []) #[false, false, false, false, false, false, false, false, false, false, false] (by kernel_rfl) rfl rfl trivial (fun hHeld => ?_); refine with_tabW corncriblaw04_some.tab15 corncriblaw04_some.bits15 (fun HT_ HW_ => ?_)
                generalize w43.drew = w44 at HO_7 HO204 HB HR211 HR218 hHeld ⊢
                refine pure_ (i := 1) (N := some 53) (v := ?_) (a' := ?_) #[false, true, false, false, false, false, false, false, false, false, false] rfl rfl (any_of HT_.out (by kernel_rfl)) (fun _ _ _ h => h) (Or.inl ⟨by rfl, ?_⟩) ?_ ?_
                rotate_left
                ·intro w'
                 go_simp
                 with_reducible rfl
                rotate_left
                ·simp only [Act.put, List.setIfInBounds_toArray, List.set_cons_zero, List.set_cons_succ, i64_w, i32_w]
                 rfl
                refine pure_ (i := 2) (N := some 54) (v := ?_) (a' := ?_) #[false, true, true, false, false, false, false, false, false, false, false] rfl rfl (any_of HT_.out (by kernel_rfl)) (fun _ _ _ h => h) (Or.inl ⟨by rfl, ?_⟩) ?_ ?_
                rotate_left
                ·intro w'
                 go_simp
                 with_reducible rfl
                rotate_left
                ·simp only [Act.put, List.setIfInBounds_toArray, List.set_cons_zero, List.set_cons_succ, i64_w, i32_w]
                 rfl
                refine pure_ (i := 3) (N := some 55) (v := ?_) (a' := ?_) #[false, true, true, true, false, false, false, false, false, false, false] rfl rfl (any_of HT_.out (by kernel_rfl)) (fun _ _ _ h => h) (Or.inl ⟨by rfl, ?_⟩) ?_ ?_
                rotate_left
                ·intro w'
                 go_simp
                 with_reducible rfl
                rotate_left
                ·simp only [Act.put, List.setIfInBounds_toArray, List.set_cons_zero, List.set_cons_succ, i64_w, i32_w]
                 rfl
                refine pure_ (i := 5) (N := some 57) (v := ?_) (a' := ?_) #[false, true, true, true, false, true, false, false, false, false, false] rfl rfl (any_of HT_.out (by kernel_rfl)) (fun _ _ _ h => h) (Or.inl ⟨by rfl, ?_⟩) ?_ ?_
                rotate_left
                ·intro w'
                 go_simp
                 with_reducible rfl
                rotate_left
                ·simp only [Act.put, List.setIfInBounds_toArray, List.set_cons_zero, List.set_cons_succ, i64_w, i32_w]
                 rfl
                refine pure_ (i := 6) (N := some 58) (v := ?_) (a' := ?_) #[false, true, true, true, false, true, true, false, false, false, false] rfl rfl (any_of HT_.out (by kernel_rfl)) (fun _ _ _ h => h) (Or.inl ⟨by rfl, ?_⟩) ?_ ?_
                rotate_left
                ·intro w'
                 go_simp
                 with_reducible rfl
                rotate_left
                ·simp only [Act.put, List.setIfInBounds_toArray, List.set_cons_zero, List.set_cons_succ, i64_w, i32_w]
                 rfl
                refine pure_ (i := 7) (N := some 59) (v := ?_) (a' := ?_) #[false, true, true, true, false, true, true, true, false, false, false] rfl rfl (any_of HT_.out (by kernel_rfl)) (fun _ _ _ h => h) (Or.inl ⟨by rfl, ?_⟩) ?_ ?_
                rotate_left
                ·intro w'
                 go_simp
                 with_reducible rfl
                rotate_left
                ·simp only [Act.put, List.setIfInBounds_toArray, List.set_cons_zero, List.set_cons_succ, i64_w, i32_w]
                 rfl
                refine pure_ (i := 8) (N := some 60) (v := ?_) (a' := ?_) #[false, true, true, true, false, true, true, true, true, false, false] rfl rfl (any_of HT_.out (by kernel_rfl)) (fun _ _ _ h => h) (Or.inl ⟨by rfl, ?_⟩) ?_ ?_
                rotate_left
                ·intro w'
                 go_simp
                 with_reducible rfl
                rotate_left
                ·simp only [Act.put, List.setIfInBounds_toArray, List.set_cons_zero, List.set_cons_succ, i64_w, i32_w]
                 rfl
                refine one_ (i := 0) (N := some 52) #[true, true, true, true, false, true, true, true, true, false, false] rfl rfl (one_of HT_.out (by kernel_rfl)) (by decide) (fun K hK => ?_)
                refine Kd.R_lit_step (Kd.int .i64) _ 3 ?hg (N := 52) ?hd (xs := ([] : List Int)) (inner := []) (ok := fun _ => True) (okp := fun _ => True) ?hr ?hp (fun _ hk => hk) trivial (Below.refl _ _) (Nat.le_refl _) (by simp) ?_; (case hd => rfl); (case hg => rfl); (case hr => first | (go_simp; done) | (go_simp; rfl)); (case hp => exact (Reps.none _ _))
                intro v206 w47 ho48 hb hg_ hnew_
                clear hg_ hnew_
                (first | rw [← Ny205.out] at ho48 | (simp only [Int.reduceToNat] at ho48; rw [← Ny205.out] at ho48))
                have n0_ := Aside0.mk (Kd.R_elder' (by (with_reducible repeat (first | apply Kd.R_alloc | apply Kd.R_drewN | apply Kd.R_drew)); exact HO_7.out) (Kd.R_base ho48) hb)
                have n1_ := Aside0.mk (Kd.R_below (by (with_reducible repeat (first | apply Kd.R_alloc | apply Kd.R_drewN | apply Kd.R_drew)); exact HO204.out) hb)
                have n2_ := Aside0.mk (Kd.R_lower (Kd.R_new' ho48 (Kd.R_lt (by (with_reducible repeat (first | apply Kd.R_alloc | apply Kd.R_drewN | apply Kd.R_drew)); exact HO_7.out))) (below_size (by repeat (first | (with_reducible first | exact HB.out | apply below_alloc | apply pw_below_drewN | apply below_drew1) | exact HB.out))))
                have n3_ := Aside0.mk (Kd.C_below (by repeat (first | (with_reducible exact HR211.out) | (with_reducible refine Kd.C_alloc ?_ _) | (with_reducible refine Kd.C_drewN ?_ _) | (with_reducible refine Kd.C_drew ?_) | exact HR211.out)) hb)
                have n4_ := Aside0.mk (Kd.C_below (by repeat (first | (with_reducible exact HR218.out) | (with_reducible refine Kd.C_alloc ?_ _) | (with_reducible refine Kd.C_drewN ?_ _) | (with_reducible refine Kd.C_drew ?_) | exact HR218.out)) hb)
                have n5_ := Aside0.mk (below_step (by repeat (first | (with_reducible first | exact HB.out | apply below_alloc | apply pw_below_drewN | apply below_drew1) | exact HB.out)) hb)
                clear HO_7
                clear HO204
                clear HR211
                clear HR218
                clear HB
                have HO_7 := n0_
                have HO204 := n1_
                have HO207 := n2_
                have HR211 := n3_
                have HR218 := n4_
                have HB := n5_
                clear n0_ n1_ n2_ n3_ n4_ n5_
                clear hb ho48
                refine hK.out _ _ trivial (fun hHeld => ?_)
                clear hK K
                refine norm_ (a' := ?_) ?_ ?_
                rotate_left
                ·show Act.put _ (some 52) _ = _
                 simp only [Act.put, List.setIfInBounds_toArray, List.set_cons_zero, List.set_cons_succ, i64_w, i32_w]
                 rfl
                refine one_ (i := 4) (N := some 56) #[true, true, true, true, true, true, true, true, true, false, false] rfl rfl (one_of HT_.out (by kernel_rfl)) (by decide) (fun K hK => ?_)
                refine Kd.R_append_rows_step (Kd.int .i64) (w0 := w) w.heap.size (by rfl) (.tmp 52) (.tmp 55) 32 3 (.int .i64 0) 8 rfl Tryd.underlying32 info3 rfl (by decide) (by omega) v206 y205 y208 _ _ _ (fun k_ => some k_ ≠ (.slice (some ad199) x7_2.length co42 : Value).ownBlock) (fun _ => False) rfl rfl ?aO ?aR (fun _ _ h => h) (fun _ h => h.elim) ?aF ?aB ?aS ?aL ?_
                (case aR => repeat (first | exact (by repeat (first | (with_reducible exact HR211.out) | (with_reducible refine Kd.C_alloc ?_ _) | (with_reducible refine Kd.C_drewN ?_ _) | (with_reducible refine Kd.C_drew ?_) | exact HR211.out)) | (with_reducible refine Kd.C_alloc ?_ _) | (with_reducible refine Kd.C_drewN ?_ _) | (with_reducible refine Kd.C_drew ?_)))
                (case aB => exact (by repeat (first | (with_reducible first | exact HB.out | apply below_alloc | apply pw_below_drewN | apply below_drew1) | exact HB.out)))
                (case aF => exact (fun k_ hk => Kd.fresh' (Kd.R_lt (by (with_reducible repeat (first | apply Kd.R_alloc | apply Kd.R_drewN | apply Kd.R_drew)); exact HO_7.out)) k_ hk))
                (case aO => exact (by (with_reducible repeat (first | apply Kd.R_alloc | apply Kd.R_drewN | apply Kd.R_drew)); exact Kd.R_mono HO207.out (fun _ hk => hk.2)))
                (case aS => exact (below_size (by repeat (first | (with_reducible first | exact HB.out | apply below_alloc | apply pw_below_drewN | apply below_drew1) | exact HB.out))))
                (case aL => have := LMc38.out; omega)
                intro v213 w49 ho hb hg hat
                rw [← Ny212.out] at ho
                have n0_ := Aside0.mk (Kd.R_after (ok := (fun _ => True)) (by (with_reducible repeat (first | apply Kd.R_alloc | apply Kd.R_drewN | apply Kd.R_drew)); exact HO_7.out) hg hat)
                have n1_ := Aside0.mk (Kd.R_over' (by (with_reducible repeat (first | apply Kd.R_alloc | apply Kd.R_drewN | apply Kd.R_drew)); exact HO204.out) (Kd.R_typed (by (with_reducible repeat (first | apply Kd.R_alloc | apply Kd.R_drewN | apply Kd.R_drew)); exact HO207.out)) (by decide) hg)
                have n2_ := Aside0.mk (hb)
                have n3_ := Aside0.mk ((show Kd.C (Kd.int .i64) w49 (some ad199) y208.length y208 from by rw [Ny208.out]; exact Kd.C_take (m := 0) ((Kd.R_reads' (Kd.R_after (ok := (fun _ => True)) (by (with_reducible repeat (first | apply Kd.R_alloc | apply Kd.R_drewN | apply Kd.R_drew)); exact HO_7.out) hg hat)).2.2) KL45.out))
                have n4_ := Aside0.mk ((show Kd.C (Kd.int .i64) w49 A46 y215.length y215 from by rw [Ny215.out, KA46.out]; exact Kd.C_drop (m := 1) (c := co42) ((Kd.R_reads' (Kd.R_after (ok := (fun _ => True)) (by (with_reducible repeat (first | apply Kd.R_alloc | apply Kd.R_drewN | apply Kd.R_drew)); exact HO_7.out) hg hat)).2.2) KL46.out ((Kd.R_reads' (Kd.R_after (ok := (fun _ => True)) (by (with_reducible repeat (first | apply Kd.R_alloc | apply Kd.R_drewN | apply Kd.R_drew)); exact HO_7.out) hg hat)).2.1)))
                have n5_ := Aside0.mk (ho)
                clear HO_7
                clear HO204
                clear HB
                clear HR211
                clear HR218
                clear HO207
                have HO_7 := n0_
                have HO204 := n1_
                have HB := n2_
                have HR211 := n3_
                have HR218 := n4_
                have HO214 := n5_
                clear n0_ n1_ n2_ n3_ n4_ n5_
                clear ho hb hg hat
                refine hK.out _ _ trivial (fun hHeld => ?_)
                clear hK K
                refine norm_ (a' := ?_) ?_ ?_
                rotate_left
                ·show Act.put _ (some 56) _ = _
                 simp only [Act.put, List.setIfInBounds_toArray, List.set_cons_zero, List.set_cons_succ, i64_w, i32_w]
                 rfl
                refine one_ (i := 9) (N := some 61) #[true, true, true, true, true, true, true, true, true, true, false] rfl rfl (one_of HT_.out (by kernel_rfl)) (by decide) (fun K hK => ?_)
                refine Kd.R_append_rows_step (Kd.int .i64) (w0 := w) w.heap.size (by rfl) (.tmp 56) (.tmp 60) 32 3 (.int .i64 0) 8 rfl Tryd.underlying32 info3 rfl (by decide) (by omega) v213 y212 y215 _ _ _ (fun k_ => some k_ ≠ (.slice (some ad199) x7_2.length co42 : Value).ownBlock) (fun _ => False) rfl rfl ?aO ?aR (fun _ _ h => h) (fun _ h => h.elim) ?aF ?aB ?aS ?aL ?_
                (case aR => repeat (first | exact (by repeat (first | (with_reducible exact HR218.out) | (with_reducible refine Kd.C_alloc ?_ _) | (with_reducible refine Kd.C_drewN ?_ _) | (with_reducible refine Kd.C_drew ?_) | exact HR218.out)) | (with_reducible refine Kd.C_alloc ?_ _) | (with_reducible refine Kd.C_drewN ?_ _) | (with_reducible refine Kd.C_drew ?_)))
                (case aB => exact (by repeat (first | (with_reducible first | exact HB.out | apply below_alloc | apply pw_below_drewN | apply below_drew1) | exact HB.out)))
                (case aF => exact (fun k_ hk => Kd.fresh' (Kd.R_lt (by (with_reducible repeat (first | apply Kd.R_alloc | apply Kd.R_drewN | apply Kd.R_drew)); exact HO_7.out)) k_ hk))
                (case aO => exact (by (with_reducible repeat (first | apply Kd.R_alloc | apply Kd.R_drewN | apply Kd.R_drew)); exact HO214.out))
                (case aS => exact (below_size (by repeat (first | (with_reducible first | exact HB.out | apply below_alloc | apply pw_below_drewN | apply below_drew1) | exact HB.out))))
                (case aL => have := LMc40.out; omega)
                intro v220 w50 ho hb hg hat
                rw [← Ny219.out] at ho
                have n0_ := Aside0.mk (Kd.R_after (ok := (fun _ => True)) (by (with_reducible repeat (first | apply Kd.R_alloc | apply Kd.R_drewN | apply Kd.R_drew)); exact HO_7.out) hg hat)
                have n1_ := Aside0.mk (Kd.R_over' (by (with_reducible repeat (first | apply Kd.R_alloc | apply Kd.R_drewN | apply Kd.R_drew)); exact HO204.out) (Kd.R_typed (by (with_reducible repeat (first | apply Kd.R_alloc | apply Kd.R_drewN | apply Kd.R_drew)); exact HO214.out)) (by decide) hg)
                have n2_ := Aside0.mk (hb)
                have n3_ := Aside0.mk ((show Kd.C (Kd.int .i64) w50 (some ad199) y208.length y208 from by rw [Ny208.out]; exact Kd.C_take (m := 0) ((Kd.R_reads' (Kd.R_after (ok := (fun _ => True)) (by (with_reducible repeat (first | apply Kd.R_alloc | apply Kd.R_drewN | apply Kd.R_drew)); exact HO_7.out) hg hat)).2.2) KL45.out))
                have n4_ := Aside0.mk ((show Kd.C (Kd.int .i64) w50 A46 y215.length y215 from by rw [Ny215.out, KA46.out]; exact Kd.C_drop (m := 1) (c := co42) ((Kd.R_reads' (Kd.R_after (ok := (fun _ => True)) (by (with_reducible repeat (first | apply Kd.R_alloc | apply Kd.R_drewN | apply Kd.R_drew)); exact HO_7.out) hg hat)).2.2) KL46.out ((Kd.R_reads' (Kd.R_after (ok := (fun _ => True)) (by (with_reducible repeat (first | apply Kd.R_alloc | apply Kd.R_drewN | apply Kd.R_drew)); exact HO_7.out) hg hat)).2.1)))
                have n5_ := Aside0.mk (ho)
                clear HO_7
                clear HO204
                clear HB
                clear HR211
                clear HR218
                clear HO214
                have HO_7 := n0_
                have HO204 := n1_
                have HB := n2_
                have HR211 := n3_
                have HR218 := n4_
                have HO221 := n5_
                clear n0_ n1_ n2_ n3_ n4_ n5_
                clear ho hb hg hat
                refine hK.out _ _ trivial (fun hHeld => ?_)
                clear hK K
                refine norm_ (a' := ?_) ?_ ?_
                rotate_left
                ·show Act.put _ (some 61) _ = _
                 simp only [Act.put, List.setIfInBounds_toArray, List.set_cons_zero, List.set_cons_succ, i64_w, i32_w]
                 rfl
                refine pure_ (i := 10) (N := some 7) (v := ?_) (a' := ?_) #[true, true, true, true, true, true, true, true, true, true, true] rfl rfl (any_of HT_.out (by kernel_rfl)) (fun _ _ _ h => h) (Or.inl ⟨by rfl, ?_⟩) ?_ ?_
                rotate_left
                ·intro w'
                 go_simp
                 with_reducible rfl
                rotate_left
                ·simp only [Act.put, List.setIfInBounds_toArray, List.set_cons_zero, List.set_cons_succ, i64_w, i32_w]
                 rfl
                refine done_ (done_of HT_.out (by kernel_rfl)) ?_
                try go_wp2
                go_roundg k2
                case measure => have := HK1.out; have := HK2.out; omega
                case rel => exact ⟨(y219), (y202), (wrap64 (x23_2 + 1)), (by first | rfl | (simp; done) | (simp [*]; done)), H', ⟨by have := HK1.out; have := HK2.out; omega⟩, ⟨by (with_reducible repeat (first | apply Kd.R_alloc | apply Kd.R_drewN | apply Kd.R_drew)); exact Kd.R_mono HO221.out (fun _ hk => trivial)⟩, ⟨by (with_reducible repeat (first | apply Kd.R_alloc | apply Kd.R_drewN | apply Kd.R_drew)); exact HO204.out⟩, ⟨by repeat (first | (with_reducible first | exact HB.out | apply below_alloc | apply pw_below_drewN | apply below_drew1) | exact HB.out)⟩⟩
               ·rw [if_neg c40] at H
                exact absurd H (by simp)
              ·rw [if_neg c39] at H
               exact absurd H (by simp)
             ·rw [if_neg c38] at H
              exact absurd H (by simp)
            ·rw [if_neg c37] at H
             exact absurd H (by simp)
           ·rw [if_neg c36] at H
            exact absurd H (by simp)
          ·rw [if_neg c35] at H
           exact absurd H (by simp)
         ·rw [if_neg c34] at H
          exact absurd H (by simp)
        ·rw [if_neg c33] at H
         exact absurd H (by simp)
      ·rw [if_neg c7] at H
       have c7b0 : decide (x23_2 < a1) = false := decide_eq_false c7
       clear c7
       obtain rfl := Option.some.inj H
       go_wp2
       go_ret
       exact ⟨_, by first | rfl | (simp [errW_none, errW_some] <;> rfl) | (simp [*, errW_none, errW_some] <;> rfl), by (with_reducible repeat (first | apply Kd.R_alloc | apply Kd.R_drewN | apply Kd.R_drew)); exact HO_9.out, by repeat (first | (with_reducible first | exact HB.out | apply below_alloc | apply pw_below_drewN | apply below_drew1) | exact HB.out)⟩

end Go.Proofs.YtpmnhlbkgeiomaaDoor.PS
namespace Go.Proofs.YtpmnhlbkgeiomaaDoor.PS
open Go.RowKit Go.Proofs.YtpmnhlbkgeiomaaDoorW.PrintWords Go.Proofs.YtpmnhlbkgeiomaaDoorW.PrintLast Go.Proofs.YtpmnhlbkgeiomaaDoorW.PrintMore Go.Proofs.YtpmnhlbkgeiomaaDoor.Gf Go.Proofs.YtpmnhlbkgeiomaaDoor.Fld Go.Proofs.YtpmnhlbkgeiomaaDoor.Grd Go.Proofs.YtpmnhlbkgeiomaaDoor.Rowb
set_option linter.unusedVariables false
set_option linter.unusedSimpArgs false
/-- Shards that are there, each once. -/
structure Picked (all : List ByteArray) (l : List S37) : Prop where
  rng : ∀ x, x ∈ l → 0 ≤ x.f0 ∧ x.f0 < (all.length : Int) ∧ x.f1 = rdOf ByteArray.empty all x.f0
  nodup : (l.map fun x => x.f0).Nodup
theorem rd_get (l : List Int) (i : Nat) (h : i < l.length) : rd l (i : Int) = l[i] := by
  unfold rd
  rw [Int.toNat_natCast, getD_lt _ _ _ h]
theorem some_start (all : List ByteArray) (K : Int) (picks : List Int) (hn : all.length ≤ 255) (d : Nat) : ∀ i, i + d = all.length → ∀ k, d + 1 ≤ k →
    ∃ k', k = k' + d + 1 ∧ corncriblaw04_some.l0 k all K picks ((List.range i).map fun x : Nat => (x : Int)) (all.length : Int) (i : Int) = corncriblaw04_some.l1 k' all picks ((List.range all.length).map fun x : Nat => (x : Int)) [] K 0 := by
  induction d with
  | zero =>
    intro i hi k hk
    obtain ⟨m, rfl, _⟩ := pred_of (K := 0) hk
    refine ⟨m, rfl, ?_⟩
    simp only [corncriblaw04_some.l0]
    rw [if_neg (by omega), show i = all.length by omega]
  | succ d ih =>
    intro i hi k hk
    obtain ⟨m, rfl, hm⟩ := pred_of hk
    obtain ⟨k', hk', e⟩ := ih (i + 1) (by omega) m hm
    refine ⟨k', by omega, ?_⟩
    simp only [corncriblaw04_some.l0]
    rw [if_pos (by omega), if_pos (by simp; omega), w64_in ((i : Int) + 1) (by omega) (by omega)]
    have e2 : ((List.range i).map fun x : Nat => (x : Int)) ++ [(i : Int)] = (List.range (i + 1)).map fun x : Nat => (x : Int) := by rw [List.range_succ, List.map_append]; rfl
    rw [e2]
    exact e
theorem left_step {out : List S37} {left : List Int} {all : List ByteArray} (a : Nat) (ha : a < left.length) (h1 : ∀ x, x ∈ out → 0 ≤ x.f0 ∧ x.f0 < (all.length : Int) ∧ x.f1 = rdOf ByteArray.empty all x.f0) (h2 : ∀ x, x ∈ left → 0 ≤ x ∧ x < (all.length : Int)) (h3 : ((out.map fun x => x.f0) ++ left).Nodup) :
    (∀ x, x ∈ out ++ [(⟨left[a], rdOf ByteArray.empty all left[a]⟩ : S37)] → 0 ≤ x.f0 ∧ x.f0 < (all.length : Int) ∧ x.f1 = rdOf ByteArray.empty all x.f0) ∧ (∀ x, x ∈ left.take a ++ left.drop (a + 1) → 0 ≤ x ∧ x < (all.length : Int)) ∧
    (((out ++ [(⟨left[a], rdOf ByteArray.empty all left[a]⟩ : S37)]).map fun x => x.f0) ++ (left.take a ++ left.drop (a + 1))).Nodup := by
  have hx := h2 _ (List.getElem_mem ha)
  refine ⟨fun x hm => ?_, fun x hm => ?_, ?_⟩
  · rcases List.mem_append.1 hm with hm | hm
    · exact h1 x hm
    · rw [List.mem_singleton.1 hm]
      exact ⟨hx.1, hx.2, rfl⟩
  · rcases List.mem_append.1 hm with hm | hm
    · exact h2 x (List.mem_of_mem_take hm)
    · exact h2 x (List.mem_of_mem_drop hm)
  · have e : left = left.take a ++ left[a] :: left.drop (a + 1) := by rw [List.getElem_cons_drop, List.take_append_drop]
    have hp : left.Perm (left[a] :: (left.take a ++ left.drop (a + 1))) := by
      conv => lhs; rw [e]
      exact List.perm_middle
    rw [List.map_append, List.append_assoc]
    exact (List.Perm.nodup_iff (List.Perm.append_left _ hp)).1 h3
theorem some_from (all : List ByteArray) (K : Nat) (picks : List Int) (hn : all.length ≤ 255) (hK : K ≤ all.length) (hp : ∀ x, x ∈ picks → -9223372036854775808 ≤ x ∧ x ≤ 9223372036854775807) (d : Nat) : ∀ i (out : List S37) (left : List Int), i + d = K → out.length = i → left.length + i = all.length →
    (∀ x, x ∈ out → 0 ≤ x.f0 ∧ x.f0 < (all.length : Int) ∧ x.f1 = rdOf ByteArray.empty all x.f0) → (∀ x, x ∈ left → 0 ≤ x ∧ x < (all.length : Int)) → ((out.map fun x => x.f0) ++ left).Nodup → ∀ k, d + 1 ≤ k →
    ∃ r, corncriblaw04_some.l1 k all picks left out (K : Int) (i : Int) = some r ∧ r.length = K ∧ Picked all r := by
  induction d with
  | zero =>
    intro i out left hi ho hl h1 h2 h3 k hk
    obtain ⟨m, rfl, _⟩ := pred_of (K := 0) hk
    refine ⟨out, ?_, by omega, h1, ?_⟩
    · simp only [corncriblaw04_some.l1]
      rw [if_neg (by omega)]
    · exact (List.nodup_append.1 h3).1
  | succ d ih =>
    intro i out left hi ho hl h1 h2 h3 k hk
    obtain ⟨m, rfl, hm⟩ := pred_of hk
    have key : ∀ a : Nat, a < left.length → ∃ r, corncriblaw04_some.l1 m all picks (left.take a ++ left.drop (a + 1)) (out ++ [(⟨rd left (a : Int), rdOf ByteArray.empty all (rd left (a : Int))⟩ : S37)]) (K : Int) ((i + 1 : Nat) : Int) = some r ∧ r.length = K ∧ Picked all r := fun a ha => by
      obtain ⟨q1, q2, q3⟩ := left_step (out := out) (all := all) a ha h1 h2 h3
      rw [rd_get left a ha]
      exact ih (i + 1) _ _ (by omega) (by simp; omega) (by rw [List.length_append, List.length_take, List.length_drop]; omega) q1 q2 q3 m hm
    simp only [corncriblaw04_some.l1]
    rw [if_pos (by omega)]
    by_cases hip : (i : Int) < (picks.length : Int)
    · have hil : i < picks.length := by omega
      have hpr := hp _ (List.getElem_mem hil)
      obtain ⟨a, ha, e⟩ := among_f picks[i] left.length hpr.1 hpr.2 (by omega) (by omega)
      have hx := h2 _ (List.getElem_mem ha)
      obtain ⟨r, hr, hr2⟩ := key a ha
      refine ⟨r, ?_, hr2⟩
      rw [if_pos hip, if_pos (by omega), rd_get picks i hil, e, Option.bind_some, if_pos (by omega), if_pos (by omega), if_pos (by rw [rd_get left a ha]; exact hx.1), if_pos (by rw [rd_get left a ha]; exact hx.2), if_pos (by omega), Option.bind_some, if_pos (by omega), Option.bind_some, if_pos (by rw [List.length_take, List.length_nil]; omega), Option.bind_some, w64_in ((a : Int) + 1) (by omega) (by omega), if_pos (by omega), if_pos (by omega), Option.bind_some, Int.toNat_natCast, show ((a : Int) + 1).toNat = a + 1 by omega, if_pos (by rw [List.length_append, List.length_take, List.length_drop, List.length_nil]; omega), w64_in ((i : Int) + 1) (by omega) (by omega), List.nil_append]
      exact hr
    · have ha : 0 < left.length := by omega
      have hx := h2 _ (List.getElem_mem ha)
      obtain ⟨r, hr, hr2⟩ := key 0 ha
      have e0 : rd left 0 = left[0] := rd_get left 0 ha
      refine ⟨r, ?_, hr2⟩
      rw [if_neg hip, if_pos (by omega), if_pos (by rw [e0]; exact hx.1), if_pos (by rw [e0]; exact hx.2), if_pos (by omega), Option.bind_some, if_pos (by omega), Option.bind_some, if_pos (by simp), Option.bind_some, if_pos (by omega), Option.bind_some, if_pos (by simp; omega), w64_in ((i : Int) + 1) (by omega) (by omega), List.nil_append]
      exact hr
theorem some_f (all : List ByteArray) (K : Nat) (picks : List Int) (hn : all.length ≤ 255) (hK : K ≤ all.length) (hp : ∀ x, x ∈ picks → -9223372036854775808 ≤ x ∧ x ≤ 9223372036854775807) (k : Nat) (hk : all.length + K + 2 ≤ k) :
    ∃ r, corncriblaw04_some.f k all (K : Int) picks = some r ∧ r.length = K ∧ Picked all r := by
  obtain ⟨k', hk', e⟩ := some_start all (K : Int) picks hn all.length 0 (by omega) k (by omega)
  unfold corncriblaw04_some.f
  have e' : corncriblaw04_some.l0 k all (K : Int) picks [] (all.length : Int) 0 = _ := e
  rw [e']
  refine some_from all K picks hn hK hp K 0 [] _ (by omega) rfl (by simp) (fun x h => by cases h) (fun x h => ?_) ?_ k' (by omega)
  · obtain ⟨i, hi, rfl⟩ := List.mem_map.1 h
    have := List.mem_range.1 hi
    omega
  · simp only [List.map_nil, List.nil_append]
    exact nodup_map_of (fun a _ b _ e => by omega) List.nodup_range
/-- Shards of an object, each once, are good; they make the object's shards. -/
theorem picked_good {K M : Nat} {o : ByteArray} {l : List S37} (h1 : 1 ≤ K) (h2 : K + M ≤ 255) (ho : o.size ≤ 2048) (hK : K ≤ l.length) (hp : Picked (encL K M o) l) : Good K M l ∧ shardN l = sizeN K o.size := by
  have hal : (encL K M o).length = K + M := encL_len K M o
  have hsz : ∀ (i : Nat) (h : i < l.length), l[i].f1.size = sizeN K o.size := fun i h => by
    obtain ⟨a, b, c⟩ := hp.rng _ (List.getElem_mem h)
    obtain ⟨q, hq⟩ : ∃ q : Nat, l[i].f0 = (q : Int) := ⟨l[i].f0.toNat, by omega⟩
    rw [c, hq, rdOf_nat _ q (by omega)]
    exact encL_size K M o h1 _ (List.getElem_mem _)
  have h0 : shardN l = sizeN K o.size := by
    unfold shardN
    have : rd_T37 l 0 = l[0]'(by omega) := rdT_nat l 0 (by omega)
    rw [this]
    exact hsz 0 (by omega)
  refine ⟨⟨h1, h2, hK, fun i h => ?_, fun j i hj h => ?_, fun i h => ?_, ?_⟩, h0⟩
  · obtain ⟨a, b, _⟩ := hp.rng _ (List.getElem_mem h)
    rw [hal] at b
    push_cast at b
    exact ⟨a, b⟩
  · have := List.pairwise_iff_getElem.1 (List.nodup_iff_pairwise_ne.1 hp.nodup) j i (by simp; omega) (by simpa using h) hj
    simpa using this
  · rw [hsz i h]
    exact h0.symm
  · have := sizeN_small K o.size h1 (by omega) ho
    unfold shardN at h0
    omega
theorem encL_all (K M : Nat) (o : ByteArray) : encL K M o = allL K M (sizeN K o.size) (splitL K o) := rfl
theorem picked_data {K M : Nat} {o : ByteArray} {l : List S37} (h1 : 1 ≤ K) (h2 : K + M ≤ 255) (ho : o.size ≤ 2048) (hK : K ≤ l.length) (hp : Picked (encL K M o) l) : dataL K M l = splitL K o := by
  obtain ⟨g, hn⟩ := picked_good h1 h2 ho hK hp
  refine g.recover (splitL K o) (splitL_len K o) (by rw [hn]; exact splitL_size K o h1) (fun i hi => ?_)
  have hil : i < l.length := by omega
  obtain ⟨a, b, c⟩ := hp.rng _ (List.getElem_mem hil)
  have hal : (encL K M o).length = K + M := encL_len K M o
  obtain ⟨q, hq⟩ : ∃ q : Nat, l[i].f0 = (q : Int) := ⟨l[i].f0.toNat, by omega⟩
  have hq2 : q < K + M := by omega
  rw [c, hq, rdOf_nat _ q (by omega), Int.toNat_natCast, hn]
  exact allL_at (splitL_len K o) (splitL_size K o h1) q hq2
end Go.Proofs.YtpmnhlbkgeiomaaDoor.PS
namespace Go.Proofs.YtpmnhlbkgeiomaaDoor.PS
open Go.RowKit Go.Proofs.YtpmnhlbkgeiomaaDoorW.PrintWords Go.Proofs.YtpmnhlbkgeiomaaDoorW.PrintLast Go.Proofs.YtpmnhlbkgeiomaaDoorW.PrintMore Go.Proofs.YtpmnhlbkgeiomaaDoor.Gf Go.Proofs.YtpmnhlbkgeiomaaDoor.Fld Go.Proofs.YtpmnhlbkgeiomaaDoor.Grd Go.Proofs.YtpmnhlbkgeiomaaDoor.Rowb
open Go.Lib (byteCells byteCells_length)
set_option linter.unusedVariables false
set_option linter.unusedSectionVars false
set_option linter.unusedSimpArgs false
def turned (o : ByteArray) (p : Nat) : ByteArray := txt (o.data.toList.set p (o.data.toList.getD p 0 ^^^ 1))
theorem turned_size (o : ByteArray) (p : Nat) : (turned o p).size = o.size := by
  unfold turned
  rw [txt_size, List.length_set, Array.length_toList]
  rfl
end Go.Proofs.YtpmnhlbkgeiomaaDoor.PS
namespace Go.Proofs.YtpmnhlbkgeiomaaDoor.PS
open Go.RowKit Go.Proofs.YtpmnhlbkgeiomaaDoorW.PrintWords Go.Proofs.YtpmnhlbkgeiomaaDoorW.PrintLast Go.Proofs.YtpmnhlbkgeiomaaDoorW.PrintMore Go.Proofs.YtpmnhlbkgeiomaaDoor.Gf Go.Proofs.YtpmnhlbkgeiomaaDoor.Fld Go.Proofs.YtpmnhlbkgeiomaaDoor.Grd Go.Proofs.YtpmnhlbkgeiomaaDoor.Rowb
set_option linter.unusedVariables false
set_option linter.unusedSectionVars false
set_option linter.unusedSimpArgs false
theorem agGo_iff (L : List ByteArray) (l : List S37) : ∀ d i, i + d = l.length → (agGo L l d i = true ↔ ∀ (j : Nat) (h : j < l.length), i ≤ j → (rdOf ByteArray.empty L l[j].f0).toList = l[j].f1.toList)
  | 0, i, hi => ⟨fun _ j h hij => by omega, fun _ => rfl⟩
  | d + 1, i, hi => by
    have ih := agGo_iff L l d (i + 1) (by omega)
    have hil : i < l.length := by omega
    unfold agGo
    rw [rdT_nat l i hil]
    by_cases e : (rdOf ByteArray.empty L l[i].f0).toList = l[i].f1.toList
    · rw [if_pos e, ih]
      refine ⟨fun h j hj hij => ?_, fun h j hj hij => h j hj (by omega)⟩
      by_cases e2 : j = i
      · subst e2; exact e
      · exact h j hj (by omega)
    · rw [if_neg e]
      exact ⟨(fun h => by cases h), fun h => absurd (h i hil (Nat.le_refl _)) e⟩
theorem agree_iff (L : List ByteArray) (l : List S37) : agreeB L l = true ↔ ∀ (j : Nat) (h : j < l.length), (rdOf ByteArray.empty L l[j].f0).toList = l[j].f1.toList := by
  unfold agreeB
  rw [agGo_iff L l l.length 0 (by omega)]
  exact ⟨fun h j hj => h j hj (Nat.zero_le _), fun h j hj _ => h j hj⟩
theorem agree_true {K M : Nat} {o : ByteArray} {l : List S37} (hp : Picked (encL K M o) l) : agreeB (encL K M o) l = true := by
  rw [agree_iff]
  intro j h
  rw [(hp.rng _ (List.getElem_mem h)).2.2]
theorem dotn_xor (n : Nat) (r d e : Nat → UInt8) : dotn n r (fun j => d j ^^^ e j) = dotn n r d ^^^ dotn n r e := by
  unfold dotn
  rw [← xs_xor]
  exact xs_congr (fun j _ => gmul_xor _ _ _)
theorem xor_self0 (a : UInt8) : a ^^^ a = 0 := by simp
/-- Shards that all agree with what the first make, and all but one of which are a code's own, are all of it. -/
theorem agree_all {K M : Nat} {l : List S37} (g : Good K M l) (hl : l.length = K + 1) (D : List ByteArray) (hD : D.length = K) (hs : ∀ s, s ∈ D → s.size = shardN l) (i : Nat) (hi : i < l.length)
    (hx : ∀ (j : Nat) (h : j < l.length), j ≠ i → l[j].f1 = txt (accC (genAt K l[j].f0.toNat) (shardN l) D K)) (ha : agreeB (allL K M (shardN l) (dataL K M l)) l = true) :
    l[i].f1 = txt (accC (genAt K l[i].f0.toNat) (shardN l) D K) := by
  rw [agree_iff] at ha
  have hD' : (dataL K M l).length = K := g.dataLen
  have hs' := g.dataSize
  have hall : ∀ (j : Nat) (h : j < l.length), l[j].f1 = txt (accC (genAt K l[j].f0.toNat) (shardN l) (dataL K M l) K) := fun j h => by
    have h1 := ha j h
    have hr := g.rng j h
    obtain ⟨q, hq⟩ : ∃ q : Nat, l[j].f0 = (q : Int) := ⟨l[j].f0.toNat, by omega⟩
    rw [hq, rdOf_nat _ q (by rw [allL_len hD']; omega), allL_at hD' hs' q (by omega), Lib.toList_data, Lib.toList_data] at h1
    rw [hq, Int.toNat_natCast]
    apply ByteArray.ext
    apply Array.ext'
    exact h1.symm
  have hz : ∀ t, t < shardN l → ∀ j, j < K → dAt (dataL K M l) j t ^^^ dAt D j t = 0 := fun t ht => by
    have hrows : (((l.eraseIdx i).map fun x => x.f0.toNat)).length = K := by rw [List.length_map, List.length_eraseIdx_of_lt hi]; omega
    have hmem : ∀ x, x ∈ l.eraseIdx i → ∃ (j : Nat) (h : j < l.length), j ≠ i ∧ x = l[j] := fun x hm => by
      obtain ⟨j, hj, rfl⟩ := List.getElem_of_mem hm
      rw [List.length_eraseIdx_of_lt hi] at hj
      rw [List.getElem_eraseIdx]
      split
      · exact ⟨j, by omega, by omega, rfl⟩
      · exact ⟨j + 1, by omega, by omega, rfl⟩
    have hnd : (l.map fun x => x.f0.toNat).Nodup := by
      rw [List.nodup_iff_pairwise_ne, List.pairwise_iff_getElem]
      intro a b ha' hb' hab
      simp only [List.getElem_map]
      have hb2 : b < l.length := by simpa using hb'
      have h1 := g.dist a b hab hb2
      have h2 := g.rng a (by omega)
      have h3 := g.rng b hb2
      omega
    refine mds K (K + M) (by have := g.km; omega) ((l.eraseIdx i).map fun x => x.f0.toNat) (fun r hr => ?_) (by omega) hrows ?_ (fun j => dAt (dataL K M l) j t ^^^ dAt D j t) (fun r hr => ?_)
    · obtain ⟨x, hxm, rfl⟩ := List.mem_map.1 hr
      obtain ⟨j, hj, _, rfl⟩ := hmem x hxm
      have := g.rng j hj
      omega
    · exact List.Sublist.nodup (List.Sublist.map _ (List.eraseIdx_sublist l i)) hnd
    · obtain ⟨x, hxm, rfl⟩ := List.mem_map.1 hr
      obtain ⟨j, hj, hji, rfl⟩ := hmem x hxm
      have e : txt (accC (genAt K l[j].f0.toNat) (shardN l) (dataL K M l) K) = txt (accC (genAt K l[j].f0.toNat) (shardN l) D K) := (hall j hj).symm.trans (hx j hj hji)
      have e2 : (accC (genAt K l[j].f0.toNat) (shardN l) (dataL K M l) K).getD t 0 = (accC (genAt K l[j].f0.toNat) (shardN l) D K).getD t 0 := by
        have := congrArg (fun s : ByteArray => s.data.toList.getD t 0) e
        simpa only [txt_list] using this
      rw [accC_dotn _ _ _ _ _ ht, accC_dotn _ _ _ _ _ ht] at e2
      rw [dotn_xor, e2, xor_self0]
  rw [hall i hi]
  congr 1
  unfold accC
  refine List.map_congr_left (fun t ht => ?_)
  refine xs_congr (fun j hj => ?_)
  rw [xor_eq_zero (hz t (List.mem_range.1 ht) j (List.mem_range.1 hj))]
theorem flip_ne (x : UInt8) : x ^^^ 1 ≠ x := fun e => by
  have h := congrArg (fun y => x ^^^ y) e
  simp only [← UInt8.xor_assoc, UInt8.xor_self, UInt8.zero_xor] at h
  exact absurd h (by decide)
theorem turned_ne (s : ByteArray) (p : Nat) (hp : p < s.size) : turned s p ≠ s := fun e => by
  have hl : p < s.data.toList.length := by rw [Array.length_toList]; exact hp
  have h1 := congrArg (fun u : ByteArray => u.data.toList.getD p 0) e
  unfold turned at h1
  simp only [txt_list] at h1
  rw [getD_lt _ _ _ (by rw [List.length_set]; exact hl), List.getElem_set_self, getD_lt _ _ _ hl] at h1
  exact flip_ne _ h1
def turnL (l : List S37) (i p : Nat) (h : i < l.length) : List S37 := l.set i ⟨l[i].f0, turned l[i].f1 p⟩
section
variable {K M : Nat} {o : ByteArray} {l : List S37} (h1 : 1 ≤ K) (h2 : K + M ≤ 255) (ho : o.size ≤ 2048) (hl : l.length = K + 1) (hp : Picked (encL K M o) l) (i p : Nat) (hi : i < l.length)
include h1 h2 ho hl hp
theorem turnL_good : Good K M (turnL l i p hi) ∧ shardN (turnL l i p hi) = shardN l := by
  obtain ⟨g, hn⟩ := picked_good h1 h2 ho (by omega) hp
  have hlen : (turnL l i p hi).length = l.length := by simp [turnL]
  have h0 : ∀ (j : Nat) (h : j < (turnL l i p hi).length), (turnL l i p hi)[j].f0 = (l[j]'(by omega)).f0 ∧ (turnL l i p hi)[j].f1.size = (l[j]'(by omega)).f1.size := fun j h => by
    simp only [turnL, List.getElem_set]
    split
    · rename_i e
      subst e
      exact ⟨rfl, turned_size _ _⟩
    · exact ⟨rfl, rfl⟩
  have hs : shardN (turnL l i p hi) = shardN l := by
    unfold shardN
    have e1 : rd_T37 (turnL l i p hi) 0 = (turnL l i p hi)[0]'(by omega) := rdT_nat _ 0 (by omega)
    have e2 : rd_T37 l 0 = l[0]'(by omega) := rdT_nat l 0 (by omega)
    rw [e1, e2]
    exact (h0 0 (by omega)).2
  refine ⟨⟨h1, h2, by omega, fun j h => ?_, fun a b hab h => ?_, fun j h => ?_, ?_⟩, hs⟩
  · rw [(h0 j h).1]; exact g.rng j (by omega)
  · rw [(h0 a (by omega)).1, (h0 b h).1]; exact g.dist a b hab (by omega)
  · rw [(h0 j h).2]
    have e : (rd_T37 (turnL l i p hi) 0).f1.size = (rd_T37 l 0).f1.size := hs
    rw [e]
    exact g.size j (by omega)
  · have e : (rd_T37 (turnL l i p hi) 0).f1.size = (rd_T37 l 0).f1.size := hs
    rw [e]
    exact g.most
theorem turnL_false (hpn : p < sizeN K o.size) : agreeB (allL K M (shardN (turnL l i p hi)) (dataL K M (turnL l i p hi))) (turnL l i p hi) = false := by
  obtain ⟨g, hn⟩ := picked_good h1 h2 ho (by omega) hp
  obtain ⟨g', hn'⟩ := turnL_good h1 h2 ho hl hp i p hi
  have hlen : (turnL l i p hi).length = l.length := by simp [turnL]
  cases hb : agreeB (allL K M (shardN (turnL l i p hi)) (dataL K M (turnL l i p hi))) (turnL l i p hi) with
  | false => rfl
  | true =>
    exfalso
    have hat : ∀ (j : Nat) (h : j < l.length), l[j].f1 = txt (accC (genAt K l[j].f0.toNat) (shardN l) (splitL K o) K) := fun j h => by
      obtain ⟨a, b, c⟩ := hp.rng _ (List.getElem_mem h)
      have hal : (encL K M o).length = K + M := encL_len K M o
      obtain ⟨q, hq⟩ : ∃ q : Nat, l[j].f0 = (q : Int) := ⟨l[j].f0.toNat, by omega⟩
      have hq2 : q < K + M := by omega
      rw [c, hq, rdOf_nat _ q (by omega), Int.toNat_natCast, hn]
      exact allL_at (splitL_len K o) (splitL_size K o h1) q hq2
    have := agree_all g' (by omega) (splitL K o) (splitL_len K o) (by rw [hn', hn]; exact splitL_size K o h1) i (by omega) (fun j h hji => by
      have hj : (turnL l i p hi)[j] = l[j]'(by omega) := by
        simp only [turnL, List.getElem_set]
        rw [if_neg (fun e => hji e.symm)]
      rw [hj, hn']
      exact hat j (by omega)) hb
    have hii : (turnL l i p hi)[i]'(by omega) = ⟨l[i].f0, turned l[i].f1 p⟩ := by simp only [turnL, List.getElem_set_self]
    rw [hii, hn'] at this
    simp only at this
    rw [← hat i hi] at this
    have hsz : l[i].f1.size = sizeN K o.size := by
      rw [g.size i hi]
      exact hn
    exact turned_ne l[i].f1 p (by omega) this
end
end Go.Proofs.YtpmnhlbkgeiomaaDoor.PS
namespace Go.Proofs.YtpmnhlbkgeiomaaDoor.PS
open Go.RowKit Go.Proofs.YtpmnhlbkgeiomaaDoorW.PrintWords Go.Proofs.YtpmnhlbkgeiomaaDoorW.PrintLast Go.Proofs.YtpmnhlbkgeiomaaDoorW.PrintMore
set_option linter.unusedVariables false
set_option linter.unusedSectionVars false
set_option linter.unusedSimpArgs false
theorem set_read {W : World} {g : Nat} {cur : Array Value} {ty : TypeId} (hb : W.heap[g]? = some (.cells cur ty (0, 0))) (i q : Nat) (v u : Value) (hq : W.cell? ⟨g, q, none⟩ = some u) : (W.setCell ⟨g, i, none⟩ v).cell? ⟨g, q, none⟩ = some (if i = q then v else u) := by
  have h1 := blk_cell (blk_put hb i v rfl) q
  have h2 := blk_cell hb q
  rw [hq] at h2
  rw [h1, Array.getElem?_setIfInBounds]
  by_cases e : i = q
  · have hs : q < cur.size := (Array.getElem?_eq_some_iff.1 h2.symm).1
    rw [if_pos e, if_pos e, if_pos (by omega)]
  · rw [if_neg e, if_neg e, ← h2]
/-- What a row of shards reads as, behind a store into one. -/
theorem shards_put {W : World} {base g cap K : Nat} {l : List S37} (h : Kd.R k37 37 W base (fun _ => True) (.slice (some ⟨g, 0, none⟩) K cap) l) (n : Nat) (hn : n < l.length) (s : ByteArray) :
    W.cell? ⟨g, n * 2 + 1, none⟩ = some (.string l[n].f1) ∧ W.frozen? ⟨g, n * 2 + 1, none⟩ = false ∧ base ≤ g ∧ Kd.C k37 (W.setCell ⟨g, n * 2 + 1, none⟩ (.string s)) (some ⟨g, 0, none⟩) l.length (l.set n ⟨l[n].f0, s⟩) := by
  obtain ⟨_, _, hC⟩ := Kd.R_reads' h
  obtain ⟨g', cap', hv, hbg, _, cur, hblk⟩ := Kd.R_form h (by omega)
  have hgg : g = g' := by injection hv with hv; injection hv with hv; injection hv
  subst hgg
  have e1 : ∀ i : Nat, (⟨g, 0, none⟩ : Addr).add i = ⟨g, i, none⟩ := fun i => by unfold Addr.add; split <;> simp_all
  have hcs : ∀ j (hj : j < l.length), W.cell? ⟨g, j * 2, none⟩ = some (.int .i64 l[j].f0) ∧ W.cell? ⟨g, j * 2 + 1, none⟩ = some (.string l[j].f1) := fun j hj => by
    obtain ⟨ad, hA, c0, c1⟩ := at_T37 hC (j : Int) (by omega) (by omega)
    obtain rfl : (⟨g, 0, none⟩ : Addr) = ad := by injection hA
    rw [rdT_nat l j hj, Int.toNat_natCast] at c0 c1
    rw [e1] at c0 c1
    exact ⟨c0, c1⟩
  refine ⟨(hcs n hn).2, blk_frozen hblk _, hbg, by rw [List.length_set], hC.2.1, fun h0 => ⟨⟨g, 0, none⟩, rfl, fun j p hj => ?_⟩⟩
  have hjl : j < l.length := by
    have := (List.getElem?_eq_some_iff.1 hj).1
    rwa [List.length_set] at this
  obtain ⟨c0, c1⟩ := hcs j hjl
  have d0 := set_read hblk (n * 2 + 1) (j * 2) (.string s) _ c0
  have d1 := set_read hblk (n * 2 + 1) (j * 2 + 1) (.string s) _ c1
  rw [if_neg (by omega)] at d0
  refine ⟨[.int .i64 p.f0, .string p.f1], rfl, k37_mk _ p, fun i u hu => ?_⟩
  rw [e1]
  have hp : p = if n = j then ⟨l[n].f0, s⟩ else l[j] := by
    rw [List.getElem?_eq_getElem (by rw [List.length_set]; exact hjl), List.getElem_set] at hj
    exact (Option.some.inj hj).symm
  have hi : i = 0 ∨ i = 1 := by
    have := (List.getElem?_eq_some_iff.1 hu).1
    simp at this
    omega
  by_cases e : n = j
  · subst e
    rw [if_pos rfl] at d1 hp
    subst hp
    rcases hi with rfl | rfl
    · simp at hu
      subst hu
      exact d0
    · simp at hu
      subst hu
      exact d1
  · rw [if_neg (by omega)] at d1
    rw [if_neg e] at hp
    subst hp
    rcases hi with rfl | rfl
    · simp at hu
      subst hu
      exact d0
    · simp at hu
      subst hu
      exact d1
end Go.Proofs.YtpmnhlbkgeiomaaDoor.PS
namespace Go.Proofs.YtpmnhlbkgeiomaaDoor.PS
open Go.RowKit Go.Proofs.YtpmnhlbkgeiomaaDoorW.PrintWords Go.Proofs.YtpmnhlbkgeiomaaDoorW.PrintLast Go.Proofs.YtpmnhlbkgeiomaaDoorW.PrintMore
attribute [local go_sem] Mk.str_leq Mk.str_gtr Mk.str_geq max2_int min2_int max_two min_two max_three min_three max_four min_four   -- for this text's walks alone
set_option linter.unusedVariables false
set_option linter.unusedSimpArgs false

/-! ### corncriblaw04_works: function 9 -/
def corncriblaw04_works.f (k : Nat)  : Option (Bool) := (stripe_Encode.f 2 1 (⟨#[97, 98, 99]⟩ : ByteArray)).bind fun bt160 => (if bt160.2 = 0 then (if (bt160.1.length : Int) = 3 then (if 2 < (bt160.1.length : Int) then (if 1 < (bt160.1.length : Int) then ((mend_Object.f k 2 1 (([(⟨2, rdOf ByteArray.empty bt160.1 2⟩ : S37), (⟨1, rdOf ByteArray.empty bt160.1 1⟩ : S37)] : List (S37)))).bind fun bt169 => (if bt169.2 = 0 then (some (bt169.1.toList == ([97, 98, 99] : List UInt8))) else (some false))) else (none)) else (none)) else (some false)) else (some false))
theorem corncriblaw04_works.mono : ∀ k, LeO (corncriblaw04_works.f k ) (corncriblaw04_works.f (k + 1) ) := by
 intro  k
 unfold corncriblaw04_works.f
 repeat' first
   | (with_reducible exact mend_Object.mono _ _ _ _)
   | (with_reducible exact LeO.refl _)
   | (with_reducible exact LeO.none _)
   | (with_reducible refine LeO.ite ?_ ?_)
   | (with_reducible refine LeO.bind ?_ (fun _ => ?_))
   | exact mend_Object.mono _ _ _ _
   | exact LeO.none _
   | refine LeO.ite ?_ ?_
   | refine LeO.bind ?_ (fun _ => ?_)
def corncriblaw04_works.T4 : Bool × List (List Nat × List Nat) := (true, [([], []), ([0], [0]), ([1], [1]), ([2], [2]), ([], []), ([4], [4]), ([5], [5]), ([6], [6]), ([3, 7], [3, 7]), ([8], [8]), ([9], [9]), ([10], [10]), ([10], [10]), ([11, 9, 0, 1, 2, 3, 4, 5, 6, 7, 8, 9, 10, 11], [11]), ([12, 13, 0, 1, 2, 3, 4, 5, 6, 7, 8, 9, 10, 11, 12, 13], [12])])
def corncriblaw04_works.B4 : List Nat := [0, 1, 3, 7, 0, 16, 48, 112, 255, 511, 1023, 2047, 2047, 4095, 16383]
theorem corncriblaw04_works.tab4 : rtab .any (opsOf Tryd.f9 4) = corncriblaw04_works.T4 := by kernel_rfl
theorem corncriblaw04_works.bits4 : waitsOk corncriblaw04_works.T4.2 corncriblaw04_works.B4 = true := by kernel_rfl
set_option maxHeartbeats 8000000 in
set_option maxRecDepth 100000 in
theorem corncriblaw04_works.calls (k : Nat)  (r : Bool) (w : World) (h : corncriblaw04_works.f k  = some r) :
  Calls Tryd.prog 9 #[] w fun e w' => e = .returned (.bool r) ∧ Below w.heap.size w w' := by
 have hu37 := Tryd.underlying37
 have HB := Aside0.mk (Below.refl w.heap.size w)
 have H : ((stripe_Encode.f 2 1 (⟨#[97, 98, 99]⟩ : ByteArray)).bind fun bt160 => (if bt160.2 = 0 then (if (bt160.1.length : Int) = 3 then (if 2 < (bt160.1.length : Int) then (if 1 < (bt160.1.length : Int) then ((mend_Object.f k 2 1 (([(⟨2, rdOf ByteArray.empty bt160.1 2⟩ : S37), (⟨1, rdOf ByteArray.empty bt160.1 1⟩ : S37)] : List (S37)))).bind fun bt169 => (if bt169.2 = 0 then (some (bt169.1.toList == ([97, 98, 99] : List UInt8))) else (some false))) else (none)) else (none)) else (some false)) else (some false))) = some r := h
 clear h
 replace H := Option.bind_eq_some_iff.mp H
 obtain ⟨⟨t160, t161⟩, A10, H⟩ := H
 replace H : (if t161 = 0 then (if (t160.length : Int) = 3 then (if 2 < (t160.length : Int) then (if 1 < (t160.length : Int) then ((mend_Object.f k 2 1 (([(⟨2, rdOf ByteArray.empty t160 2⟩ : S37), (⟨1, rdOf ByteArray.empty t160 1⟩ : S37)] : List (S37)))).bind fun bt169 => (if bt169.2 = 0 then (some (bt169.1.toList == ([97, 98, 99] : List UInt8))) else (some false))) else (none)) else (none)) else (some false)) else (some false)) = some r := H
 have A1 := Aside0.mk A10
 clear A10
 by_cases c2 : t161 = 0
 ·rw [if_pos c2] at H
  have c2b0 : (t161 == 0) = true := beq_iff_eq.mpr c2
  have c2b1 : (t161 != 0) = false := bne_eq_false_iff_eq.mpr c2
  clear c2
  by_cases c3 : (t160.length : Int) = 3
  ·rw [if_pos c3] at H
   have c3b0 : ((t160.length : Int) == 3) = true := beq_iff_eq.mpr c3
   have c3b1 : ((t160.length : Int) != 3) = false := bne_eq_false_iff_eq.mpr c3
   clear c3
   by_cases c4 : 2 < (t160.length : Int)
   ·rw [if_pos c4] at H
    have c4b0 : decide (2 < (t160.length : Int)) = true := decide_eq_true c4
    have c4b1 : decide (2 < t160.length) = true := decide_eq_true (by omega)
    clear c4
    by_cases c5 : 1 < (t160.length : Int)
    ·rw [if_pos c5] at H
     have c5b0 : decide (1 < (t160.length : Int)) = true := decide_eq_true c5
     have c5b1 : decide (1 < t160.length) = true := decide_eq_true (by omega)
     clear c5
     obtain ⟨y166, hy166⟩ : ∃ y_ : List (S37), y_ = (([(⟨2, rdOf ByteArray.empty t160 2⟩ : S37), (⟨1, rdOf ByteArray.empty t160 1⟩ : S37)] : List (S37))) := ⟨_, rfl⟩
     replace H : ((mend_Object.f k 2 1 y166).bind fun bt169 => (if bt169.2 = 0 then (some (bt169.1.toList == ([97, 98, 99] : List UInt8))) else (some false))) = some r := by first | (rw [hy166]; with_reducible exact H) | (have H2_ := (Option.bind_some _ _).symm.trans H; rw [hy166]; with_reducible exact H2_) | (have H2_ := (Option.bind_some _ _).symm.trans H; with_reducible exact H2_) | with_reducible exact H | (rw [hy166]; exact H) | exact H
     have Ny166 := Aside0.mk hy166
     clear hy166
     replace H := Option.bind_eq_some_iff.mp H
     obtain ⟨⟨t169, t170⟩, A60, H⟩ := H
     replace H : (if t170 = 0 then (some (t169.toList == ([97, 98, 99] : List UInt8))) else (some false)) = some r := H
     have A6 := Aside0.mk A60
     clear A60
     by_cases c7 : t170 = 0
     ·rw [if_pos c7] at H
      have c7b0 : (t170 == 0) = true := beq_iff_eq.mpr c7
      have c7b1 : (t170 != 0) = false := bne_eq_false_iff_eq.mpr c7
      clear c7
      obtain rfl := Option.some.inj H
      go_enter Tryd.func9, Tryd.ntmps9
      try go_wp2_with (first | ((with_reducible refine gate_callee (f := 11) rfl ?_); refine goesL_ (some 6) rfl rfl Tryd.func11 (by kernel_rfl) rfl #[.int .i64 2, .int .i64 1, .string (⟨#[97, 98, 99]⟩ : ByteArray)] rfl (by (try simp only [List.map_toArray, List.map_cons, List.map_nil]); first | done | rfl | (simp only [List.length_drop, List.length_take]; rfl)) ?_; (with_reducible refine (stripe_Encode.calls 2 1 (⟨#[97, 98, 99]⟩ : ByteArray) t160 t161 _ A1.out).mono ?_); rintro e w8 ⟨v162, rfl, ho0, hb⟩; refine ⟨_, rfl, ?_⟩; have n0_ := Aside0.mk (Kd.R_lower ho0 (below_size (by repeat (first | (with_reducible first | exact HB.out | apply below_alloc | apply pw_below_drewN | apply below_drew1) | exact HB.out)))); have n1_ := Aside0.mk (below_step (by repeat (first | (with_reducible first | exact HB.out | apply below_alloc | apply pw_below_drewN | apply below_drew1) | exact HB.out)) hb); clear HB; have HO163 := n0_; have HB := n1_; clear n0_ n1_; (try clear hb); (try clear hb2); (try clear hk); (try clear hi); (try clear ho0); obtain ⟨Ao9, co9, eo9⟩ := Kd.R_slice HO163.out; subst eo9))
      have n0_ := Aside0.mk (Kd.R_drew HO163.out)
      have n1_ := Aside0.mk (below_drew1 HB.out)
      clear HO163
      clear HB
      have HO163 := n0_
      have HB := n1_
      clear n0_ n1_
      have p164 : 0 ≤ (2 : Int) := (by omega)
      have q164 : 2 < (t160.length : Int) := of_decide_eq_true (by first | (with_reducible assumption) | assumption)
      obtain ⟨ad164, e164, hx164_0⟩ := Kd.at_string (Kd.R_reads' HO163.out).2.2 2 p164 q164
      cases e164
      (try simp only [show (2 : Int).toNat = 2 from rfl, Nat.reduceMul, Nat.reduceEqDiff, Go.Addr.add, ↓reduceIte] at hx164_0)
      have qi164 : (2 < t160.length) = True := eq_true (by omega)
      (try rw [show ((2 : Int)).toNat = 2 from rfl] at hx164_0)
      replace p164 := eq_true p164
      replace q164 := eq_true q164
      have p165 : 0 ≤ (1 : Int) := (by omega)
      have q165 : 1 < (t160.length : Int) := of_decide_eq_true (by first | (with_reducible assumption) | assumption)
      obtain ⟨ad165, e165, hx165_0⟩ := Kd.at_string (Kd.R_reads' HO163.out).2.2 1 p165 q165
      obtain rfl : ad164 = ad165 := (by injection e165)
      (try simp only [show (1 : Int).toNat = 1 from rfl, Nat.reduceMul, Nat.reduceEqDiff, Go.Addr.add, ↓reduceIte] at hx165_0)
      have qi165 : (1 < t160.length) = True := eq_true (by omega)
      (try rw [show ((1 : Int)).toNat = 1 from rfl] at hx165_0)
      replace p165 := eq_true p165
      replace q165 := eq_true q165
      refine start_ (n := 15) (S := fun w' => w'.cell? ⟨ad164.block, ad164.off + 2, none⟩ = some (.string (rdOf ByteArray.empty t160 2)) ∧ w'.cell? ⟨ad164.block, ad164.off + 1, none⟩ = some (.string (rdOf ByteArray.empty t160 1))) (ds := []) #[false, false, false, false, false, false, false, false, false, false, false, false, false, false, false] (by kernel_rfl) rfl rfl ⟨hx164_0, hx165_0⟩ (fun hHeld => ?_); refine with_tabW corncriblaw04_works.tab4 corncriblaw04_works.bits4 (fun HT_ HW_ => ?_)
      generalize w8.drew = w10 at HO163 HB hx164_0 hx165_0 hHeld ⊢
      refine pure_ (i := 0) (N := some 17) (v := ?_) (a' := ?_) #[true, false, false, false, false, false, false, false, false, false, false, false, false, false, false] rfl rfl (any_of HT_.out (by kernel_rfl)) (fun _ _ _ h => h) (Or.inl ⟨by rfl, ?_⟩) ?_ ?_
      rotate_left
      ·intro w'
       go_simp
       with_reducible rfl
      rotate_left
      ·simp only [Act.put, List.setIfInBounds_toArray, List.set_cons_zero, List.set_cons_succ, i64_w, i32_w]
       rfl
      refine pure_ (i := 1) (N := some 18) (v := ?_) (a' := ?_) #[true, true, false, false, false, false, false, false, false, false, false, false, false, false, false] rfl rfl (any_of HT_.out (by kernel_rfl)) (fun _ _ _ h => h) (Or.inl ⟨by rfl, ?_⟩) ?_ ?_
      rotate_left
      ·intro w'
       go_simp
       with_reducible rfl
      rotate_left
      ·simp only [Act.put, List.setIfInBounds_toArray, List.set_cons_zero, List.set_cons_succ, i64_w, i32_w]
       rfl
      refine pure_ (i := 4) (N := some 21) (v := ?_) (a' := ?_) #[true, true, false, false, true, false, false, false, false, false, false, false, false, false, false] rfl rfl (any_of HT_.out (by kernel_rfl)) (fun _ _ _ h => h) (Or.inl ⟨by rfl, ?_⟩) ?_ ?_
      rotate_left
      ·intro w'
       go_simp
       with_reducible rfl
      rotate_left
      ·simp only [Act.put, List.setIfInBounds_toArray, List.set_cons_zero, List.set_cons_succ, i64_w, i32_w]
       rfl
      refine pure_ (i := 5) (N := some 22) (v := ?_) (a' := ?_) #[true, true, false, false, true, true, false, false, false, false, false, false, false, false, false] rfl rfl (any_of HT_.out (by kernel_rfl)) (fun _ _ _ h => h) (Or.inl ⟨by rfl, ?_⟩) ?_ ?_
      rotate_left
      ·intro w'
       go_simp
       with_reducible rfl
      rotate_left
      ·simp only [Act.put, List.setIfInBounds_toArray, List.set_cons_zero, List.set_cons_succ, i64_w, i32_w]
       rfl
      refine take_ (i := 2) (N := some 19) (v := ?_) (a' := ?_) #[true, true, true, false, true, true, false, false, false, false, false, false, false, false, false] rfl rfl (take_ofW HT_.out HW_.out (by kernel_rfl)) (fun _ _ _ h => h) (Or.inl ⟨by rfl, ?_⟩) hHeld ?_ ?_
      rotate_left
      ·rintro w' ⟨s0, s1⟩
       go_simp
       with_reducible rfl
      rotate_left
      ·simp only [Act.put, List.setIfInBounds_toArray, List.set_cons_zero, List.set_cons_succ, i64_w, i32_w]
       rfl
      refine pure_ (i := 3) (N := some 20) (v := ?_) (a' := ?_) #[true, true, true, true, true, true, false, false, false, false, false, false, false, false, false] rfl rfl (any_of HT_.out (by kernel_rfl)) (fun _ _ _ h => h) (Or.inl ⟨by rfl, ?_⟩) ?_ ?_
      rotate_left
      ·intro w'
       go_simp
       with_reducible rfl
      rotate_left
      ·simp only [Act.put, List.setIfInBounds_toArray, List.set_cons_zero, List.set_cons_succ, i64_w, i32_w]
       rfl
      refine take_ (i := 6) (N := some 23) (v := ?_) (a' := ?_) #[true, true, true, true, true, true, true, false, false, false, false, false, false, false, false] rfl rfl (take_ofW HT_.out HW_.out (by kernel_rfl)) (fun _ _ _ h => h) (Or.inl ⟨by rfl, ?_⟩) hHeld ?_ ?_
      rotate_left
      ·rintro w' ⟨s0, s1⟩
       go_simp
       with_reducible rfl
      rotate_left
      ·simp only [Act.put, List.setIfInBounds_toArray, List.set_cons_zero, List.set_cons_succ, i64_w, i32_w]
       rfl
      refine pure_ (i := 7) (N := some 24) (v := ?_) (a' := ?_) #[true, true, true, true, true, true, true, true, false, false, false, false, false, false, false] rfl rfl (any_of HT_.out (by kernel_rfl)) (fun _ _ _ h => h) (Or.inl ⟨by rfl, ?_⟩) ?_ ?_
      rotate_left
      ·intro w'
       go_simp
       with_reducible rfl
      rotate_left
      ·simp only [Act.put, List.setIfInBounds_toArray, List.set_cons_zero, List.set_cons_succ, i64_w, i32_w]
       rfl
      refine one_ (i := 8) (N := some 25) #[true, true, true, true, true, true, true, true, true, false, false, false, false, false, false] rfl rfl (one_of HT_.out (by kernel_rfl)) (by decide) (fun K hK => ?_)
      refine Kd.R_lit_step k37 _ 37 ?hg (N := 25) ?hd (xs := ([(⟨2, rdOf ByteArray.empty t160 2⟩ : S37), (⟨1, rdOf ByteArray.empty t160 1⟩ : S37)] : List (S37))) (inner := [.int .i64 2, .string (rdOf ByteArray.empty t160 2), .int .i64 1, .string (rdOf ByteArray.empty t160 1)]) (ok := fun _ => True) (okp := fun _ => True) ?hr ?hp (fun _ hk => hk) trivial (Below.refl _ _) (Nat.le_refl _) (by simp) ?_; (case hd => rfl); (case hg => rfl); (case hr => first | (go_simp; done) | (go_simp; rfl)); (case hp => exact (Reps.c2 (show Kd.M k37 _ _ _ (⟨2, rdOf ByteArray.empty t160 2⟩ : S37) [.int .i64 2, .string (rdOf ByteArray.empty t160 2)] from (k37_mkM _ _ _ (⟨2, rdOf ByteArray.empty t160 2⟩ : S37) )) (Reps.c2 (show Kd.M k37 _ _ _ (⟨1, rdOf ByteArray.empty t160 1⟩ : S37) [.int .i64 1, .string (rdOf ByteArray.empty t160 1)] from (k37_mkM _ _ _ (⟨1, rdOf ByteArray.empty t160 1⟩ : S37) )) (Reps.none _ _))))
      intro v167 w11 ho12 hb hg_ hnew_
      have HS0_ := (hb.cell (World.block_lt_of_cell? _ _ (hHeld.1))).trans (hHeld.1)
      have HS1_ := (hb.cell (World.block_lt_of_cell? _ _ (hHeld.2))).trans (hHeld.2)
      clear hg_ hnew_
      (first | rw [← Ny166.out] at ho12 | (simp only [Int.reduceToNat] at ho12; rw [← Ny166.out] at ho12))
      have n0_ := Aside0.mk (Kd.R_below (by (with_reducible repeat (first | apply Kd.R_alloc | apply Kd.R_drewN | apply Kd.R_drew)); exact HO163.out) hb)
      have n1_ := Aside0.mk (Kd.R_lower ho12 (below_size (by repeat (first | (with_reducible first | exact HB.out | apply below_alloc | apply pw_below_drewN | apply below_drew1) | exact HB.out))))
      have n2_ := Aside0.mk (below_step (by repeat (first | (with_reducible first | exact HB.out | apply below_alloc | apply pw_below_drewN | apply below_drew1) | exact HB.out)) hb)
      clear HO163
      clear HB
      have HO163 := n0_
      have HO168 := n1_
      have HB := n2_
      clear n0_ n1_ n2_
      clear hb ho12
      obtain ⟨Ao13, co13, eo13⟩ := Kd.R_slice HO168.out
      (first | subst eo13 | (injection eo13 with f1_ f2_ f3_; have f4_ := f1_.symm; have f5_ := f3_.symm; clear f1_ f2_ f3_; subst f4_; subst f5_))
      refine hK.out _ _ ⟨HS0_, HS1_⟩ (fun hHeld => ?_)
      clear hK K
      refine norm_ (a' := ?_) ?_ ?_
      rotate_left
      ·show Act.put _ (some 25) _ = _
       simp only [Act.put, List.setIfInBounds_toArray, List.set_cons_zero, List.set_cons_succ, i64_w, i32_w]
       rfl
      refine one_ (i := 9) (N := some 26) #[true, true, true, true, true, true, true, true, true, true, false, false, false, false, false] rfl rfl (one_of HT_.out (by kernel_rfl)) (by decide) (fun K hK => ?_)
      refine goes_ Tryd.func23 (by kernel_rfl) rfl #[.int .i64 2, .int .i64 1, .slice Ao13 y166.length co13] (by rfl) rfl rfl (by (try simp only [List.map_toArray, List.map_cons, List.map_nil]); first | done | rfl | (simp only [List.length_drop, List.length_take]; rfl)) ?_
      with_reducible refine (mend_Object.calls k 2 1 _ _ y166 t169 t170 _ ?side1 ?side2 A6.out).mono ?_
      (case side1 => repeat (first | exact (Kd.R_reads' HO168.out).2.2 | (with_reducible refine Kd.C_alloc ?_ _) | (with_reducible refine Kd.C_drewN ?_ _) | (with_reducible refine Kd.C_drew ?_)))
      (case side2 => exact (Kd.R_reads' HO168.out).2.1)
      rintro e w14 ⟨rfl, hb⟩
      have HS0_ := (hb.cell (World.block_lt_of_cell? _ _ (hHeld.1))).trans (hHeld.1)
      have HS1_ := (hb.cell (World.block_lt_of_cell? _ _ (hHeld.2))).trans (hHeld.2)
      refine ⟨_, rfl, ?_⟩
      have n0_ := Aside0.mk (Kd.R_below (by (with_reducible repeat (first | apply Kd.R_alloc | apply Kd.R_drewN | apply Kd.R_drew)); exact HO163.out) hb)
      have n1_ := Aside0.mk (Kd.R_below (by (with_reducible repeat (first | apply Kd.R_alloc | apply Kd.R_drewN | apply Kd.R_drew)); exact HO168.out) hb)
      have n2_ := Aside0.mk (below_step (by repeat (first | (with_reducible first | exact HB.out | apply below_alloc | apply pw_below_drewN | apply below_drew1) | exact HB.out)) hb)
      clear HO163
      clear HO168
      clear HB
      have HO163 := n0_
      have HO168 := n1_
      have HB := n2_
      clear n0_ n1_ n2_
      (try clear hb)
      (try clear hb2)
      (try clear hk)
      (try clear hi)
      refine hK.out _ _ ⟨HS0_, HS1_⟩ (fun hHeld => ?_)
      clear hK K
      refine norm_ (a' := ?_) ?_ ?_
      rotate_left
      ·show Act.put _ (some 26) _ = _
       simp only [Act.put, List.setIfInBounds_toArray, List.set_cons_zero, List.set_cons_succ, i64_w, i32_w]
       rfl
      refine pure_ (i := 10) (N := some 16) (v := ?_) (a' := ?_) #[true, true, true, true, true, true, true, true, true, true, true, false, false, false, false] rfl rfl (any_of HT_.out (by kernel_rfl)) (fun _ _ _ h => h) (Or.inl ⟨by rfl, ?_⟩) ?_ ?_
      rotate_left
      ·intro w'
       go_simp
       with_reducible rfl
      rotate_left
      ·simp only [Act.put, List.setIfInBounds_toArray, List.set_cons_zero, List.set_cons_succ, i64_w, i32_w]
       rfl
      refine pure_ (i := 11) (N := some 27) (v := ?_) (a' := ?_) #[true, true, true, true, true, true, true, true, true, true, true, true, false, false, false] rfl rfl (any_of HT_.out (by kernel_rfl)) (fun _ _ _ h => h) (Or.inl ⟨by rfl, ?_⟩) ?_ ?_
      rotate_left
      ·intro w'
       go_simp
       with_reducible rfl
      rotate_left
      ·simp only [Act.put, List.setIfInBounds_toArray, List.set_cons_zero, List.set_cons_succ, i64_w, i32_w]
       rfl
      refine pure_ (i := 12) (N := some 28) (v := ?_) (a' := ?_) #[true, true, true, true, true, true, true, true, true, true, true, true, true, false, false] rfl rfl (any_of HT_.out (by kernel_rfl)) (fun _ _ _ h => h) (Or.inl ⟨by rfl, ?_⟩) ?_ ?_
      rotate_left
      ·intro w'
       go_simp
       with_reducible rfl
      rotate_left
      ·simp only [Act.put, List.setIfInBounds_toArray, List.set_cons_zero, List.set_cons_succ, i64_w, i32_w]
       rfl
      refine pure_ (i := 13) (N := some 3) (v := ?_) (a' := ?_) #[true, true, true, true, true, true, true, true, true, true, true, true, true, true, false] rfl rfl (any_of HT_.out (by kernel_rfl)) (fun _ _ _ h => h) (Or.inl ⟨by rfl, ?_⟩) ?_ ?_
      rotate_left
      ·intro w'
       go_simp
       with_reducible rfl
      rotate_left
      ·simp only [Act.put, List.setIfInBounds_toArray, List.set_cons_zero, List.set_cons_succ, i64_w, i32_w]
       rfl
      refine pure_ (i := 14) (N := some 4) (v := ?_) (a' := ?_) #[true, true, true, true, true, true, true, true, true, true, true, true, true, true, true] rfl rfl (any_of HT_.out (by kernel_rfl)) (fun _ _ _ h => h) (Or.inl ⟨by rfl, ?_⟩) ?_ ?_
      rotate_left
      ·intro w'
       go_simp
       with_reducible rfl
      rotate_left
      ·simp only [Act.put, List.setIfInBounds_toArray, List.set_cons_zero, List.set_cons_succ, i64_w, i32_w]
       rfl
      refine done_ (done_of HT_.out (by kernel_rfl)) ?_
      try go_wp2
      go_ret
      exact ⟨by first | rfl | (simp [errW_none, errW_some] <;> rfl) | (simp [*, errW_none, errW_some] <;> rfl), by repeat (first | (with_reducible first | exact HB.out | apply below_alloc | apply pw_below_drewN | apply below_drew1) | exact HB.out)⟩
     ·rw [if_neg c7] at H
      have c7b0 : (t170 == 0) = false := beq_eq_false_iff_ne.mpr c7
      have c7b1 : (t170 != 0) = true := bne_iff_ne.mpr c7
      obtain rfl := Option.some.inj H
      go_enter Tryd.func9, Tryd.ntmps9
      try go_wp2_with (first | ((with_reducible refine gate_callee (f := 11) rfl ?_); refine goesL_ (some 6) rfl rfl Tryd.func11 (by kernel_rfl) rfl #[.int .i64 2, .int .i64 1, .string (⟨#[97, 98, 99]⟩ : ByteArray)] rfl (by (try simp only [List.map_toArray, List.map_cons, List.map_nil]); first | done | rfl | (simp only [List.length_drop, List.length_take]; rfl)) ?_; (with_reducible refine (stripe_Encode.calls 2 1 (⟨#[97, 98, 99]⟩ : ByteArray) t160 t161 _ A1.out).mono ?_); rintro e w15 ⟨v162, rfl, ho0, hb⟩; refine ⟨_, rfl, ?_⟩; have n0_ := Aside0.mk (Kd.R_lower ho0 (below_size (by repeat (first | (with_reducible first | exact HB.out | apply below_alloc | apply pw_below_drewN | apply below_drew1) | exact HB.out)))); have n1_ := Aside0.mk (below_step (by repeat (first | (with_reducible first | exact HB.out | apply below_alloc | apply pw_below_drewN | apply below_drew1) | exact HB.out)) hb); clear HB; have HO163 := n0_; have HB := n1_; clear n0_ n1_; (try clear hb); (try clear hb2); (try clear hk); (try clear hi); (try clear ho0); obtain ⟨Ao16, co16, eo16⟩ := Kd.R_slice HO163.out; subst eo16))
      have n0_ := Aside0.mk (Kd.R_drew HO163.out)
      have n1_ := Aside0.mk (below_drew1 HB.out)
      clear HO163
      clear HB
      have HO163 := n0_
      have HB := n1_
      clear n0_ n1_
      have p164 : 0 ≤ (2 : Int) := (by omega)
      have q164 : 2 < (t160.length : Int) := of_decide_eq_true (by first | (with_reducible assumption) | assumption)
      obtain ⟨ad164, e164, hx164_0⟩ := Kd.at_string (Kd.R_reads' HO163.out).2.2 2 p164 q164
      cases e164
      (try simp only [show (2 : Int).toNat = 2 from rfl, Nat.reduceMul, Nat.reduceEqDiff, Go.Addr.add, ↓reduceIte] at hx164_0)
      have qi164 : (2 < t160.length) = True := eq_true (by omega)
      (try rw [show ((2 : Int)).toNat = 2 from rfl] at hx164_0)
      replace p164 := eq_true p164
      replace q164 := eq_true q164
      have p165 : 0 ≤ (1 : Int) := (by omega)
      have q165 : 1 < (t160.length : Int) := of_decide_eq_true (by first | (with_reducible assumption) | assumption)
      obtain ⟨ad165, e165, hx165_0⟩ := Kd.at_string (Kd.R_reads' HO163.out).2.2 1 p165 q165
      obtain rfl : ad164 = ad165 := (by injection e165)
      (try simp only [show (1 : Int).toNat = 1 from rfl, Nat.reduceMul, Nat.reduceEqDiff, Go.Addr.add, ↓reduceIte] at hx165_0)
      have qi165 : (1 < t160.length) = True := eq_true (by omega)
      (try rw [show ((1 : Int)).toNat = 1 from rfl] at hx165_0)
      replace p165 := eq_true p165
      replace q165 := eq_true q165
      refine start_ (n := 15) (S := fun w' => w'.cell? ⟨ad164.block, ad164.off + 2, none⟩ = some (.string (rdOf ByteArray.empty t160 2)) ∧ w'.cell? ⟨ad164.block, ad164.off + 1, none⟩ = some (.string (rdOf ByteArray.empty t160 1))) (ds := []) #[false, false, false, false, false, false, false, false, false, false, false, false, false, false, false] (by kernel_rfl) rfl rfl ⟨hx164_0, hx165_0⟩ (fun hHeld => ?_); refine with_tabW corncriblaw04_works.tab4 corncriblaw04_works.bits4 (fun HT_ HW_ => ?_)
      generalize w15.drew = w17 at HO163 HB hx164_0 hx165_0 hHeld ⊢
      refine pure_ (i := 0) (N := some 17) (v := ?_) (a' := ?_) #[true, false, false, false, false, false, false, false, false, false, false, false, false, false, false] rfl rfl (any_of HT_.out (by kernel_rfl)) (fun _ _ _ h => h) (Or.inl ⟨by rfl, ?_⟩) ?_ ?_
      rotate_left
      ·intro w'
       go_simp
       with_reducible rfl
      rotate_left
      ·simp only [Act.put, List.setIfInBounds_toArray, List.set_cons_zero, List.set_cons_succ, i64_w, i32_w]
       rfl
      refine pure_ (i := 1) (N := some 18) (v := ?_) (a' := ?_) #[true, true, false, false, false, false, false, false, false, false, false, false, false, false, false] rfl rfl (any_of HT_.out (by kernel_rfl)) (fun _ _ _ h => h) (Or.inl ⟨by rfl, ?_⟩) ?_ ?_
      rotate_left
      ·intro w'
       go_simp
       with_reducible rfl
      rotate_left
      ·simp only [Act.put, List.setIfInBounds_toArray, List.set_cons_zero, List.set_cons_succ, i64_w, i32_w]
       rfl
      refine pure_ (i := 4) (N := some 21) (v := ?_) (a' := ?_) #[true, true, false, false, true, false, false, false, false, false, false, false, false, false, false] rfl rfl (any_of HT_.out (by kernel_rfl)) (fun _ _ _ h => h) (Or.inl ⟨by rfl, ?_⟩) ?_ ?_
      rotate_left
      ·intro w'
       go_simp
       with_reducible rfl
      rotate_left
      ·simp only [Act.put, List.setIfInBounds_toArray, List.set_cons_zero, List.set_cons_succ, i64_w, i32_w]
       rfl
      refine pure_ (i := 5) (N := some 22) (v := ?_) (a' := ?_) #[true, true, false, false, true, true, false, false, false, false, false, false, false, false, false] rfl rfl (any_of HT_.out (by kernel_rfl)) (fun _ _ _ h => h) (Or.inl ⟨by rfl, ?_⟩) ?_ ?_
      rotate_left
      ·intro w'
       go_simp
       with_reducible rfl
      rotate_left
      ·simp only [Act.put, List.setIfInBounds_toArray, List.set_cons_zero, List.set_cons_succ, i64_w, i32_w]
       rfl
      refine take_ (i := 2) (N := some 19) (v := ?_) (a' := ?_) #[true, true, true, false, true, true, false, false, false, false, false, false, false, false, false] rfl rfl (take_ofW HT_.out HW_.out (by kernel_rfl)) (fun _ _ _ h => h) (Or.inl ⟨by rfl, ?_⟩) hHeld ?_ ?_
      rotate_left
      ·rintro w' ⟨s0, s1⟩
       go_simp
       with_reducible rfl
      rotate_left
      ·simp only [Act.put, List.setIfInBounds_toArray, List.set_cons_zero, List.set_cons_succ, i64_w, i32_w]
       rfl
      refine pure_ (i := 3) (N := some 20) (v := ?_) (a' := ?_) #[true, true, true, true, true, true, false, false, false, false, false, false, false, false, false] rfl rfl (any_of HT_.out (by kernel_rfl)) (fun _ _ _ h => h) (Or.inl ⟨by rfl, ?_⟩) ?_ ?_
      rotate_left
      ·intro w'
       go_simp
       with_reducible rfl
      rotate_left
      ·simp only [Act.put, List.setIfInBounds_toArray, List.set_cons_zero, List.set_cons_succ, i64_w, i32_w]
       rfl
      refine take_ (i := 6) (N := some 23) (v := ?_) (a' := ?_) #[true, true, true, true, true, true, true, false, false, false, false, false, false, false, false] rfl rfl (take_ofW HT_.out HW_.out (by kernel_rfl)) (fun _ _ _ h => h) (Or.inl ⟨by rfl, ?_⟩) hHeld ?_ ?_
      rotate_left
      ·rintro w' ⟨s0, s1⟩
       go_simp
       with_reducible rfl
      rotate_left
      ·simp only [Act.put, List.setIfInBounds_toArray, List.set_cons_zero, List.set_cons_succ, i64_w, i32_w]
       rfl
      refine pure_ (i := 7) (N := some 24) (v := ?_) (a' := ?_) #[true, true, true, true, true, true, true, true, false, false, false, false, false, false, false] rfl rfl (any_of HT_.out (by kernel_rfl)) (fun _ _ _ h => h) (Or.inl ⟨by rfl, ?_⟩) ?_ ?_
      rotate_left
      ·intro w'
       go_simp
       with_reducible rfl
      rotate_left
      ·simp only [Act.put, List.setIfInBounds_toArray, List.set_cons_zero, List.set_cons_succ, i64_w, i32_w]
       rfl
      refine one_ (i := 8) (N := some 25) #[true, true, true, true, true, true, true, true, true, false, false, false, false, false, false] rfl rfl (one_of HT_.out (by kernel_rfl)) (by decide) (fun K hK => ?_)
      refine Kd.R_lit_step k37 _ 37 ?hg (N := 25) ?hd (xs := ([(⟨2, rdOf ByteArray.empty t160 2⟩ : S37), (⟨1, rdOf ByteArray.empty t160 1⟩ : S37)] : List (S37))) (inner := [.int .i64 2, .string (rdOf ByteArray.empty t160 2), .int .i64 1, .string (rdOf ByteArray.empty t160 1)]) (ok := fun _ => True) (okp := fun _ => True) ?hr ?hp (fun _ hk => hk) trivial (Below.refl _ _) (Nat.le_refl _) (by simp) ?_; (case hd => rfl); (case hg => rfl); (case hr => first | (go_simp; done) | (go_simp; rfl)); (case hp => exact (Reps.c2 (show Kd.M k37 _ _ _ (⟨2, rdOf ByteArray.empty t160 2⟩ : S37) [.int .i64 2, .string (rdOf ByteArray.empty t160 2)] from (k37_mkM _ _ _ (⟨2, rdOf ByteArray.empty t160 2⟩ : S37) )) (Reps.c2 (show Kd.M k37 _ _ _ (⟨1, rdOf ByteArray.empty t160 1⟩ : S37) [.int .i64 1, .string (rdOf ByteArray.empty t160 1)] from (k37_mkM _ _ _ (⟨1, rdOf ByteArray.empty t160 1⟩ : S37) )) (Reps.none _ _))))
      intro v167 w18 ho19 hb hg_ hnew_
      have HS0_ := (hb.cell (World.block_lt_of_cell? _ _ (hHeld.1))).trans (hHeld.1)
      have HS1_ := (hb.cell (World.block_lt_of_cell? _ _ (hHeld.2))).trans (hHeld.2)
      clear hg_ hnew_
      (first | rw [← Ny166.out] at ho19 | (simp only [Int.reduceToNat] at ho19; rw [← Ny166.out] at ho19))
      have n0_ := Aside0.mk (Kd.R_below (by (with_reducible repeat (first | apply Kd.R_alloc | apply Kd.R_drewN | apply Kd.R_drew)); exact HO163.out) hb)
      have n1_ := Aside0.mk (Kd.R_lower ho19 (below_size (by repeat (first | (with_reducible first | exact HB.out | apply below_alloc | apply pw_below_drewN | apply below_drew1) | exact HB.out))))
      have n2_ := Aside0.mk (below_step (by repeat (first | (with_reducible first | exact HB.out | apply below_alloc | apply pw_below_drewN | apply below_drew1) | exact HB.out)) hb)
      clear HO163
      clear HB
      have HO163 := n0_
      have HO168 := n1_
      have HB := n2_
      clear n0_ n1_ n2_
      clear hb ho19
      obtain ⟨Ao20, co20, eo20⟩ := Kd.R_slice HO168.out
      (first | subst eo20 | (injection eo20 with f1_ f2_ f3_; have f4_ := f1_.symm; have f5_ := f3_.symm; clear f1_ f2_ f3_; subst f4_; subst f5_))
      refine hK.out _ _ ⟨HS0_, HS1_⟩ (fun hHeld => ?_)
      clear hK K
      refine norm_ (a' := ?_) ?_ ?_
      rotate_left
      ·show Act.put _ (some 25) _ = _
       simp only [Act.put, List.setIfInBounds_toArray, List.set_cons_zero, List.set_cons_succ, i64_w, i32_w]
       rfl
      refine one_ (i := 9) (N := some 26) #[true, true, true, true, true, true, true, true, true, true, false, false, false, false, false] rfl rfl (one_of HT_.out (by kernel_rfl)) (by decide) (fun K hK => ?_)
      refine goes_ Tryd.func23 (by kernel_rfl) rfl #[.int .i64 2, .int .i64 1, .slice Ao20 y166.length co20] (by rfl) rfl rfl (by (try simp only [List.map_toArray, List.map_cons, List.map_nil]); first | done | rfl | (simp only [List.length_drop, List.length_take]; rfl)) ?_
      with_reducible refine (mend_Object.calls k 2 1 _ _ y166 t169 t170 _ ?side1 ?side2 A6.out).mono ?_
      (case side1 => repeat (first | exact (Kd.R_reads' HO168.out).2.2 | (with_reducible refine Kd.C_alloc ?_ _) | (with_reducible refine Kd.C_drewN ?_ _) | (with_reducible refine Kd.C_drew ?_)))
      (case side2 => exact (Kd.R_reads' HO168.out).2.1)
      rintro e w21 ⟨rfl, hb⟩
      have HS0_ := (hb.cell (World.block_lt_of_cell? _ _ (hHeld.1))).trans (hHeld.1)
      have HS1_ := (hb.cell (World.block_lt_of_cell? _ _ (hHeld.2))).trans (hHeld.2)
      refine ⟨_, rfl, ?_⟩
      have n0_ := Aside0.mk (Kd.R_below (by (with_reducible repeat (first | apply Kd.R_alloc | apply Kd.R_drewN | apply Kd.R_drew)); exact HO163.out) hb)
      have n1_ := Aside0.mk (Kd.R_below (by (with_reducible repeat (first | apply Kd.R_alloc | apply Kd.R_drewN | apply Kd.R_drew)); exact HO168.out) hb)
      have n2_ := Aside0.mk (below_step (by repeat (first | (with_reducible first | exact HB.out | apply below_alloc | apply pw_below_drewN | apply below_drew1) | exact HB.out)) hb)
      clear HO163
      clear HO168
      clear HB
      have HO163 := n0_
      have HO168 := n1_
      have HB := n2_
      clear n0_ n1_ n2_
      (try clear hb)
      (try clear hb2)
      (try clear hk)
      (try clear hi)
      refine hK.out _ _ ⟨HS0_, HS1_⟩ (fun hHeld => ?_)
      clear hK K
      refine norm_ (a' := ?_) ?_ ?_
      rotate_left
      ·show Act.put _ (some 26) _ = _
       simp only [Act.put, List.setIfInBounds_toArray, List.set_cons_zero, List.set_cons_succ, i64_w, i32_w]
       rfl
      refine pure_ (i := 10) (N := some 16) (v := ?_) (a' := ?_) #[true, true, true, true, true, true, true, true, true, true, true, false, false, false, false] rfl rfl (any_of HT_.out (by kernel_rfl)) (fun _ _ _ h => h) (Or.inl ⟨by rfl, ?_⟩) ?_ ?_
      rotate_left
      ·intro w'
       go_simp
       with_reducible rfl
      rotate_left
      ·simp only [Act.put, List.setIfInBounds_toArray, List.set_cons_zero, List.set_cons_succ, i64_w, i32_w]
       rfl
      refine pure_ (i := 11) (N := some 27) (v := ?_) (a' := ?_) #[true, true, true, true, true, true, true, true, true, true, true, true, false, false, false] rfl rfl (any_of HT_.out (by kernel_rfl)) (fun _ _ _ h => h) (Or.inl ⟨by rfl, ?_⟩) ?_ ?_
      rotate_left
      ·intro w'
       go_simp
       with_reducible rfl
      rotate_left
      ·simp only [Act.put, List.setIfInBounds_toArray, List.set_cons_zero, List.set_cons_succ, i64_w, i32_w]
       rfl
      refine pure_ (i := 12) (N := some 28) (v := ?_) (a' := ?_) #[true, true, true, true, true, true, true, true, true, true, true, true, true, false, false] rfl rfl (any_of HT_.out (by kernel_rfl)) (fun _ _ _ h => h) (Or.inl ⟨by rfl, ?_⟩) ?_ ?_
      rotate_left
      ·intro w'
       go_simp
       with_reducible rfl
      rotate_left
      ·simp only [Act.put, List.setIfInBounds_toArray, List.set_cons_zero, List.set_cons_succ, i64_w, i32_w]
       rfl
      refine pure_ (i := 13) (N := some 3) (v := ?_) (a' := ?_) #[true, true, true, true, true, true, true, true, true, true, true, true, true, true, false] rfl rfl (any_of HT_.out (by kernel_rfl)) (fun _ _ _ h => h) (Or.inl ⟨by rfl, ?_⟩) ?_ ?_
      rotate_left
      ·intro w'
       go_simp
       with_reducible rfl
      rotate_left
      ·simp only [Act.put, List.setIfInBounds_toArray, List.set_cons_zero, List.set_cons_succ, i64_w, i32_w]
       rfl
      refine pure_ (i := 14) (N := some 4) (v := ?_) (a' := ?_) #[true, true, true, true, true, true, true, true, true, true, true, true, true, true, true] rfl rfl (any_of HT_.out (by kernel_rfl)) (fun _ _ _ h => h) (Or.inl ⟨by rfl, ?_⟩) ?_ ?_
      rotate_left
      ·intro w'
       go_simp
       with_reducible rfl
      rotate_left
      ·simp only [Act.put, List.setIfInBounds_toArray, List.set_cons_zero, List.set_cons_succ, i64_w, i32_w]
       rfl
      refine done_ (done_of HT_.out (by kernel_rfl)) ?_
      try go_wp2
      go_ret
      exact ⟨by first | rfl | (simp [errW_none, errW_some] <;> rfl) | (simp [*, errW_none, errW_some] <;> rfl), by repeat (first | (with_reducible first | exact HB.out | apply below_alloc | apply pw_below_drewN | apply below_drew1) | exact HB.out)⟩
    ·rw [if_neg c5] at H
     exact absurd H (by simp)
   ·rw [if_neg c4] at H
    exact absurd H (by simp)
  ·rw [if_neg c3] at H
   have c3b0 : ((t160.length : Int) == 3) = false := beq_eq_false_iff_ne.mpr c3
   have c3b1 : ((t160.length : Int) != 3) = true := bne_iff_ne.mpr c3
   obtain rfl := Option.some.inj H
   go_enter Tryd.func9, Tryd.ntmps9
   go_wp2_with (first | ((with_reducible refine gate_callee (f := 11) rfl ?_); refine goesL_ (some 6) rfl rfl Tryd.func11 (by kernel_rfl) rfl #[.int .i64 2, .int .i64 1, .string (⟨#[97, 98, 99]⟩ : ByteArray)] rfl (by (try simp only [List.map_toArray, List.map_cons, List.map_nil]); first | done | rfl | (simp only [List.length_drop, List.length_take]; rfl)) ?_; (with_reducible refine (stripe_Encode.calls 2 1 (⟨#[97, 98, 99]⟩ : ByteArray) t160 t161 _ A1.out).mono ?_); rintro e w22 ⟨v162, rfl, ho0, hb⟩; refine ⟨_, rfl, ?_⟩; have n0_ := Aside0.mk (Kd.R_lower ho0 (below_size (by repeat (first | (with_reducible first | exact HB.out | apply below_alloc | apply pw_below_drewN | apply below_drew1) | exact HB.out)))); have n1_ := Aside0.mk (below_step (by repeat (first | (with_reducible first | exact HB.out | apply below_alloc | apply pw_below_drewN | apply below_drew1) | exact HB.out)) hb); clear HB; have HO163 := n0_; have HB := n1_; clear n0_ n1_; (try clear hb); (try clear hb2); (try clear hk); (try clear hi); (try clear ho0); obtain ⟨Ao23, co23, eo23⟩ := Kd.R_slice HO163.out; subst eo23))
   go_ret
   exact ⟨by first | rfl | (simp [errW_none, errW_some] <;> rfl) | (simp [*, errW_none, errW_some] <;> rfl), by repeat (first | (with_reducible first | exact HB.out | apply below_alloc | apply pw_below_drewN | apply below_drew1) | exact HB.out)⟩
 ·rw [if_neg c2] at H
  have c2b0 : (t161 == 0) = false := beq_eq_false_iff_ne.mpr c2
  have c2b1 : (t161 != 0) = true := bne_iff_ne.mpr c2
  obtain rfl := Option.some.inj H
  go_enter Tryd.func9, Tryd.ntmps9
  go_wp2_with (first | ((with_reducible refine gate_callee (f := 11) rfl ?_); refine goesL_ (some 6) rfl rfl Tryd.func11 (by kernel_rfl) rfl #[.int .i64 2, .int .i64 1, .string (⟨#[97, 98, 99]⟩ : ByteArray)] rfl (by (try simp only [List.map_toArray, List.map_cons, List.map_nil]); first | done | rfl | (simp only [List.length_drop, List.length_take]; rfl)) ?_; (with_reducible refine (stripe_Encode.calls 2 1 (⟨#[97, 98, 99]⟩ : ByteArray) t160 t161 _ A1.out).mono ?_); rintro e w24 ⟨v162, rfl, ho0, hb⟩; refine ⟨_, rfl, ?_⟩; have n0_ := Aside0.mk (Kd.R_lower ho0 (below_size (by repeat (first | (with_reducible first | exact HB.out | apply below_alloc | apply pw_below_drewN | apply below_drew1) | exact HB.out)))); have n1_ := Aside0.mk (below_step (by repeat (first | (with_reducible first | exact HB.out | apply below_alloc | apply pw_below_drewN | apply below_drew1) | exact HB.out)) hb); clear HB; have HO163 := n0_; have HB := n1_; clear n0_ n1_; (try clear hb); (try clear hb2); (try clear hk); (try clear hi); (try clear ho0)))
  go_ret
  exact ⟨by first | rfl | (simp [errW_none, errW_some] <;> rfl) | (simp [*, errW_none, errW_some] <;> rfl), by repeat (first | (with_reducible first | exact HB.out | apply below_alloc | apply pw_below_drewN | apply below_drew1) | exact HB.out)⟩

end Go.Proofs.YtpmnhlbkgeiomaaDoor.PS
namespace Go.Proofs.YtpmnhlbkgeiomaaDoor.PS
open Go.RowKit Go.Proofs.YtpmnhlbkgeiomaaDoorW.PrintWords Go.Proofs.YtpmnhlbkgeiomaaDoorW.PrintLast Go.Proofs.YtpmnhlbkgeiomaaDoorW.PrintMore
set_option linter.unusedVariables false
set_option maxRecDepth 100000 in
theorem mworks_at : corncriblaw04_works.f 20 = some true := by kernel_rfl
end Go.Proofs.YtpmnhlbkgeiomaaDoor.PS
