/- Texts of this proof, one behind the other (merged by a program of this session). -/
import Derived.Test.YtaldfbmjmpkmmaaGreatMf5ad65
import Derived.Test.YtaldfbmjmpkmmaaGreatM3f3653
namespace Go.Proofs.YtaldfbmjmpkmmaaGreat.PL
open Go.RowKit Go.Proofs.YtaldfbmjmpkmmaaGreatW.PrintWords Go.Proofs.YtaldfbmjmpkmmaaGreatW.PrintLast Go.Proofs.YtaldfbmjmpkmmaaGreatW.PrintMore
attribute [local go_sem] Mk.str_leq Mk.str_gtr Mk.str_geq max2_int min2_int max_two min_two max_three min_three max_four min_four   -- for this text's walks alone
set_option linter.unusedVariables false
set_option linter.unusedSimpArgs false

/-! ### chain_Check: function 87 -/
mutual
def chain_Check.l0 : Nat → Int → List (S43) → Int → Int → Option (Int × Int)
 | 0, _, _, _, _ => none
 | k + 1, x4, x10, x11, x12 => if x12 < x11 then (if 0 ≤ x12 then (if x12 < (x10.length : Int) then (if ((rd_T43 x10 x12).f0) < 1 then (chain_Check.j1 k x4 x12 x10 x11 x12 true ((rd_T43 x10 x12).f0) ((rd_T43 x10 x12).f1) ((rd_T43 x10 x12).f2)) else (chain_Check.j1 k x4 x12 x10 x11 x12 (decide (((rd_T43 x10 x12).f0) > 1125899906842624)) ((rd_T43 x10 x12).f0) ((rd_T43 x10 x12).f1) ((rd_T43 x10 x12).f2))) else (none)) else (none)) else (some (0, 0))
def chain_Check.j1 : Nat → Int → Int → List (S43) → Int → Int → Bool → Int → ByteArray → Bool → Option (Int × Int)
 | 0, _, _, _, _, _, _, _, _, _ => none
 | k + 1, x4, x5, x10, x11, x12, x17, x117000, x117001, x117002 => if x17 = true then (some (x5, 1)) else (if (x117001.size : Int) > 2052 then (some (x5, 2)) else (if x117002 = true then (chain_Check.j2 k x4 x5 x10 x11 x12 (x117001.toList != ([] : List UInt8)) x117000 x117001 x117002) else (chain_Check.j2 k x4 x5 x10 x11 x12 false x117000 x117001 x117002)))
def chain_Check.j2 : Nat → Int → Int → List (S43) → Int → Int → Bool → Int → ByteArray → Bool → Option (Int × Int)
 | 0, _, _, _, _, _, _, _, _, _ => none
 | k + 1, x4, x5, x10, x11, x12, x33, x117000, x117001, x117002 => if x33 = true then (some (x5, 4)) else (if x117000 ≤ x4 then (some (x5, 110)) else (chain_Check.l0 k x117000 x10 x11 (wrap64 (x12 + 1))))
end
def chain_Check.f (k : Nat) (l0 : List (S43)) : Option (Int × Int) := if (l0.length : Int) > 1024 then (some ((-1), 2)) else (chain_Check.l0 k 0 l0 (l0.length : Int) 0)
theorem chain_Check.mono_l : ∀ k, (∀ y0 y1 y2 y3, LeO (chain_Check.l0 k y0 y1 y2 y3) (chain_Check.l0 (k + 1) y0 y1 y2 y3)) ∧ (∀ y0 y1 y2 y3 y4 y5 y6 y7 y8, LeO (chain_Check.j1 k y0 y1 y2 y3 y4 y5 y6 y7 y8) (chain_Check.j1 (k + 1) y0 y1 y2 y3 y4 y5 y6 y7 y8)) ∧ (∀ y0 y1 y2 y3 y4 y5 y6 y7 y8, LeO (chain_Check.j2 k y0 y1 y2 y3 y4 y5 y6 y7 y8) (chain_Check.j2 (k + 1) y0 y1 y2 y3 y4 y5 y6 y7 y8))
 | 0 => ⟨fun _ _ _ _ r h => by simp [chain_Check.l0] at h, fun _ _ _ _ _ _ _ _ _ r h => by simp [chain_Check.j1] at h, fun _ _ _ _ _ _ _ _ _ r h => by simp [chain_Check.j2] at h⟩
 | k + 1 => by
  obtain ⟨ih0, ih1, ih2⟩ := chain_Check.mono_l k
  refine ⟨?_, ?_, ?_⟩
  ·intro y0 y1 y2 y3
   unfold chain_Check.l0
   repeat' first
   | (with_reducible exact ih0 _ _ _ _)
   | (with_reducible exact ih1 _ _ _ _ _ _ _ _ _)
   | (with_reducible exact ih2 _ _ _ _ _ _ _ _ _)
   | (with_reducible exact LeO.refl _)
   | (with_reducible exact LeO.none _)
   | (with_reducible refine LeO.ite ?_ ?_)
   | (with_reducible refine LeO.bind ?_ (fun _ => ?_))
   | exact ih0 _ _ _ _
   | exact ih1 _ _ _ _ _ _ _ _ _
   | exact ih2 _ _ _ _ _ _ _ _ _
   | exact LeO.none _
   | refine LeO.ite ?_ ?_
   | refine LeO.bind ?_ (fun _ => ?_)
  ·intro y0 y1 y2 y3 y4 y5 y6 y7 y8
   unfold chain_Check.j1
   repeat' first
   | (with_reducible exact ih0 _ _ _ _)
   | (with_reducible exact ih1 _ _ _ _ _ _ _ _ _)
   | (with_reducible exact ih2 _ _ _ _ _ _ _ _ _)
   | (with_reducible exact LeO.refl _)
   | (with_reducible exact LeO.none _)
   | (with_reducible refine LeO.ite ?_ ?_)
   | (with_reducible refine LeO.bind ?_ (fun _ => ?_))
   | exact ih0 _ _ _ _
   | exact ih1 _ _ _ _ _ _ _ _ _
   | exact ih2 _ _ _ _ _ _ _ _ _
   | exact LeO.none _
   | refine LeO.ite ?_ ?_
   | refine LeO.bind ?_ (fun _ => ?_)
  ·intro y0 y1 y2 y3 y4 y5 y6 y7 y8
   unfold chain_Check.j2
   repeat' first
   | (with_reducible exact ih0 _ _ _ _)
   | (with_reducible exact ih1 _ _ _ _ _ _ _ _ _)
   | (with_reducible exact ih2 _ _ _ _ _ _ _ _ _)
   | (with_reducible exact LeO.refl _)
   | (with_reducible exact LeO.none _)
   | (with_reducible refine LeO.ite ?_ ?_)
   | (with_reducible refine LeO.bind ?_ (fun _ => ?_))
   | exact ih0 _ _ _ _
   | exact ih1 _ _ _ _ _ _ _ _ _
   | exact ih2 _ _ _ _ _ _ _ _ _
   | exact LeO.none _
   | refine LeO.ite ?_ ?_
   | refine LeO.bind ?_ (fun _ => ?_)
theorem chain_Check.mono : ∀ a0 k, LeO (chain_Check.f k a0) (chain_Check.f (k + 1) a0) := by
 intro a0 k
 obtain ⟨ih0, ih1, ih2⟩ := chain_Check.mono_l k
 unfold chain_Check.f
 repeat' first
   | (with_reducible exact ih0 _ _ _ _)
   | (with_reducible exact ih1 _ _ _ _ _ _ _ _ _)
   | (with_reducible exact ih2 _ _ _ _ _ _ _ _ _)
   | (with_reducible exact LeO.refl _)
   | (with_reducible exact LeO.none _)
   | (with_reducible refine LeO.ite ?_ ?_)
   | (with_reducible refine LeO.bind ?_ (fun _ => ?_))
   | exact ih0 _ _ _ _
   | exact ih1 _ _ _ _ _ _ _ _ _
   | exact ih2 _ _ _ _ _ _ _ _ _
   | exact LeO.none _
   | refine LeO.ite ?_ ?_
   | refine LeO.bind ?_ (fun _ => ?_)
set_option maxHeartbeats 8000000 in
set_option maxRecDepth 100000 in
theorem chain_Check.calls (k : Nat) (A0 : Option Addr) (c0 : Nat) (l0 : List (S43)) (r1 : Int) (r2 : Int) (w : World) (hr0 : Kd.C k43 w A0 l0.length l0) (hc0 : l0.length ≤ c0) (h : chain_Check.f k l0 = some (r1, r2)) :
  Calls Tryz.prog 87 #[.slice A0 l0.length c0] w fun e w' => e = .returned (.tuple #[.int .i64 r1, .int .i64 r2]) ∧ Below w.heap.size w w' := by
 have hu43 := Tryz.underlying43
 have HR0 := Aside0.mk hr0
 have HC0 := Aside0.mk hc0
 clear hr0 hc0
 have HB := Aside0.mk (Below.refl w.heap.size w)
 have H : (if (l0.length : Int) > 1024 then (some ((-1), 2)) else (chain_Check.l0 k 0 l0 (l0.length : Int) 0)) = some (r1, r2) := h
 clear h
 by_cases c2 : (l0.length : Int) > 1024
 ·rw [if_pos c2] at H
  have c2b0 : decide (1024 < (l0.length : Int)) = true := decide_eq_true c2
  have c2b1 : decide (1024 < l0.length) = true := decide_eq_true (by omega)
  clear c2
  simp only [Option.some.injEq, Prod.mk.injEq] at H
  obtain ⟨rfl, rfl⟩ := H
  go_enter Tryz.func87, Tryz.ntmps87
  go_wp2
  go_ret2
  exact ⟨by first | rfl | (simp [errW_none, errW_some] <;> rfl) | (simp [*, errW_none, errW_some] <;> rfl), by repeat (first | (with_reducible first | exact HB.out | apply below_alloc | apply pw_below_drewN | apply below_drew1) | exact HB.out)⟩
 ·rw [if_neg c2] at H
  have c2b0 : decide (1024 < (l0.length : Int)) = false := decide_eq_false c2
  have c2b1 : decide (1024 < l0.length) = false := decide_eq_false (by omega)
  clear c2
  have H' := Aside0.mk H
  clear H
  go_enter Tryz.func87, Tryz.ntmps87
  go_wp2
  go_loopg [4, 12] k (fun kq v4 v12 w' => ∃ (x4_1 : Int) (x12_1 : Int), v4 = .int .i64 x4_1 ∧ v12 = .int .i64 x12_1 ∧ Aside0 (chain_Check.l0 kq x4_1 l0 (l0.length : Int) x12_1 = some (r1, r2)) ∧ Aside0 (kq ≤ k) ∧ Aside0 (Below w.heap.size w w'))
  case atStart => exact ⟨(0), (0), (by first | rfl | (simp; done) | (simp [*]; done)), (by first | rfl | (simp; done) | (simp [*]; done)), H', ⟨Nat.le_refl _⟩, ⟨by repeat (first | (with_reducible first | exact HB.out | apply below_alloc | apply pw_below_drewN | apply below_drew1) | exact HB.out)⟩⟩
  case round =>
   clear H'
   try clear c2
   try clear c2b0
   try clear c2b1
   try clear p2
   obtain ⟨x4_1, x12_1, rfl, rfl, HA, HK1, HB⟩ := hrel
   cases gk with
   | zero => exact absurd HA.out (by simp [chain_Check.l0])
   | succ k1 =>
    have H := HA.out
    clear HA
    simp only [chain_Check.l0] at H
    by_cases c3 : x12_1 < (l0.length : Int)
    ·rw [if_pos c3] at H
     have c3b0 : decide (x12_1 < (l0.length : Int)) = true := decide_eq_true c3
     clear c3
     by_cases c4 : 0 ≤ x12_1
     ·rw [if_pos c4] at H
      have c4b0 : decide (0 ≤ x12_1) = true := decide_eq_true c4
      clear c4
      by_cases c5 : x12_1 < (l0.length : Int)
      ·rw [if_pos c5] at H
       have c5b0 : decide (x12_1 < (l0.length : Int)) = true := decide_eq_true c5
       clear c5
       have HC6 := Aside0.mk H
       clear H
       have p115 : 0 ≤ (x12_1 : Int) := of_decide_eq_true (by first | (with_reducible assumption) | assumption)
       have q115 : x12_1 < (l0.length : Int) := of_decide_eq_true (by first | (with_reducible assumption) | assumption)
       obtain ⟨ad115, e115, hx115_0, hx115_1, hx115_2⟩ := at_T43 HR0.out x12_1 p115 q115
       cases e115
       replace hx115_0 := (HB.out.cell (World.block_lt_of_cell? w _ hx115_0)).trans hx115_0
       replace hx115_1 := (HB.out.cell (World.block_lt_of_cell? w _ hx115_1)).trans hx115_1
       replace hx115_2 := (HB.out.cell (World.block_lt_of_cell? w _ hx115_2)).trans hx115_2
       replace p115 := eq_true p115
       replace q115 := eq_true q115
       go_upto_region 7 with (first | ((with_reducible refine gate_dst (N := 6) rfl ?_); refine box_event ?hg (N := 6) ?hd (cs := #[.int .i64 0, .string (⟨#[]⟩ : ByteArray), .bool false]) (t := 43) ?hr ?_; (case hd => rfl); (case hg => rfl); (case hr => first | (go_simp; done) | (go_simp; rfl)); intro gb116 hg w7 hbox hb; have n0_ := Aside0.mk (below_step (by repeat (first | (with_reducible first | exact HB.out | apply below_alloc | apply pw_below_drewN | apply below_drew1) | exact HB.out)) hb); have n1_ := Aside0.mk (hbox); have n2_ := Aside0.mk ((by rw [hg]; exact (below_size (by repeat (first | (with_reducible first | exact HB.out | apply below_alloc | apply pw_below_drewN | apply below_drew1) | exact HB.out))) : w.heap.size ≤ gb116)); have n3_ := Aside0.mk ((by rw [hg]; exact (below_size (by repeat (first | (with_reducible first | exact HB.out | apply below_alloc | apply pw_below_drewN | apply below_drew1) | exact HB.out))) : w.heap.size ≤ gb116)); clear HB; have HB := n0_; have BK116 := n1_; have GW116 := n2_; have GE116 := n3_; clear n0_ n1_ n2_ n3_; clear hb hbox hg; have hcz8_0 : w7.cell? ⟨gb116, 0, none⟩ = some (.int .i64 0) := (blk_cell BK116.out 0).trans rfl; have hcz8_1 : w7.cell? ⟨gb116, 1, none⟩ = some (.string (⟨#[]⟩ : ByteArray)) := (blk_cell BK116.out 1).trans rfl; have hcz8_2 : w7.cell? ⟨gb116, 2, none⟩ = some (.bool false) := (blk_cell BK116.out 2).trans rfl; have hfz8_0 := blk_frozen BK116.out 0; have hfz8_1 := blk_frozen BK116.out 1; have hfz8_2 := blk_frozen BK116.out 2))
       (try simp only [Act.put, List.setIfInBounds_toArray, List.set_cons_zero, List.set_cons_succ])
       go_cut [17] (fun v17 wc => ∃ (kq : Nat) (x17_5 : Bool), v17 = .bool x17_5 ∧ Aside0 (chain_Check.j1 kq x4_1 x12_1 l0 (l0.length : Int) x12_1 x17_5 ((rd_T43 l0 x12_1).f0) ((rd_T43 l0 x12_1).f1) ((rd_T43 l0 x12_1).f2) = some (r1, r2)) ∧ Aside0 (kq ≤ k1) ∧ Aside0 (wc.heap[gb116]? = some (.cells #[.int .i64 ((rd_T43 l0 x12_1).f0), .string ((rd_T43 l0 x12_1).f1), .bool ((rd_T43 l0 x12_1).f2)] 43 (0, 0))) ∧ Aside0 (Below w.heap.size w wc))
       case first =>
        have H := HC6.out
        clear HC6
        by_cases c9 : ((rd_T43 l0 x12_1).f0) < 1
        ·rw [if_pos c9] at H
         have c9b0 : decide (((rd_T43 l0 x12_1).f0) < 1) = true := decide_eq_true c9
         clear c9
         (first | rw [c9b0] | (simp only [i64_w, i32_w]; rw [c9b0]) | skip)
         have H' := Aside0.mk H
         clear H
         have hcz10_0 : w7.cell? ⟨gb116, 0, none⟩ = some (.int .i64 0) := (blk_cell BK116.out 0).trans rfl
         have hcz10_1 : w7.cell? ⟨gb116, 1, none⟩ = some (.string (⟨#[]⟩ : ByteArray)) := (blk_cell BK116.out 1).trans rfl
         have hcz10_2 : w7.cell? ⟨gb116, 2, none⟩ = some (.bool false) := (blk_cell BK116.out 2).trans rfl
         have hfz10_0 := blk_frozen BK116.out 0
         have hfz10_1 := blk_frozen BK116.out 1
         have hfz10_2 := blk_frozen BK116.out 2
         go_wp2
         go_meet
         case rel => exact ⟨_, (true), (by first | rfl | (simp; done) | (simp [*]; done)), H', ⟨by have := HK1.out; first | omega | exact Nat.le_refl _⟩, ⟨by (with_reducible repeat (first | refine blk_drewN ?_ _ | refine blk_drew ?_ | refine blk_alloc ?_ _)); refine blk_put (cs := #[.int .i64 ((rd_T43 l0 x12_1).f0), .string ((rd_T43 l0 x12_1).f1), .bool false]) ?_ 2 _ rfl; (with_reducible repeat (first | refine blk_drewN ?_ _ | refine blk_drew ?_ | refine blk_alloc ?_ _)); refine blk_put (cs := #[.int .i64 ((rd_T43 l0 x12_1).f0), .string (⟨#[]⟩ : ByteArray), .bool false]) ?_ 1 _ rfl; (with_reducible repeat (first | refine blk_drewN ?_ _ | refine blk_drew ?_ | refine blk_alloc ?_ _)); refine blk_put (cs := #[.int .i64 0, .string (⟨#[]⟩ : ByteArray), .bool false]) ?_ 0 _ rfl; (with_reducible repeat (first | refine blk_drewN ?_ _ | refine blk_drew ?_ | refine blk_alloc ?_ _)); exact BK116.out⟩, ⟨by repeat (first | (with_reducible first | exact HB.out | apply below_alloc | apply pw_below_drewN | apply below_drew1 | refine below_set ?_ GE116.out) | exact HB.out)⟩⟩
        ·rw [if_neg c9] at H
         have c9b0 : decide (((rd_T43 l0 x12_1).f0) < 1) = false := decide_eq_false c9
         clear c9
         (first | rw [c9b0] | (simp only [i64_w, i32_w]; rw [c9b0]) | skip)
         have H' := Aside0.mk H
         clear H
         have hcz11_0 : w7.cell? ⟨gb116, 0, none⟩ = some (.int .i64 0) := (blk_cell BK116.out 0).trans rfl
         have hcz11_1 : w7.cell? ⟨gb116, 1, none⟩ = some (.string (⟨#[]⟩ : ByteArray)) := (blk_cell BK116.out 1).trans rfl
         have hcz11_2 : w7.cell? ⟨gb116, 2, none⟩ = some (.bool false) := (blk_cell BK116.out 2).trans rfl
         have hfz11_0 := blk_frozen BK116.out 0
         have hfz11_1 := blk_frozen BK116.out 1
         have hfz11_2 := blk_frozen BK116.out 2
         go_wp2
         go_meet
         case rel => exact ⟨_, (decide (((rd_T43 l0 x12_1).f0) > 1125899906842624)), (by first | rfl | (simp; done) | (simp [*]; done)), H', ⟨by have := HK1.out; first | omega | exact Nat.le_refl _⟩, ⟨by (with_reducible repeat (first | refine blk_drewN ?_ _ | refine blk_drew ?_ | refine blk_alloc ?_ _)); refine blk_put (cs := #[.int .i64 ((rd_T43 l0 x12_1).f0), .string ((rd_T43 l0 x12_1).f1), .bool false]) ?_ 2 _ rfl; (with_reducible repeat (first | refine blk_drewN ?_ _ | refine blk_drew ?_ | refine blk_alloc ?_ _)); refine blk_put (cs := #[.int .i64 ((rd_T43 l0 x12_1).f0), .string (⟨#[]⟩ : ByteArray), .bool false]) ?_ 1 _ rfl; (with_reducible repeat (first | refine blk_drewN ?_ _ | refine blk_drew ?_ | refine blk_alloc ?_ _)); refine blk_put (cs := #[.int .i64 0, .string (⟨#[]⟩ : ByteArray), .bool false]) ?_ 0 _ rfl; (with_reducible repeat (first | refine blk_drewN ?_ _ | refine blk_drew ?_ | refine blk_alloc ?_ _)); exact BK116.out⟩, ⟨by repeat (first | (with_reducible first | exact HB.out | apply below_alloc | apply pw_below_drewN | apply below_drew1 | refine below_set ?_ GE116.out) | exact HB.out)⟩⟩
       case rest =>
        clear HC6
        try clear p1
        try clear q1
        try clear hx1
        try clear c2
        try clear c2b0
        try clear c2b1
        try clear p2
        try clear c3
        try clear c3b0
        try clear c4
        try clear c4b0
        try clear c5
        try clear c5b0
        try clear c8
        try clear c9
        try clear c9b0
        try clear p11
        try clear q11
        try clear hx11
        try clear hcz10_0
        try clear hcz10_1
        try clear hcz10_2
        try clear hcz11_0
        try clear hcz11_1
        try clear hcz11_2
        try clear hcz8_0
        try clear hcz8_1
        try clear hcz8_2
        try clear hfz10_0
        try clear hfz10_1
        try clear hfz10_2
        try clear hfz11_0
        try clear hfz11_1
        try clear hfz11_2
        try clear hfz8_0
        try clear hfz8_1
        try clear hfz8_2
        try clear hx115_0
        try clear hx115_1
        try clear hx115_2
        try clear p115
        try clear p2
        try clear q115
        obtain ⟨kq, x17_5, rfl, HA, HJ5, BK116, HB⟩ := hcut
        cases kq with
        | zero => exact absurd HA.out (by simp [chain_Check.j1])
        | succ kj5 =>
         have H := HA.out
         clear HA
         simp only [chain_Check.j1] at H
         by_cases c12 : x17_5 = true
         ·subst c12
          have H1 : (some (x12_1, 1)) = some (r1, r2) := by rw [if_pos rfl] at H; exact H
          clear H
          have H := H1
          clear H1
          simp only [Option.some.injEq, Prod.mk.injEq] at H
          obtain ⟨rfl, rfl⟩ := H
          go_wp2
          go_ret2
          exact ⟨by first | rfl | (simp [errW_none, errW_some] <;> rfl) | (simp [*, errW_none, errW_some] <;> rfl), by repeat (first | (with_reducible first | exact HB.out | apply below_alloc | apply pw_below_drewN | apply below_drew1 | refine below_set ?_ GE116.out) | exact HB.out)⟩
         ·replace c12 := Bool.eq_false_iff.mpr c12
          subst c12
          have H1 : (if (((rd_T43 l0 x12_1).f1).size : Int) > 2052 then (some (x12_1, 2)) else (if ((rd_T43 l0 x12_1).f2) = true then (chain_Check.j2 kj5 x4_1 x12_1 l0 (l0.length : Int) x12_1 (((rd_T43 l0 x12_1).f1).toList != ([] : List UInt8)) ((rd_T43 l0 x12_1).f0) ((rd_T43 l0 x12_1).f1) ((rd_T43 l0 x12_1).f2)) else (chain_Check.j2 kj5 x4_1 x12_1 l0 (l0.length : Int) x12_1 false ((rd_T43 l0 x12_1).f0) ((rd_T43 l0 x12_1).f1) ((rd_T43 l0 x12_1).f2)))) = some (r1, r2) := by rw [if_neg (show ¬ (false = true) by decide)] at H; exact H
          clear H
          have H := H1
          clear H1
          by_cases c13 : (((rd_T43 l0 x12_1).f1).size : Int) > 2052
          ·rw [if_pos c13] at H
           have c13b0 : decide (2052 < (((rd_T43 l0 x12_1).f1).size : Int)) = true := decide_eq_true c13
           have c13b1 : decide (2052 < ((rd_T43 l0 x12_1).f1).size) = true := decide_eq_true (by omega)
           clear c13
           simp only [Option.some.injEq, Prod.mk.injEq] at H
           obtain ⟨rfl, rfl⟩ := H
           have hcz14_0 : wc.cell? ⟨gb116, 0, none⟩ = some (.int .i64 ((rd_T43 l0 x12_1).f0)) := (blk_cell BK116.out 0).trans rfl
           have hcz14_1 : wc.cell? ⟨gb116, 1, none⟩ = some (.string ((rd_T43 l0 x12_1).f1)) := (blk_cell BK116.out 1).trans rfl
           have hcz14_2 : wc.cell? ⟨gb116, 2, none⟩ = some (.bool ((rd_T43 l0 x12_1).f2)) := (blk_cell BK116.out 2).trans rfl
           have hfz14_0 := blk_frozen BK116.out 0
           have hfz14_1 := blk_frozen BK116.out 1
           have hfz14_2 := blk_frozen BK116.out 2
           go_wp2
           go_ret2
           exact ⟨by first | rfl | (simp [errW_none, errW_some] <;> rfl) | (simp [*, errW_none, errW_some] <;> rfl), by repeat (first | (with_reducible first | exact HB.out | apply below_alloc | apply pw_below_drewN | apply below_drew1 | refine below_set ?_ GE116.out) | exact HB.out)⟩
          ·rw [if_neg c13] at H
           have c13b0 : decide (2052 < (((rd_T43 l0 x12_1).f1).size : Int)) = false := decide_eq_false c13
           have c13b1 : decide (2052 < ((rd_T43 l0 x12_1).f1).size) = false := decide_eq_false (by omega)
           clear c13
           have HC15 := Aside0.mk H
           clear H
           have hcz16_0 : wc.cell? ⟨gb116, 0, none⟩ = some (.int .i64 ((rd_T43 l0 x12_1).f0)) := (blk_cell BK116.out 0).trans rfl
           have hcz16_1 : wc.cell? ⟨gb116, 1, none⟩ = some (.string ((rd_T43 l0 x12_1).f1)) := (blk_cell BK116.out 1).trans rfl
           have hcz16_2 : wc.cell? ⟨gb116, 2, none⟩ = some (.bool ((rd_T43 l0 x12_1).f2)) := (blk_cell BK116.out 2).trans rfl
           have hfz16_0 := blk_frozen BK116.out 0
           have hfz16_1 := blk_frozen BK116.out 1
           have hfz16_2 := blk_frozen BK116.out 2
           go_upto_region 11 with (fail)
           go_cut [33] (fun v33 wc => ∃ (kq : Nat) (x33_14 : Bool), v33 = .bool x33_14 ∧ Aside0 (chain_Check.j2 kq x4_1 x12_1 l0 (l0.length : Int) x12_1 x33_14 ((rd_T43 l0 x12_1).f0) ((rd_T43 l0 x12_1).f1) ((rd_T43 l0 x12_1).f2) = some (r1, r2)) ∧ Aside0 (kq ≤ kj5) ∧ Aside0 (wc.heap[gb116]? = some (.cells #[.int .i64 ((rd_T43 l0 x12_1).f0), .string ((rd_T43 l0 x12_1).f1), .bool ((rd_T43 l0 x12_1).f2)] 43 (0, 0))) ∧ Aside0 (Below w.heap.size w wc))
           case first =>
            have H := HC15.out
            clear HC15
            by_cases c17 : ((rd_T43 l0 x12_1).f2) = true
            ·rw [if_pos c17] at H
             have c17b0 : ((rd_T43 l0 x12_1).f2) = true := c17
             clear c17
             (first | rw [c17b0] | (simp only [i64_w, i32_w]; rw [c17b0]) | skip)
             have H' := Aside0.mk H
             clear H
             have hcz18_0 : wc.cell? ⟨gb116, 0, none⟩ = some (.int .i64 ((rd_T43 l0 x12_1).f0)) := (blk_cell BK116.out 0).trans rfl
             have hcz18_1 : wc.cell? ⟨gb116, 1, none⟩ = some (.string ((rd_T43 l0 x12_1).f1)) := (blk_cell BK116.out 1).trans rfl
             have hcz18_2 : wc.cell? ⟨gb116, 2, none⟩ = some (.bool ((rd_T43 l0 x12_1).f2)) := (blk_cell BK116.out 2).trans rfl
             have hfz18_0 := blk_frozen BK116.out 0
             have hfz18_1 := blk_frozen BK116.out 1
             have hfz18_2 := blk_frozen BK116.out 2
             go_wp2
             go_meet
             case rel => exact ⟨_, ((((rd_T43 l0 x12_1).f1).toList != ([] : List UInt8))), (by first | rfl | (simp; done) | (generalize ((rd_T43 l0 x12_1).f1).toList = q_; cases q_ <;> rfl) | (simp [*]; done)), H', ⟨by have := HK1.out; have := HJ5.out; first | omega | exact Nat.le_refl _⟩, ⟨by (with_reducible repeat (first | refine blk_drewN ?_ _ | refine blk_drew ?_ | refine blk_alloc ?_ _)); exact BK116.out⟩, ⟨by repeat (first | (with_reducible first | exact HB.out | apply below_alloc | apply pw_below_drewN | apply below_drew1 | refine below_set ?_ GE116.out) | exact HB.out)⟩⟩
            ·rw [if_neg c17] at H
             have c17b0 : ((rd_T43 l0 x12_1).f2) = false := by simpa using c17
             clear c17
             (first | rw [c17b0] | (simp only [i64_w, i32_w]; rw [c17b0]) | skip)
             have H' := Aside0.mk H
             clear H
             have hcz19_0 : wc.cell? ⟨gb116, 0, none⟩ = some (.int .i64 ((rd_T43 l0 x12_1).f0)) := (blk_cell BK116.out 0).trans rfl
             have hcz19_1 : wc.cell? ⟨gb116, 1, none⟩ = some (.string ((rd_T43 l0 x12_1).f1)) := (blk_cell BK116.out 1).trans rfl
             have hcz19_2 : wc.cell? ⟨gb116, 2, none⟩ = some (.bool ((rd_T43 l0 x12_1).f2)) := (blk_cell BK116.out 2).trans rfl
             have hfz19_0 := blk_frozen BK116.out 0
             have hfz19_1 := blk_frozen BK116.out 1
             have hfz19_2 := blk_frozen BK116.out 2
             go_wp2
             go_meet
             case rel => exact ⟨_, (false), (by first | rfl | (simp; done) | (simp [*]; done)), H', ⟨by have := HK1.out; have := HJ5.out; first | omega | exact Nat.le_refl _⟩, ⟨by (with_reducible repeat (first | refine blk_drewN ?_ _ | refine blk_drew ?_ | refine blk_alloc ?_ _)); exact BK116.out⟩, ⟨by repeat (first | (with_reducible first | exact HB.out | apply below_alloc | apply pw_below_drewN | apply below_drew1 | refine below_set ?_ GE116.out) | exact HB.out)⟩⟩
           case rest =>
            clear HC15
            try clear c1
            try clear p1
            try clear q1
            try clear hx1
            try clear c2
            try clear c2b0
            try clear c2b1
            try clear p2
            try clear c3
            try clear c3b0
            try clear c4
            try clear c4b0
            try clear c5
            try clear c5b0
            try clear c8
            try clear c9
            try clear c9b0
            try clear p11
            try clear q11
            try clear hx11
            try clear c12
            try clear c13
            try clear c13b0
            try clear c13b1
            try clear c17
            try clear c17b0
            try clear hcz10_0
            try clear hcz10_1
            try clear hcz10_2
            try clear hcz11_0
            try clear hcz11_1
            try clear hcz11_2
            try clear hcz14_0
            try clear hcz14_1
            try clear hcz14_2
            try clear hcz16_0
            try clear hcz16_1
            try clear hcz16_2
            try clear hcz18_0
            try clear hcz18_1
            try clear hcz18_2
            try clear hcz19_0
            try clear hcz19_1
            try clear hcz19_2
            try clear hcz8_0
            try clear hcz8_1
            try clear hcz8_2
            try clear hfz10_0
            try clear hfz10_1
            try clear hfz10_2
            try clear hfz11_0
            try clear hfz11_1
            try clear hfz11_2
            try clear hfz14_0
            try clear hfz14_1
            try clear hfz14_2
            try clear hfz16_0
            try clear hfz16_1
            try clear hfz16_2
            try clear hfz18_0
            try clear hfz18_1
            try clear hfz18_2
            try clear hfz19_0
            try clear hfz19_1
            try clear hfz19_2
            try clear hfz8_0
            try clear hfz8_1
            try clear hfz8_2
            try clear hx115_0
            try clear hx115_1
            try clear hx115_2
            try clear p1
            try clear p11
            try clear p115
            try clear p2
            try clear q1
            try clear q11
            try clear q115
            obtain ⟨kq, x33_14, rfl, HA, HJ14, BK116, HB⟩ := hcut
            cases kq with
            | zero => exact absurd HA.out (by simp [chain_Check.j2])
            | succ kj14 =>
             have H := HA.out
             clear HA
             simp only [chain_Check.j2] at H
             by_cases c20 : x33_14 = true
             ·subst c20
              have H1 : (some (x12_1, 4)) = some (r1, r2) := by rw [if_pos rfl] at H; exact H
              clear H
              have H := H1
              clear H1
              simp only [Option.some.injEq, Prod.mk.injEq] at H
              obtain ⟨rfl, rfl⟩ := H
              go_wp2
              go_ret2
              exact ⟨by first | rfl | (simp [errW_none, errW_some] <;> rfl) | (simp [*, errW_none, errW_some] <;> rfl), by repeat (first | (with_reducible first | exact HB.out | apply below_alloc | apply pw_below_drewN | apply below_drew1 | refine below_set ?_ GE116.out) | exact HB.out)⟩
             ·replace c20 := Bool.eq_false_iff.mpr c20
              subst c20
              have H1 : (if ((rd_T43 l0 x12_1).f0) ≤ x4_1 then (some (x12_1, 110)) else (chain_Check.l0 kj14 ((rd_T43 l0 x12_1).f0) l0 (l0.length : Int) (wrap64 (x12_1 + 1)))) = some (r1, r2) := by rw [if_neg (show ¬ (false = true) by decide)] at H; exact H
              clear H
              have H := H1
              clear H1
              by_cases c21 : ((rd_T43 l0 x12_1).f0) ≤ x4_1
              ·rw [if_pos c21] at H
               have c21b0 : decide (((rd_T43 l0 x12_1).f0) ≤ x4_1) = true := decide_eq_true c21
               clear c21
               simp only [Option.some.injEq, Prod.mk.injEq] at H
               obtain ⟨rfl, rfl⟩ := H
               have hcz22_0 : wc.cell? ⟨gb116, 0, none⟩ = some (.int .i64 ((rd_T43 l0 x12_1).f0)) := (blk_cell BK116.out 0).trans rfl
               have hcz22_1 : wc.cell? ⟨gb116, 1, none⟩ = some (.string ((rd_T43 l0 x12_1).f1)) := (blk_cell BK116.out 1).trans rfl
               have hcz22_2 : wc.cell? ⟨gb116, 2, none⟩ = some (.bool ((rd_T43 l0 x12_1).f2)) := (blk_cell BK116.out 2).trans rfl
               have hfz22_0 := blk_frozen BK116.out 0
               have hfz22_1 := blk_frozen BK116.out 1
               have hfz22_2 := blk_frozen BK116.out 2
               go_wp2
               go_ret2
               exact ⟨by first | rfl | (simp [errW_none, errW_some] <;> rfl) | (simp [*, errW_none, errW_some] <;> rfl), by repeat (first | (with_reducible first | exact HB.out | apply below_alloc | apply pw_below_drewN | apply below_drew1 | refine below_set ?_ GE116.out) | exact HB.out)⟩
              ·rw [if_neg c21] at H
               have c21b0 : decide (((rd_T43 l0 x12_1).f0) ≤ x4_1) = false := decide_eq_false c21
               clear c21
               have H' := Aside0.mk H
               clear H
               have hcz23_0 : wc.cell? ⟨gb116, 0, none⟩ = some (.int .i64 ((rd_T43 l0 x12_1).f0)) := (blk_cell BK116.out 0).trans rfl
               have hcz23_1 : wc.cell? ⟨gb116, 1, none⟩ = some (.string ((rd_T43 l0 x12_1).f1)) := (blk_cell BK116.out 1).trans rfl
               have hcz23_2 : wc.cell? ⟨gb116, 2, none⟩ = some (.bool ((rd_T43 l0 x12_1).f2)) := (blk_cell BK116.out 2).trans rfl
               have hfz23_0 := blk_frozen BK116.out 0
               have hfz23_1 := blk_frozen BK116.out 1
               have hfz23_2 := blk_frozen BK116.out 2
               go_wp2
               go_roundg kj14
               case measure => have := HK1.out; have := HJ5.out; have := HJ14.out; omega
               case rel => exact ⟨(((rd_T43 l0 x12_1).f0)), (wrap64 (x12_1 + 1)), (by first | rfl | (simp; done) | (simp [*]; done)), (by first | rfl | (simp; done) | (simp [*]; done)), H', ⟨by have := HK1.out; have := HJ5.out; have := HJ14.out; omega⟩, ⟨by repeat (first | (with_reducible first | exact HB.out | apply below_alloc | apply pw_below_drewN | apply below_drew1 | refine below_set ?_ GE116.out) | exact HB.out)⟩⟩
      ·rw [if_neg c5] at H
       exact absurd H (by simp)
     ·rw [if_neg c4] at H
      exact absurd H (by simp)
    ·rw [if_neg c3] at H
     have c3b0 : decide (x12_1 < (l0.length : Int)) = false := decide_eq_false c3
     clear c3
     simp only [Option.some.injEq, Prod.mk.injEq] at H
     obtain ⟨rfl, rfl⟩ := H
     go_wp2
     go_ret2
     exact ⟨by first | rfl | (simp [errW_none, errW_some] <;> rfl) | (simp [*, errW_none, errW_some] <;> rfl), by repeat (first | (with_reducible first | exact HB.out | apply below_alloc | apply pw_below_drewN | apply below_drew1) | exact HB.out)⟩

end Go.Proofs.YtaldfbmjmpkmmaaGreat.PL
namespace Go.Proofs.YtaldfbmjmpkmmaaGreat.PL
open Go.RowKit Go.Proofs.YtaldfbmjmpkmmaaGreatW.PrintWords Go.Proofs.YtaldfbmjmpkmmaaGreatW.PrintLast Go.Proofs.YtaldfbmjmpkmmaaGreatW.PrintMore
attribute [local go_sem] Mk.str_leq Mk.str_gtr Mk.str_geq max2_int min2_int max_two min_two max_three min_three max_four min_four   -- for this text's walks alone
set_option linter.unusedVariables false
set_option linter.unusedSimpArgs false

/-! ### chain_Last: function 101 -/
def chain_Last.f (k : Nat) (l0 : List (S43)) : Option (Int × Int) := (chain_Check.f k l0).bind fun bt117 => (if bt117.2 = 0 then (if (l0.length : Int) = 0 then (some (0, bt117.2)) else (if 0 ≤ (wrap64 ((l0.length : Int) - 1)) then (if (wrap64 ((l0.length : Int) - 1)) < (l0.length : Int) then (some ((rd_T43 l0 (wrap64 ((l0.length : Int) - 1))).f0, 0)) else (none)) else (none))) else (some (0, bt117.2)))
theorem chain_Last.mono : ∀ a0 k, LeO (chain_Last.f k a0) (chain_Last.f (k + 1) a0) := by
 intro a0 k
 unfold chain_Last.f
 repeat' first
   | (with_reducible exact chain_Check.mono _ _)
   | (with_reducible exact LeO.refl _)
   | (with_reducible exact LeO.none _)
   | (with_reducible refine LeO.ite ?_ ?_)
   | (with_reducible refine LeO.bind ?_ (fun _ => ?_))
   | exact chain_Check.mono _ _
   | exact LeO.none _
   | refine LeO.ite ?_ ?_
   | refine LeO.bind ?_ (fun _ => ?_)
set_option maxHeartbeats 8000000 in
set_option maxRecDepth 100000 in
theorem chain_Last.calls (k : Nat) (A0 : Option Addr) (c0 : Nat) (l0 : List (S43)) (r1 : Int) (r2 : Int) (w : World) (hr0 : Kd.C k43 w A0 l0.length l0) (hc0 : l0.length ≤ c0) (h : chain_Last.f k l0 = some (r1, r2)) :
  Calls Tryz.prog 101 #[.slice A0 l0.length c0] w fun e w' => e = .returned (.tuple #[.int .i64 r1, .int .i64 r2]) ∧ Below w.heap.size w w' := by
 have HR0 := Aside0.mk hr0
 have HC0 := Aside0.mk hc0
 clear hr0 hc0
 have HB := Aside0.mk (Below.refl w.heap.size w)
 have H : ((chain_Check.f k l0).bind fun bt117 => (if bt117.2 = 0 then (if (l0.length : Int) = 0 then (some (0, bt117.2)) else (if 0 ≤ (wrap64 ((l0.length : Int) - 1)) then (if (wrap64 ((l0.length : Int) - 1)) < (l0.length : Int) then (some ((rd_T43 l0 (wrap64 ((l0.length : Int) - 1))).f0, 0)) else (none)) else (none))) else (some (0, bt117.2)))) = some (r1, r2) := h
 clear h
 replace H := Option.bind_eq_some_iff.mp H
 obtain ⟨⟨t117, t118⟩, A20, H⟩ := H
 replace H : (if t118 = 0 then (if (l0.length : Int) = 0 then (some (0, t118)) else (if 0 ≤ (wrap64 ((l0.length : Int) - 1)) then (if (wrap64 ((l0.length : Int) - 1)) < (l0.length : Int) then (some ((rd_T43 l0 (wrap64 ((l0.length : Int) - 1))).f0, 0)) else (none)) else (none))) else (some (0, t118))) = some (r1, r2) := H
 have A2 := Aside0.mk A20
 clear A20
 by_cases c3 : t118 = 0
 ·rw [if_pos c3] at H
  have c3b0 : (t118 == 0) = true := beq_iff_eq.mpr c3
  have c3b1 : (t118 != 0) = false := bne_eq_false_iff_eq.mpr c3
  clear c3
  by_cases c4 : (l0.length : Int) = 0
  ·rw [if_pos c4] at H
   have c4b0 : ((l0.length : Int) == 0) = true := beq_iff_eq.mpr c4
   have c4b1 : ((l0.length : Int) != 0) = false := bne_eq_false_iff_eq.mpr c4
   clear c4
   simp only [Option.some.injEq, Prod.mk.injEq] at H
   obtain ⟨rfl, rfl⟩ := H
   go_enter Tryz.func101, Tryz.ntmps101
   go_wp2_with (first | ((with_reducible refine gate_callee (f := 87) rfl ?_); refine goesL_ (some 8) rfl rfl Tryz.func87 (by kernel_rfl) rfl #[.slice A0 l0.length c0] rfl (by (try simp only [List.map_toArray, List.map_cons, List.map_nil]); first | done | rfl | (simp only [List.length_drop, List.length_take]; rfl)) ?_; (with_reducible refine (chain_Check.calls k _ _ l0 t117 t118 _ ?side1 ?side2 A2.out).mono ?_); (case side1 => repeat (first | exact HR0.out | (with_reducible refine Kd.C_alloc ?_ _) | (with_reducible refine Kd.C_drewN ?_ _) | (with_reducible refine Kd.C_drew ?_))); (case side2 => exact HC0.out); rintro e w5 ⟨rfl, hb⟩; refine ⟨_, rfl, ?_⟩; have n0_ := Aside0.mk (below_step (by repeat (first | (with_reducible first | exact HB.out | apply below_alloc | apply pw_below_drewN | apply below_drew1) | exact HB.out)) hb); clear HB; have HB := n0_; clear n0_; (try clear hb); (try clear hb2); (try clear hk); (try clear hi)))
   go_ret2
   exact ⟨by first | rfl | (simp [errW_none, errW_some] <;> rfl) | (simp [*, errW_none, errW_some] <;> rfl), by repeat (first | (with_reducible first | exact HB.out | apply below_alloc | apply pw_below_drewN | apply below_drew1) | exact HB.out)⟩
  ·rw [if_neg c4] at H
   have c4b0 : ((l0.length : Int) == 0) = false := beq_eq_false_iff_ne.mpr c4
   have c4b1 : ((l0.length : Int) != 0) = true := bne_iff_ne.mpr c4
   have c4b2 : ¬ (l0 = []) := fun h_ => c4 (by rw [h_]; rfl)
   obtain ⟨ji6, hji6⟩ : ∃ j_ : Int, (wrap64 ((l0.length : Int) - 1)) = j_ := ⟨_, rfl⟩
   replace H : (if 0 ≤ (ji6) then (if (ji6) < (l0.length : Int) then (some ((rd_T43 l0 (ji6)).f0, 0)) else (none)) else (none)) = some (r1, r2) := by first | (rw [hji6] at H; exact H) | (simp only [hji6] at H ⊢; exact H)
   (try rw [hji6] at A2)
   have hji6w : (IntKind.i64.wrap ((l0.length : Int) - 1)) = ji6 := (i64_w _).trans hji6
   by_cases c7 : 0 ≤ (ji6)
   ·rw [if_pos c7] at H
    have c7b0 : decide (0 ≤ (ji6)) = true := decide_eq_true c7
    clear c7
    by_cases c8 : (ji6) < (l0.length : Int)
    ·rw [if_pos c8] at H
     have c8b0 : decide ((ji6) < (l0.length : Int)) = true := decide_eq_true c8
     clear c8
     simp only [Option.some.injEq, Prod.mk.injEq] at H
     obtain ⟨rfl, rfl⟩ := H
     go_enter Tryz.func101, Tryz.ntmps101
     go_wp2_with (first | ((with_reducible refine gate_callee (f := 87) rfl ?_); refine goesL_ (some 8) rfl rfl Tryz.func87 (by kernel_rfl) rfl #[.slice A0 l0.length c0] rfl (by (try simp only [List.map_toArray, List.map_cons, List.map_nil]); first | done | rfl | (simp only [List.length_drop, List.length_take]; rfl)) ?_; (with_reducible refine (chain_Check.calls k _ _ l0 t117 t118 _ ?side1 ?side2 A2.out).mono ?_); (case side1 => repeat (first | exact HR0.out | (with_reducible refine Kd.C_alloc ?_ _) | (with_reducible refine Kd.C_drewN ?_ _) | (with_reducible refine Kd.C_drew ?_))); (case side2 => exact HC0.out); rintro e w9 ⟨rfl, hb⟩; refine ⟨_, rfl, ?_⟩; have n0_ := Aside0.mk (below_step (by repeat (first | (with_reducible first | exact HB.out | apply below_alloc | apply pw_below_drewN | apply below_drew1) | exact HB.out)) hb); clear HB; have HB := n0_; clear n0_; (try clear hb); (try clear hb2); (try clear hk); (try clear hi); have p119 : 0 ≤ ((ji6) : Int) := of_decide_eq_true (by first | (with_reducible assumption) | assumption); have q119 : (ji6) < (l0.length : Int) := of_decide_eq_true (by first | (with_reducible assumption) | assumption); obtain ⟨ad119, e119, hx119_0, hx119_1, hx119_2⟩ := at_T43 HR0.out (ji6) p119 q119; cases e119; replace hx119_0 := (HB.out.cell (World.block_lt_of_cell? w _ hx119_0)).trans hx119_0; replace hx119_1 := (HB.out.cell (World.block_lt_of_cell? w _ hx119_1)).trans hx119_1; replace hx119_2 := (HB.out.cell (World.block_lt_of_cell? w _ hx119_2)).trans hx119_2; replace p119 := eq_true p119; replace q119 := eq_true q119))
     go_ret2
     exact ⟨by first | rfl | (simp [errW_none, errW_some] <;> rfl) | (simp only [← hji6]; first | rfl | (simp [errW_none, errW_some] <;> rfl)) | (simp [*, errW_none, errW_some] <;> rfl), by repeat (first | (with_reducible first | exact HB.out | apply below_alloc | apply pw_below_drewN | apply below_drew1) | exact HB.out)⟩
    ·rw [if_neg c8] at H
     exact absurd H (by simp)
   ·rw [if_neg c7] at H
    exact absurd H (by simp)
 ·rw [if_neg c3] at H
  have c3b0 : (t118 == 0) = false := beq_eq_false_iff_ne.mpr c3
  have c3b1 : (t118 != 0) = true := bne_iff_ne.mpr c3
  simp only [Option.some.injEq, Prod.mk.injEq] at H
  obtain ⟨rfl, rfl⟩ := H
  go_enter Tryz.func101, Tryz.ntmps101
  go_wp2_with (first | ((with_reducible refine gate_callee (f := 87) rfl ?_); refine goesL_ (some 8) rfl rfl Tryz.func87 (by kernel_rfl) rfl #[.slice A0 l0.length c0] rfl (by (try simp only [List.map_toArray, List.map_cons, List.map_nil]); first | done | rfl | (simp only [List.length_drop, List.length_take]; rfl)) ?_; (with_reducible refine (chain_Check.calls k _ _ l0 t117 t118 _ ?side1 ?side2 A2.out).mono ?_); (case side1 => repeat (first | exact HR0.out | (with_reducible refine Kd.C_alloc ?_ _) | (with_reducible refine Kd.C_drewN ?_ _) | (with_reducible refine Kd.C_drew ?_))); (case side2 => exact HC0.out); rintro e w10 ⟨rfl, hb⟩; refine ⟨_, rfl, ?_⟩; have n0_ := Aside0.mk (below_step (by repeat (first | (with_reducible first | exact HB.out | apply below_alloc | apply pw_below_drewN | apply below_drew1) | exact HB.out)) hb); clear HB; have HB := n0_; clear n0_; (try clear hb); (try clear hb2); (try clear hk); (try clear hi)))
  go_ret2
  exact ⟨by first | rfl | (simp [errW_none, errW_some] <;> rfl) | (simp [*, errW_none, errW_some] <;> rfl), by repeat (first | (with_reducible first | exact HB.out | apply below_alloc | apply pw_below_drewN | apply below_drew1) | exact HB.out)⟩

end Go.Proofs.YtaldfbmjmpkmmaaGreat.PL
namespace Go.Proofs.YtaldfbmjmpkmmaaGreat.PL
open Go.RowKit Go.Proofs.YtaldfbmjmpkmmaaGreatW.PrintWords Go.Proofs.YtaldfbmjmpkmmaaGreatW.PrintLast Go.Proofs.YtaldfbmjmpkmmaaGreatW.PrintMore Go.Shelf Go.Sort
set_option linter.unusedVariables false
set_option linter.unusedSimpArgs false
theorem rdV_nat (l : Chain) (i : Nat) (h : i < l.length) : rd_T43 l (i : Int) = l[i] := by
  unfold rd_T43; simp [List.getElem?_eq_getElem h]
theorem rdV_getD (l : Chain) (i : Nat) (h : i < l.length) : rd_T43 l (i : Int) = l.getD i zVer := by
  rw [rdV_nat l i h]; simp [List.getElem?_eq_getElem h]
theorem chk_from (l : Chain) (hv : ∀ v ∈ l, VerOk v) (hl : l.length ≤ 1024) (hr : l.Pairwise (fun x y => x.f0 < y.f0)) (d : Nat) : ∀ (k i : Nat) (last : Int), i + d = l.length → 3 * d < k → (∀ v ∈ l.drop i, last < v.f0) →
    chain_Check.l0 k last l (l.length : Int) (i : Int) = some (0, 0) := by
  induction d with
  | zero =>
    intro k i last hd hk _
    obtain ⟨k, rfl⟩ : ∃ m, k = m + 1 := ⟨k - 1, by omega⟩
    simp only [chain_Check.l0]
    rw [if_neg (by omega)]
  | succ d ih =>
    intro k i last hd hk hlast
    obtain ⟨k, rfl⟩ : ∃ m, k = m + 1 + 1 + 1 := ⟨k - 3, by omega⟩
    have hi : i < l.length := by omega
    obtain ⟨v1, v2, v3, v4⟩ := hv l[i] (List.getElem_mem hi)
    have hd2 : l.drop i = l[i] :: l.drop (i + 1) := List.drop_eq_getElem_cons hi
    have h0 : last < l[i].f0 := hlast l[i] (by rw [hd2]; exact List.mem_cons_self)
    have e3 : wrap64 ((i : Int) + 1) = ((i + 1 : Nat) : Int) := by rw [w64 _ (by omega) (by omega)]; omega
    have hnext : ∀ v ∈ l.drop (i + 1), l[i].f0 < v.f0 := fun v hv => by
      have := hr.sublist (List.drop_sublist i l)
      rw [hd2] at this
      exact (List.pairwise_cons.1 this).1 v hv
    have ih2 := ih k (i + 1) l[i].f0 (by omega) (by omega) hnext
    simp only [chain_Check.l0]
    rw [if_pos (by omega), if_pos (by omega), if_pos (by omega), rdV_nat l i hi, if_neg (by omega)]
    simp only [chain_Check.j1]
    rw [if_neg (by simp; omega), if_neg (by omega)]
    cases hdd : l[i].f2 with
    | true =>
      have hs : (l[i].f1.toList != ([] : List UInt8)) = false := by rw [v4 hdd]; rfl
      rw [if_pos rfl, hs]
      simp only [chain_Check.j2]
      rw [if_neg (by simp), if_neg (by omega), e3]
      exact ih2
    | false =>
      rw [if_neg (by simp)]
      simp only [chain_Check.j2]
      rw [if_neg (by simp), if_neg (by omega), e3]
      exact ih2
theorem chk_f {l : Chain} (h : ChainOk l) : chain_Check.f 4000 l = some (0, 0) := by
  have hl := h.len
  unfold chain_Check.f
  rw [if_neg (by omega)]
  exact chk_from l h.ver h.len h.rise l.length 4000 0 0 (by omega) (by omega) (fun v hv => by
    have := (h.ver v (List.mem_of_mem_drop hv)).1
    omega)
theorem last_f {l : Chain} (h : ChainOk l) : chain_Last.f 4000 l = some (lastV l, 0) := by
  have hl := h.len
  unfold chain_Last.f
  rw [chk_f h, Option.bind_some]
  simp only
  rw [if_pos trivial]
  by_cases h0 : l.length = 0
  · obtain rfl := List.eq_nil_of_length_eq_zero h0
    rw [if_pos (by simp)]
    rfl
  · have e : wrap64 ((l.length : Int) - 1) = ((l.length - 1 : Nat) : Int) := by rw [w64 _ (by omega) (by omega)]; omega
    rw [if_neg (by omega), e, if_pos (by omega), if_pos (by omega), rdV_nat l _ (by omega)]
    unfold lastV
    rw [List.getLast?_eq_getElem?, List.getElem?_eq_getElem (by omega)]
    rfl
theorem cnt_until (t : Int) : ∀ (l : Chain), l.Pairwise (fun x y => x.f0 < y.f0) → (List.range l.length).countP (fun i => !decide (t < (l.getD i zVer).f0)) = untilV l t
  | [], _ => rfl
  | v :: r, h => by
    obtain ⟨h1, h2⟩ := List.pairwise_cons.1 h
    rw [List.length_cons, List.range_succ_eq_map, List.countP_cons, List.countP_map, until_cons]
    have e : ((fun i => !decide (t < ((v :: r).getD i zVer).f0)) ∘ Nat.succ) = (fun i => !decide (t < (r.getD i zVer).f0)) := by
      funext i
      simp
    rw [e, cnt_until t r h2]
    by_cases hv : v.f0 ≤ t
    · rw [if_pos hv, if_pos (by simpa using hv)]
    · rw [if_neg hv, if_neg (by simpa using hv)]
      have : untilV r t = 0 := by
        cases r with
        | nil => rfl
        | cons u r =>
          have := h1 u List.mem_cons_self
          rw [until_cons, if_neg (by omega)]
      omega
set_option maxRecDepth 100000 in
theorem until1_walk (W : World) (bl bt : Nat) (A : Option Addr) (c : Nat) (l : Chain) (t : Int) (i : Nat) (hi : i < l.length) (hl : W.cell? ⟨bl, 0, none⟩ = some (.slice A l.length c)) (ht : W.cell? ⟨bt, 0, none⟩ = some (.int .i64 t)) (hc : Kd.C k43 W A l.length l) :
    Calls Tryz.prog 117 (#[.int .i64 (i : Int)] ++ #[.pointer (some ⟨bl, 0, none⟩), .pointer (some ⟨bt, 0, none⟩)]) W fun e w' => e = .returned (.bool (decide (t < (l.getD i zVer).f0))) ∧ ∃ q, w' = W.drewN q := by
  obtain ⟨ad, rfl, c0, c1, c2⟩ := at_T43 hc (i : Int) (by omega) (by omega)
  have hm := Kd.C_max hc
  rw [rdV_getD l i hi, Int.toNat_natCast] at c0
  have hu := Tryz.underlying43
  generalize l.getD i zVer = v at *
  clear c1 c2 hc
  show Calls Tryz.prog 117 #[.int .i64 (i : Int), .pointer (some ⟨bl, 0, none⟩), .pointer (some ⟨bt, 0, none⟩)] W _
  go_enter Tryz.func117, Tryz.ntmps117
  go_wp2_with fail
  go_quiet (fail)
  all_goals (try go_wp2)
  go_ret
  exact ⟨rfl, _, rfl⟩
theorem last_walk (w : World) (A : Option Addr) (c : Nat) (l : Chain) (hr : Kd.C k43 w A l.length l) (hc : l.length ≤ c) (h : ChainOk l) :
    Calls Tryz.prog 101 #[.slice A l.length c] w fun e w' => e = .returned (.tuple #[.int .i64 (lastV l), .int .i64 0]) ∧ Below w.heap.size w w' := chain_Last.calls 4000 A c l _ _ w hr hc (last_f h)
theorem check_walk (w : World) (A : Option Addr) (c : Nat) (l : Chain) (hr : Kd.C k43 w A l.length l) (hc : l.length ≤ c) (h : ChainOk l) :
    Calls Tryz.prog 87 #[.slice A l.length c] w fun e w' => e = .returned (.tuple #[.int .i64 0, .int .i64 0]) ∧ Below w.heap.size w w' := chain_Check.calls 4000 A c l _ _ w hr hc (chk_f h)
theorem until_mono2 (l : Chain) (t : Int) (h : l.Pairwise (fun x y => x.f0 < y.f0)) (a b : Nat) (hab : a ≤ b) (hb : b < l.length) (ha : decide (t < (l.getD a zVer).f0) = true) : decide (t < (l.getD b zVer).f0) = true := by
  rcases Nat.eq_or_lt_of_le hab with rfl | hlt
  · exact ha
  · have h1 : l.getD a zVer = l[a] := by simp [List.getElem?_eq_getElem (show a < l.length by omega)]
    have h2 : l.getD b zVer = l[b] := by simp [List.getElem?_eq_getElem hb]
    rw [h1] at ha
    rw [h2]
    have h3 := List.pairwise_iff_getElem.1 h a b (by omega) hb hlt
    have h4 := of_decide_eq_true ha
    exact decide_eq_true (by omega)
set_option maxRecDepth 100000 in
theorem until_walk (w : World) (A : Option Addr) (c : Nat) (l : Chain) (t : Int) (hr : Kd.C k43 w A l.length l) (h : ChainOk l) :
    Calls Tryz.prog 88 #[.slice A l.length c, .int .i64 t] w fun e w' => e = .returned (.int .i64 ((untilV l t : Nat) : Int)) ∧ Below w.heap.size w w' := by
  obtain ⟨w2, hw2⟩ : ∃ w2, w2 = (w.alloc (.cells #[.slice A l.length c] 74)).alloc (.cells #[.int .i64 t] 3) := ⟨_, rfl⟩
  have hB : Below w.heap.size w w2 := by rw [hw2]; exact below_alloc (below_alloc (Below.refl _ w) _) _
  have hs2 : w2.heap.size = w.heap.size + 2 := by rw [hw2]; simp
  have b1 : w2.heap[w.heap.size]? = some (.cells #[.slice A l.length c] 74 (0, 0)) := by rw [hw2]; exact blk_alloc (blk_new _ _) _
  have b2 : w2.heap[w.heap.size + 1]? = some (.cells #[.int .i64 t] 3 (0, 0)) := by
    rw [hw2]
    have := blk_new (w.alloc (.cells #[.slice A l.length c] 74)) (.cells #[.int .i64 t] 3)
    simpa using this
  have hl := h.len
  have hcon := Any.sort_Search Tryz.search 117 #[.pointer (some ⟨w.heap.size, 0, none⟩), .pointer (some ⟨w.heap.size + 1, 0, none⟩)] l.length (fun i => decide (t < (l.getD i zVer).f0)) w2
    (enters_of Tryz.func117 (by kernel_rfl) rfl) (by omega) (fun m os i hi => by
      have hG := below_grown_sl w2.heap.size w2 m os (Nat.le_refl _)
      refine (until1_walk (grow (w2.drewN m) os) w.heap.size (w.heap.size + 1) A c l t i hi ?_ ?_ ?_).mono ?_
      · rw [blk_cell (blk_below b1 hG) 0]; rfl
      · rw [blk_cell (blk_below b2 hG) 0]; rfl
      · exact Kd.C_below (Kd.C_below hr hB) hG
      · rintro e w' ⟨he, q, rfl⟩
        exact ⟨he, q, #[], by rw [grow_empty]⟩) (until_mono2 l t h.rise)
  rw [cnt_until t l h.rise] at hcon
  change Calls Tryz.prog 116 _ _ _ at hcon
  have HC := Aside0.mk hcon
  have HB := Aside0.mk hB
  have HW := Aside0.mk hw2
  clear hcon hB hw2 b1 b2 hr h hs2
  generalize untilV l t = n at *
  go_enter Tryz.func88, Tryz.ntmps88
  go_wp2_with fail
  rw [← HW.out]
  refine HC.out.mono ?_
  rintro e w' ⟨rfl, q, os, rfl⟩
  have HB2 : Aside0 (Below w.heap.size w (grow (w2.drewN q) os)) := ⟨HB.out.trans (below_grown_sl w.heap.size w2 q os HB.out.size)⟩
  go_wp2_with fail
  go_ret
  exact ⟨rfl, HB2.out⟩
end Go.Proofs.YtaldfbmjmpkmmaaGreat.PL
namespace Go.Proofs.YtaldfbmjmpkmmaaGreat.PL
open Go.RowKit Go.Proofs.YtaldfbmjmpkmmaaGreatW.PrintWords Go.Proofs.YtaldfbmjmpkmmaaGreatW.PrintLast Go.Proofs.YtaldfbmjmpkmmaaGreatW.PrintMore Go.Shelf Go.Sort
set_option linter.unusedVariables false
set_option linter.unusedSimpArgs false
def verV (v : Ver) : Value := .agg #[.int .i64 v.f0, .string v.f1, .bool v.f2]
set_option maxRecDepth 100000 in
set_option maxHeartbeats 1000000 in
theorem at_walk (w : World) (A : Option Addr) (c : Nat) (l : Chain) (t : Int) (hr : Kd.C k43 w A l.length l) (hc : l.length ≤ c) (h : ChainOk l) :
    Calls Tryz.prog 41 #[.slice A l.length c, .int .i64 t] w fun e w' => e = .returned (.tuple #[.agg #[.int .i64 (atV l t).1.f0, .string (atV l t).1.f1, .bool (atV l t).1.f2], .bool (atV l t).2, .int .i64 0]) ∧ Below w.heap.size w w' := by
  have HR := Aside0.mk hr
  have HC := Aside0.mk hc
  have HO := Aside0.mk h
  have hl := h.len
  have hul := until_le l t
  have hu := Tryz.underlying43
  have HA : Aside0 (atV l t = if untilV l t = 0 then (zVer, false) else (l.getD (untilV l t - 1) zVer, true)) := ⟨rfl⟩
  have HUN : Aside0 (∀ W, Below w.heap.size w W → Calls Tryz.prog 88 #[.slice A l.length c, .int .i64 t] W fun e w' => e = .returned (.int .i64 ((untilV l t : Nat) : Int)) ∧ Below W.heap.size W w') := ⟨fun W hW => until_walk W A c l t (Kd.C_below hr hW) h⟩
  have HCH : Aside0 (∀ W, Below w.heap.size w W → Calls Tryz.prog 87 #[.slice A l.length c] W fun e w' => e = .returned (.tuple #[.int .i64 0, .int .i64 0]) ∧ Below W.heap.size W w') := ⟨fun W hW => check_walk W A c l (Kd.C_below hr hW) hc h⟩
  generalize atV l t = r at *
  generalize untilV l t = n at *
  clear hr hc h
  go_enter Tryz.func41, Tryz.ntmps41
  have hbx : (w.alloc (.cells #[.int .i64 0, .string ⟨#[]⟩, .bool false] 43)).heap[w.heap.size]? = some (.cells #[.int .i64 0, .string ⟨#[]⟩, .bool false] 43 (0, 0)) := blk_new _ _
  have hb0 := below_alloc (Below.refl _ w) (.cells #[.int .i64 0, .string ⟨#[]⟩, .bool false] 43)
  go_wp2_with fail
  refine (HCH.out _ hb0).mono ?_
  rintro e w1 ⟨rfl, hb1⟩
  have HB1 : Aside0 (Below w.heap.size w w1) := ⟨hb0.trans (hb1.mono hb0.size)⟩
  have BX1 := Aside0.mk (blk_below hbx hb1)
  clear hb1 hbx hb0
  go_wp2_with fail
  refine (HUN.out w1 HB1.out).mono ?_
  rintro e w2 ⟨rfl, hb2⟩
  have HB2 : Aside0 (Below w.heap.size w w2) := ⟨HB1.out.trans (hb2.mono HB1.out.size)⟩
  have BX2 := Aside0.mk (blk_below BX1.out hb2)
  clear hb2 BX1 HB1
  have y0 := blk_cell BX2.out 0
  have y1 := blk_cell BX2.out 1
  have y2 := blk_cell BX2.out 2
  have f0 := blk_frozen BX2.out 0
  have f1 := blk_frozen BX2.out 1
  have f2 := blk_frozen BX2.out 2
  by_cases hn : n = 0
  · subst hn
    rw [if_pos rfl] at HA
    go_wp2_with fail
    (try simp only [Exit.inBlock, Exit.then])
    refine bodyPost_ret (results_list (rs := [.cell 4 43, .tmp 5, .tmp 6]) rfl (by simp) (Vals.cell w.heap.size 43 _ (0, 0) _ rfl (blk_put (blk_put (blk_put BX2.out 0 _ rfl) 1 _ rfl) 2 _ rfl) Tryz.underlying43 rfl (by kernel_rfl) (Vals.tmp (Vals.tmp Vals.nil)))) rfl ?_
    exact ⟨by rw [HA.out]; rfl, ((HB2.out.setCell (Nat.le_refl _) _).setCell (Nat.le_refl _) _).setCell (Nat.le_refl _) _⟩
  · rw [if_neg hn] at HA
    obtain ⟨m, rfl⟩ : ∃ m, n = m + 1 := ⟨n - 1, by omega⟩
    obtain ⟨ad, rfl, c0, c1, c2⟩ := at_T43 (Kd.C_below HR.out HB2.out) (m : Int) (by omega) (by omega)
    rw [rdV_getD l m (by omega), Int.toNat_natCast] at c0 c1 c2
    have hm1 : ((m + 1 : Nat) : Int) - 1 = (m : Int) := by omega
    rw [Nat.add_sub_cancel] at HA
    generalize l.getD m zVer = v at *
    go_wp2_with fail
    (try simp only [Exit.inBlock, Exit.then])
    refine bodyPost_ret (results_list (rs := [.cell 4 43, .tmp 5, .tmp 6]) rfl (by simp) (Vals.cell w.heap.size 43 _ (0, 0) _ rfl (blk_put (blk_put (blk_put BX2.out 0 _ rfl) 1 _ rfl) 2 _ rfl) Tryz.underlying43 rfl (by kernel_rfl) (Vals.tmp (Vals.tmp Vals.nil)))) rfl ?_
    exact ⟨by rw [HA.out]; rfl, ((HB2.out.setCell (Nat.le_refl _) _).setCell (Nat.le_refl _) _).setCell (Nat.le_refl _) _⟩
set_option maxRecDepth 100000 in
set_option maxHeartbeats 1000000 in
theorem sweepC_walk (w : World) (A : Option Addr) (c : Nat) (l : Chain) (t : Int) (hr : Kd.C k43 w A l.length l) (hc : l.length ≤ c) (h : ChainOk l) :
    Calls Tryz.prog 77 #[.slice A l.length c, .int .i64 t] w fun e w' => ∃ v, e = .returned (.tuple #[v, .int .i64 0]) ∧ Kd.R k43 43 w' w.heap.size (fun _ => True) v (sweepC l t) ∧ Below w.heap.size w w' := by
  have HR := Aside0.mk hr
  have HC := Aside0.mk hc
  have hl := h.len
  have hul := until_le l t
  have hu := Tryz.underlying43
  have HUN : Aside0 (∀ W, Below w.heap.size w W → Calls Tryz.prog 88 #[.slice A l.length c, .int .i64 t] W fun e w' => e = .returned (.int .i64 ((untilV l t : Nat) : Int)) ∧ Below W.heap.size W w') := ⟨fun W hW => until_walk W A c l t (Kd.C_below hr hW) h⟩
  have HCH : Aside0 (∀ W, Below w.heap.size w W → Calls Tryz.prog 87 #[.slice A l.length c] W fun e w' => e = .returned (.tuple #[.int .i64 0, .int .i64 0]) ∧ Below W.heap.size W w') := ⟨fun W hW => check_walk W A c l (Kd.C_below hr hW) hc h⟩
  have hfr : sweepFrom l t ≤ l.length := by unfold sweepFrom; split <;> omega
  obtain ⟨i0, hi0, _, hsz, _⟩ := info_parts infoV
  have HCL : Aside0 (∀ W, Below w.heap.size w W → Calls Tryz.prog 110 #[.slice (if c = sweepFrom l t then A else A.map (·.add (sweepFrom l t * 3))) (l.length - sweepFrom l t) (c - sweepFrom l t)] W fun e w' => ∃ v, e = .returned v ∧ Kd.R k43 43 w' W.heap.size (fun _ => True) v (sweepC l t) ∧ Below W.heap.size W w') := ⟨fun W hW => by
    have h1 := Kd.C_drop (Kd.C_below hr hW) hfr hc
    have h2 := clone_ver W _ (c - sweepFrom l t) (l.drop (sweepFrom l t)) h1 (by rw [List.length_drop]; omega)
    rw [List.length_drop] at h2
    exact h2⟩
  have hcut := cut_from (P := Tryz.prog) 74 43 .i64 Tryz.underlying74 hi0 3 hsz A l.length c (sweepFrom l t : Int) (by omega) (by omega)
  rw [Int.toNat_natCast] at hcut
  generalize (if c = sweepFrom l t then A else A.map (·.add (sweepFrom l t * 3))) = A2 at hcut HCL
  have HS : Aside0 (sweepFrom l t = if 0 < untilV l t ∧ (l.getD (untilV l t - 1) zVer).f2 = false then untilV l t - 1 else untilV l t) := ⟨rfl⟩
  generalize sweepC l t = r at *
  generalize sweepFrom l t = m at *
  generalize untilV l t = n at *
  clear hr hc h
  go_enter Tryz.func77, Tryz.ntmps77
  go_wp2_with fail
  refine (HCH.out _ (Below.refl _ _)).mono ?_
  rintro e w1 ⟨rfl, hb1⟩
  have HB1 := Aside0.mk hb1
  clear hb1
  go_wp2_with fail
  refine (HUN.out w1 HB1.out).mono ?_
  rintro e w2 ⟨rfl, hb2⟩
  have HB2 : Aside0 (Below w.heap.size w w2) := ⟨HB1.out.trans (hb2.mono HB1.out.size)⟩
  clear hb2 HB1
  by_cases hn : n = 0
  · subst hn
    rw [if_neg (by omega)] at HS
    have hm0 : m = 0 := HS.out
    subst hm0
    clear HS
    have hcut0 : ∀ W, (Instr.slice 74 (.slice A l.length c) (some (.int .i64 0)) none none).run Tryz.prog W = .ok (.slice A2 (l.length - 0) (c - 0)) W := hcut
    clear hcut
    rw [Nat.sub_zero, Nat.sub_zero] at hcut0 HCL
    go_wp2_with fail
    refine (HCL.out _ HB2.out).mono ?_
    rintro e w3 ⟨vr, rfl, hvr, hb3⟩
    have HV3 := Aside0.mk (Kd.R_lower hvr HB2.out.size)
    have HB3 : Aside0 (Below w.heap.size w w3) := ⟨HB2.out.trans (hb3.mono HB2.out.size)⟩
    clear hvr hb3
    go_wp2_with fail
    go_ret2
    exact ⟨_, rfl, HV3.out, HB3.out⟩
  · obtain ⟨k, rfl⟩ : ∃ k, n = k + 1 := ⟨n - 1, by omega⟩
    rw [Nat.add_sub_cancel] at HS
    obtain ⟨ad, rfl, c0, c1, c2⟩ := at_T43 (Kd.C_below HR.out HB2.out) (k : Int) (by omega) (by omega)
    rw [rdV_getD l k (by omega), Int.toNat_natCast] at c2
    have hk1 : ((k + 1 : Nat) : Int) - 1 = (k : Int) := by omega
    clear c0 c1
    generalize l.getD k zVer = v at *
    cases hd : v.f2 with
    | true =>
      rw [hd] at c2 HS
      rw [if_neg (by simp)] at HS
      have hm : m = k + 1 := HS.out
      subst hm
      clear HS
      rw [show ((k + 1 : Nat) : Int) = (k : Int) + 1 by omega] at hcut
      go_wp2_with fail
      refine (HCL.out _ HB2.out).mono ?_
      rintro e w3 ⟨vr, rfl, hvr, hb3⟩
      have HV3 := Aside0.mk (Kd.R_lower hvr HB2.out.size)
      have HB3 : Aside0 (Below w.heap.size w w3) := ⟨HB2.out.trans (hb3.mono HB2.out.size)⟩
      clear hvr hb3
      go_wp2_with fail
      go_ret2
      exact ⟨_, rfl, HV3.out, HB3.out⟩
    | false =>
      rw [hd] at c2 HS
      rw [if_pos (by simp)] at HS
      have hm : m = k := HS.out
      subst hm
      clear HS
      go_wp2_with fail
      refine (HCL.out _ HB2.out).mono ?_
      rintro e w3 ⟨vr, rfl, hvr, hb3⟩
      have HV3 := Aside0.mk (Kd.R_lower hvr HB2.out.size)
      have HB3 : Aside0 (Below w.heap.size w w3) := ⟨HB2.out.trans (hb3.mono HB2.out.size)⟩
      clear hvr hb3
      go_wp2_with fail
      go_ret2
      exact ⟨_, rfl, HV3.out, HB3.out⟩
end Go.Proofs.YtaldfbmjmpkmmaaGreat.PL
namespace Go.Proofs.YtaldfbmjmpkmmaaGreat.PL
open Go.RowKit Go.Proofs.YtaldfbmjmpkmmaaGreatW.PrintWords Go.Proofs.YtaldfbmjmpkmmaaGreatW.PrintLast Go.Proofs.YtaldfbmjmpkmmaaGreatW.PrintMore Go.Shelf Go.Sort
set_option linter.unusedVariables false
set_option linter.unusedSimpArgs false
/-- slices.Grow of nil. -/
theorem grow_walk (w : World) (n : Nat) (h0 : 0 < n) (hn : n ≤ 8192) :
    Calls Tryz.prog 134 #[.slice none 0 0, .int .i64 (n : Int)] w fun e w' => ∃ v, e = .returned v ∧ Kd.R k43 43 w' w.heap.size (fun _ => True) v [] ∧ Below w.heap.size w w' := by
  obtain ⟨i0, hi0, hz0, hsz, hby⟩ := info_parts infoV
  have hcon := Any8.slices_Grow_grow Tryz.growV i0 (.agg #[.int .i64 0, .string ⟨#[]⟩, .bool false]) hi0 hz0 (by omega) none 0 0 n [] w (Nat.le_refl _) (by omega) (by rw [hby]; omega) (by omega) (by simp) (fun _ => rfl) (fun a h => by cases h)
  refine hcon.mono ?_
  rintro e w' ⟨rfl, rfl⟩
  have hcap := grownCap_ge w (0 + n) 0 43
  refine ⟨_, rfl, ⟨fun k hk => trivial, [], ⟨by simp, .inr ⟨w.heap.size, _, _, rfl, Nat.le_refl _, blk_new _ _, Nat.zero_le _, ?_, ?_, by simp⟩⟩, Reps.none _ _⟩, ?_⟩
  · have h8 : (8192 : Nat) ≤ maxLen := by decide
    exact grownCap_le_maxLen w (0 + n) 0 43 (by omega)
  · show _ = grownCap w (0 + n) 0 43 * 3
    show (_ ++ Builtin.zeroCells _ (grownCap w (0 + n) 0 43 - (0 + n))).size = _
    generalize grownCap w (0 + n) 0 43 = cap at *
    simp [Builtin.zeroCells, Value.cells]
    omega
  · exact below_alloc (below_drew (Below.refl _ w)) _
/-- The two chains' lengths, and the chains, up to the k-th. -/
def upLen (l m : Chain) : Nat → Nat
  | 0 => 0
  | 1 => l.length
  | _ => l.length + m.length
def upTo (l m : Chain) : Nat → Chain
  | 0 => []
  | 1 => l
  | _ => l ++ m
set_option maxRecDepth 100000 in
set_option maxHeartbeats 2000000 in
theorem concat_walk (w : World) (g : Nat) (A A2 : Option Addr) (c c2 : Nat) (l m : Chain) (hg0 : w.cell? ⟨g, 0, none⟩ = some (.slice A l.length c)) (hg1 : w.cell? ⟨g, 1, none⟩ = some (.slice A2 m.length c2)) (hr : Kd.C k43 w A l.length l) (hr2 : Kd.C k43 w A2 m.length m) (hl : l.length ≤ 1024) (hm : m.length ≤ 1024) (hm0 : 0 < m.length) :
    Calls Tryz.prog 111 #[.slice (some ⟨g, 0, none⟩) 2 2] w fun e w' => ∃ v, e = .returned v ∧ Kd.R k43 43 w' w.heap.size (fun _ => True) v (l ++ m) ∧ Below w.heap.size w w' := by
  have HG := Aside0.mk (And.intro hg0 hg1)
  have HR := Aside0.mk (And.intro hr hr2)
  have hs0 : upLen l m 0 = 0 := rfl
  have hs1 : upLen l m 1 = l.length := rfl
  have hs2 : upLen l m 2 = l.length + m.length := rfl
  clear hg0 hg1 hr hr2
  go_enter Tryz.func111, Tryz.ntmps111
  go_wp2
  go_loopw [3, 11] (fun v3 i wr => ∃ k : Nat, k ≤ 2 ∧ i = .int .i64 (k : Int) ∧ v3 = .int .i64 ((upLen l m k : Nat) : Int) ∧ Aside0 (Below w.heap.size w wr)) (fun _ i _ => 2 - (intOf i).toNat)
  case atStart => exact ⟨0, by omega, rfl, rfl, ⟨Below.refl _ _⟩⟩
  case round =>
    obtain ⟨k, hk, rfl, rfl, HB⟩ := hrel
    have q0 := (HB.out.cell (p := ⟨g, 0, none⟩) (World.block_lt_of_cell? w _ HG.out.1)).trans HG.out.1
    have q1 := (HB.out.cell (p := ⟨g, 1, none⟩) (World.block_lt_of_cell? w _ HG.out.2)).trans HG.out.2
    match k, hk with
    | 0, _ =>
      rw [hs0]
      go_wp2_with fail
      go_roundw
      case rel => exact ⟨1, by omega, by go_num, by first | (rw [hs1]; done) | (rw [hs1]; go_num) | (rw [hs1]; rfl), HB⟩
      case measure => simp [intOf]
    | 1, _ =>
      rw [hs1]
      go_wp2_with fail
      go_roundw
      case rel => exact ⟨2, by omega, by go_num, by first | (rw [hs2]; done) | (rw [hs2]; go_num) | (rw [hs2]; rfl), HB⟩
      case measure => simp [intOf]
    | 2, _ =>
      rw [hs2]
      have hgw := grow_walk wr (l.length + m.length) (by omega) (by omega)
      rw [show (((l.length + m.length : Nat)) : Int) = (l.length : Int) + (m.length : Int) by omega] at hgw ⊢
      have HGW := Aside0.mk hgw
      clear hgw
      go_wp2_with fail
      refine HGW.out.mono ?_
      rintro e w2 ⟨v, rfl, hv, hb2⟩
      have HB2 : Aside0 (Below w.heap.size w w2) := ⟨HB.out.trans (hb2.mono HB.out.size)⟩
      have HV2 := Aside0.mk (Kd.R_lower hv HB.out.size)
      clear hv hb2 q0 q1
      go_wp2_with fail
      go_loopw [6, 27] (fun v6 i wz => ∃ k : Nat, k ≤ 2 ∧ i = .int .i64 (k : Int) ∧ Aside0 (Kd.R k43 43 wz w.heap.size (fun _ => True) v6 (upTo l m k)) ∧ Aside0 (Below w.heap.size w wz)) (fun _ i _ => 2 - (intOf i).toNat)
      case atStart => exact ⟨0, by omega, rfl, HV2, HB2⟩
      case round =>
        obtain ⟨k, hk, rfl, HV, HBZ⟩ := hrel
        generalize u6 = v at *
        have q0 := (HBZ.out.cell (p := ⟨g, 0, none⟩) (World.block_lt_of_cell? w _ HG.out.1)).trans HG.out.1
        have q1 := (HBZ.out.cell (p := ⟨g, 1, none⟩) (World.block_lt_of_cell? w _ HG.out.2)).trans HG.out.2
        match k, hk with
        | 0, _ =>
          go_wp2_with (first | ((with_reducible refine gate_builtin (b := .append) (xs := #[.tmp 31, .tmp 32]) rfl ?_); at_builtin; refine Kd.R_append_rows k43 (w0 := w) w.heap.size rfl (.tmp 31) (.tmp 32) 74 43 (.agg #[.int .i64 0, .string ⟨#[]⟩, .bool false]) 32 rfl Tryz.underlying74 infoV rfl (by decide) (by omega) v (upTo l m 0) l A l.length c (fun _ => True) (fun _ => False) rfl rfl HV.out (Kd.C_below HR.out.1 HBZ.out) (fun _ _ h => h) (fun _ h => h.elim) (fun _ _ => trivial) HBZ.out HBZ.out.size (by simp only [upTo, List.length_nil]; omega) ?_; intro v1 w3 ho hb hg hat; have HV3 := Aside0.mk ho; have HB3 := Aside0.mk hb; clear ho hb hg hat))
          go_roundw
          case rel => exact ⟨1, by omega, by go_num, ⟨by simpa [upTo] using HV3.out⟩, HB3⟩
          case measure => simp [intOf]
        | 1, _ =>
          go_wp2_with (first | ((with_reducible refine gate_builtin (b := .append) (xs := #[.tmp 31, .tmp 32]) rfl ?_); at_builtin; refine Kd.R_append_rows k43 (w0 := w) w.heap.size rfl (.tmp 31) (.tmp 32) 74 43 (.agg #[.int .i64 0, .string ⟨#[]⟩, .bool false]) 32 rfl Tryz.underlying74 infoV rfl (by decide) (by omega) v (upTo l m 1) m A2 m.length c2 (fun _ => True) (fun _ => False) rfl rfl HV.out (Kd.C_below HR.out.2 HBZ.out) (fun _ _ h => h) (fun _ h => h.elim) (fun _ _ => trivial) HBZ.out HBZ.out.size (by simp only [upTo, List.length_nil]; omega) ?_; intro v1 w3 ho hb hg hat; have HV3 := Aside0.mk ho; have HB3 := Aside0.mk hb; clear ho hb hg hat))
          go_roundw
          case rel => exact ⟨2, by omega, by go_num, ⟨by simpa [upTo] using HV3.out⟩, HB3⟩
          case measure => simp [intOf]
        | 2, _ =>
          go_wp2
          go_ret
          exact ⟨_, rfl, HV.out, HBZ.out⟩
theorem chain_one {v : Ver} (h : VerOk v) : ChainOk [v] := ⟨by simp, fun u hu => by rw [List.mem_singleton.1 hu]; exact h, by simp⟩
set_option maxRecDepth 100000 in
set_option maxHeartbeats 4000000 in
theorem add_walk (w : World) (A : Option Addr) (c : Nat) (l : Chain) (v : Ver) (hr : Kd.C k43 w A l.length l) (hc : l.length ≤ c) (h : ChainOk l) (hv : VerOk v) (hl : l.length < 1024) (ht : lastV l < v.f0) :
    Calls Tryz.prog 81 #[.slice A l.length c, .agg #[.int .i64 v.f0, .string v.f1, .bool v.f2]] w fun e w' => ∃ u, e = .returned (.tuple #[u, .int .i64 0]) ∧ Kd.R k43 43 w' w.heap.size (fun _ => True) u (l ++ [v]) ∧ Below w.heap.size w w' := by
  obtain ⟨a, s, d⟩ := v
  simp only at ht ⊢
  obtain ⟨w3, hw3⟩ : ∃ w3, w3 = ((w.alloc (.cells #[.int .i64 a, .string s, .bool d] 43)).alloc (.cells #[.int .i64 a, .string s, .bool d] 43)).alloc (.cells #[.slice A l.length c, .slice (some ⟨w.heap.size + 1, 0, none⟩) 1 1] 74) := ⟨_, rfl⟩
  have hB : Below w.heap.size w w3 := by rw [hw3]; exact below_alloc (below_alloc (below_alloc (Below.refl _ w) _) _) _
  have b0 : w3.heap[w.heap.size]? = some (.cells #[.int .i64 a, .string s, .bool d] 43 (0, 0)) := by rw [hw3]; exact blk_alloc (blk_alloc (blk_new _ _) _) _
  have b1 : w3.heap[w.heap.size + 1]? = some (.cells #[.int .i64 a, .string s, .bool d] 43 (0, 0)) := by
    rw [hw3]
    have := blk_new (w.alloc (.cells #[.int .i64 a, .string s, .bool d] 43)) (.cells #[.int .i64 a, .string s, .bool d] 43)
    rw [show (w.alloc (.cells #[.int .i64 a, .string s, .bool d] 43)).heap.size = w.heap.size + 1 by simp] at this
    exact blk_alloc this _
  have b2 : w3.heap[w.heap.size + 2]? = some (.cells #[.slice A l.length c, .slice (some ⟨w.heap.size + 1, 0, none⟩) 1 1] 74 (0, 0)) := by
    rw [hw3]
    have := blk_new ((w.alloc (.cells #[.int .i64 a, .string s, .bool d] 43)).alloc (.cells #[.int .i64 a, .string s, .bool d] 43)) (.cells #[.slice A l.length c, .slice (some ⟨w.heap.size + 1, 0, none⟩) 1 1] 74)
    simpa using this
  have hone : ∀ (W : World) (g : Nat), W.heap[g]? = some (.cells #[.int .i64 a, .string s, .bool d] 43 (0, 0)) → Kd.C k43 W (some ⟨g, 0, none⟩) ([(⟨a, s, d⟩ : Ver)]).length [(⟨a, s, d⟩ : Ver)] := fun W g hg => by
    refine ⟨rfl, by simp, fun _ => ⟨⟨g, 0, none⟩, rfl, fun j p hj => ?_⟩⟩
    cases j with
    | succ j => simp at hj
    | zero =>
      simp at hj
      subst hj
      refine ⟨[.int .i64 a, .string s, .bool d], rfl, k43_mk W ⟨a, s, d⟩, fun i u hu => ?_⟩
      have e : ∀ j : Nat, (⟨g, 0, none⟩ : Addr).add j = ⟨g, j, none⟩ := fun j => by unfold Addr.add; split <;> simp_all
      rw [e, Nat.zero_mul, Nat.zero_add, blk_cell hg i]
      simpa using hu
  have HR := Aside0.mk (Kd.C_below hr hB)
  have HO := Aside0.mk (And.intro h hv)
  have HHO := Aside0.mk hone
  have HW3 := Aside0.mk hw3
  have HB0 := Aside0.mk b0
  have HB1 := Aside0.mk b1
  have HB2 := Aside0.mk b2
  have HBW := Aside0.mk hB
  have HC := Aside0.mk hc
  have hmax := hl
  clear hr h hv hone hw3 b0 b1 b2 hB hc
  have HT := Aside0.mk ht
  clear ht
  have HCC : Aside0 (∀ W : World, Below w3.heap.size w3 W → Calls Tryz.prog 111 #[.slice (some ⟨W.heap.size + 1, 0, none⟩) 2 2] ((W.alloc (.cells #[.int .i64 a, .string s, .bool d] 43)).alloc (.cells #[.slice A l.length c, .slice (some ⟨W.heap.size, 0, none⟩) 1 1] 74)) fun e w' => ∃ u, e = .returned u ∧ Kd.R k43 43 w' w.heap.size (fun _ => True) u (l ++ [⟨a, s, d⟩]) ∧ Below w.heap.size w w') := ⟨fun W hW => by
    have hb := below_alloc (below_alloc (Below.refl _ W) (.cells #[.int .i64 a, .string s, .bool d] 43)) (.cells #[.slice A l.length c, .slice (some ⟨W.heap.size, 0, none⟩) 1 1] 74)
    have x1 : ((W.alloc (.cells #[.int .i64 a, .string s, .bool d] 43)).alloc (.cells #[.slice A l.length c, .slice (some ⟨W.heap.size, 0, none⟩) 1 1] 74)).heap[W.heap.size]? = some (.cells #[.int .i64 a, .string s, .bool d] 43 (0, 0)) := blk_alloc (blk_new _ _) _
    have x2 : ((W.alloc (.cells #[.int .i64 a, .string s, .bool d] 43)).alloc (.cells #[.slice A l.length c, .slice (some ⟨W.heap.size, 0, none⟩) 1 1] 74)).heap[W.heap.size + 1]? = some (.cells #[.slice A l.length c, .slice (some ⟨W.heap.size, 0, none⟩) 1 1] 74 (0, 0)) := by
      have := blk_new (W.alloc (.cells #[.int .i64 a, .string s, .bool d] 43)) (.cells #[.slice A l.length c, .slice (some ⟨W.heap.size, 0, none⟩) 1 1] 74)
      simpa using this
    have hWw : Below w.heap.size w W := HBW.out.trans (hW.mono HBW.out.size)
    refine (concat_walk _ (W.heap.size + 1) A (some ⟨W.heap.size, 0, none⟩) c 1 l [⟨a, s, d⟩] ((blk_cell x2 0).trans rfl) ((blk_cell x2 1).trans rfl) (Kd.C_below (Kd.C_below HR.out hW) hb) (HHO.out _ _ x1) (by omega) (by simp) (by simp)).mono ?_
    rintro e w' ⟨u, rfl, hu, hb'⟩
    exact ⟨u, rfl, Kd.R_lower hu (by have := hb.size; have := hWw.size; omega), (hWw.trans (hb.mono hWw.size)).trans (hb'.mono (hWw.trans (hb.mono hWw.size)).size)⟩⟩
  go_enter Tryz.func81, Tryz.ntmps81
  go_wp2_with fail
  rw [← HW3.out]
  go_loopw [15] (fun i wr => ∃ k : Nat, k ≤ 2 ∧ i = .int .i64 (k : Int) ∧ Aside0 (Below w3.heap.size w3 wr)) (fun i _ => 2 - (intOf i).toNat)
  case atStart => exact ⟨0, by omega, rfl, ⟨Below.refl _ _⟩⟩
  case round =>
    obtain ⟨k, hk, rfl, HB⟩ := hrel
    have C2 := Aside0.mk (blk_below HB2.out HB.out)
    have q0 := blk_cell C2.out 0
    have q1 := blk_cell C2.out 1
    have HBX := Aside0.mk (blk_below HB0.out HB.out)
    match k, hk with
    | 0, _ =>
      go_wp2_with fail
      refine (check_walk wr A c l (Kd.C_below HR.out HB.out) HC.out HO.out.1).mono ?_
      rintro e w4 ⟨rfl, hb4⟩
      have HB4 : Aside0 (Below w3.heap.size w3 w4) := ⟨HB.out.trans (hb4.mono HB.out.size)⟩
      clear hb4
      go_wp2_with fail
      go_roundw
      case rel => exact ⟨1, by omega, by go_num, HB4⟩
      case measure => simp [intOf]
    | 1, _ =>
      go_wp2_with fail
      refine (check_walk wr (some ⟨w.heap.size + 1, 0, none⟩) 1 [⟨a, s, d⟩] (HHO.out wr _ (blk_below HB1.out HB.out)) (Nat.le_refl _) (chain_one HO.out.2)).mono ?_
      rintro e w4 ⟨rfl, hb4⟩
      have HB4 : Aside0 (Below w3.heap.size w3 w4) := ⟨HB.out.trans (hb4.mono HB.out.size)⟩
      clear hb4
      go_wp2_with fail
      go_roundw
      case rel => exact ⟨2, by omega, by go_num, HB4⟩
      case measure => simp [intOf]
    | 2, _ =>
      have z0 := blk_cell HBX.out 0
      have z1 := blk_cell HBX.out 1
      have z2 := blk_cell HBX.out 2
      by_cases hn : l = []
      · subst hn
        go_wp2_with fail
        go_quiet (fail)
        all_goals (try go_wp2_with fail)
        refine (HCC.out _ ?_).mono ?_
        · exact pw_below_drewN HB.out _
        rintro e w5 ⟨u, rfl, hu, hb5⟩
        have HU5 := Aside0.mk hu
        have HB5 := Aside0.mk hb5
        clear hu hb5
        go_wp2_with fail
        go_ret2
        exact ⟨_, rfl, HU5.out, HB5.out⟩
      · have hl0 : 0 < l.length := List.length_pos_iff.2 hn
        obtain ⟨ad, rfl, c0, c1, c2⟩ := at_T43 (Kd.C_below HR.out HB.out) ((l.length - 1 : Nat) : Int) (by omega) (by omega)
        rw [rdV_nat l _ (by omega), Int.toNat_natCast] at c0
        have hlast : lastV l = (l[l.length - 1]'(by omega)).f0 := by
          unfold lastV
          rw [List.getLast?_eq_getElem?, List.getElem?_eq_getElem (by omega)]
          rfl
        have hlt := HT.out
        rw [hlast] at hlt
        generalize (l[l.length - 1]'(by omega)).f0 = f at *
        have hle : decide (a ≤ f) = false := decide_eq_false (by omega)
        have hle2 : ¬ a ≤ f := by omega
        have hi1 : (l.length : Int) - 1 = ((l.length - 1 : Nat) : Int) := by omega
        clear c1 c2 hlast hn
        go_wp2_with fail
        go_quiet (fail)
        all_goals (try go_wp2_with fail)
        refine (HCC.out _ ?_).mono ?_
        · exact pw_below_drewN HB.out _
        rintro e w5 ⟨u, rfl, hu, hb5⟩
        have HU5 := Aside0.mk hu
        have HB5 := Aside0.mk hb5
        clear hu hb5
        go_wp2_with fail
        go_ret2
        exact ⟨_, rfl, HU5.out, HB5.out⟩
end Go.Proofs.YtaldfbmjmpkmmaaGreat.PL
namespace Go.Proofs.YtaldfbmjmpkmmaaGreat.PL
open Go.RowKit
set_option linter.unusedVariables false
/-! records -/
theorem okR_all {r : Rec} (h : okR r = 0) : (0 ≤ r.f1 ∧ r.f1 ≤ 1125899906842623) ∧ (0 ≤ r.f2 ∧ r.f2 ≤ 1125899906842624) ∧ recOk r.f0 r.f1 r.f2 r.f3 r.f4 r.f5 r.f6 r.f7 r.f8 = true := by
  unfold okR recV at h
  split at h
  · cases h
  · rename_i hb
    split at h
    · rename_i hk
      unfold rangeBad at hb
      simp only [Bool.or_eq_true, decide_eq_true_eq, not_or] at hb
      exact ⟨by omega, by omega, hk⟩
    · cases h
theorem ris_keys : ∀ (l : List ByteArray) (q : Option (List UInt8)), ris q l = true → ∀ k ∈ l, keyB k = true
  | [], _, _, k, hk => by cases hk
  | s :: r, none, h, k, hk => by
    rw [ris, Bool.and_eq_true] at h
    rcases List.mem_cons.1 hk with rfl | hk
    · exact h.1
    · exact ris_keys r _ h.2 k hk
  | s :: r, some q, h, k, hk => by
    rw [ris, Bool.and_eq_true, Bool.and_eq_true] at h
    rcases List.mem_cons.1 hk with rfl | hk
    · exact h.1
    · exact ris_keys r _ h.2.2 k hk
theorem ris_above : ∀ (l : List ByteArray) (q : List UInt8), ris (some q) l = true → (∀ k ∈ l, Op.bytesLess q (kb k) = true) ∧ l.Pairwise (fun a b => Op.bytesLess (kb a) (kb b) = true)
  | [], _, _ => ⟨by simp, by simp⟩
  | s :: r, q, h => by
    rw [ris, Bool.and_eq_true, Bool.and_eq_true, kb_toList] at h
    obtain ⟨h1, h2⟩ := ris_above r _ h.2.2
    refine ⟨fun k hk => ?_, List.pairwise_cons.2 ⟨h1, h2⟩⟩
    rcases List.mem_cons.1 hk with rfl | hk
    · exact h.2.1
    · exact kl_trans h.2.1 (h1 k hk)
theorem rising_pair {l : List ByteArray} (h : risingB l = true) : l.Pairwise (fun a b => Op.bytesLess (kb a) (kb b) = true) := by
  cases l with
  | nil => simp
  | cons s r =>
    unfold risingB at h
    rw [ris, Bool.and_eq_true, kb_toList] at h
    obtain ⟨h1, h2⟩ := ris_above r _ h.2
    exact List.pairwise_cons.2 ⟨h1, h2⟩
theorem key_size {s : ByteArray} (h : keyB s = true) : s.size ≤ 32 := by
  unfold keyB at h
  rw [Bool.and_eq_true] at h
  exact of_decide_eq_true h.2
structure ListsOk (r : Rec) : Prop where
  few7 : r.f7.length ≤ 16
  few8 : r.f8.length ≤ 16
  key7 : ∀ k ∈ r.f7, keyB k = true
  key8 : ∀ w ∈ r.f8, keyB w.f0 = true
  rise7 : r.f7.Pairwise (fun a b => Op.bytesLess (kb a) (kb b) = true)
  rise8 : r.f8.Pairwise (fun a b => Op.bytesLess (wkey a) (wkey b) = true)
  shard : ∀ w ∈ r.f8, w.f1.size ≤ 2052 ∧ (w.f2 = true → w.f1.toList = [])
theorem ListsOk.apart {r : Rec} (h : ListsOk r) : (r.f8.map wkey).Nodup := List.pairwise_map.2 (h.rise8.imp (fun h => kl_ne h))
theorem prep_lists {r : Rec} (h0 : r.f0 = 1) (h : okR r = 0) : ListsOk r ∧ 0 < r.f1 := by
  have h2 := (okR_all h).2.2
  unfold recOk at h2
  rw [if_pos h0, Bool.and_eq_true, Bool.and_eq_true] at h2
  obtain ⟨⟨hl, ht⟩, _⟩ := h2
  unfold listedB writesB at hl
  simp only [Bool.and_eq_true, decide_eq_true_eq, List.all_eq_true] at hl
  obtain ⟨a1, a2, a3, a4, a5⟩ := hl
  refine ⟨⟨a1, a4, ris_keys _ _ a2, fun w hw => ris_keys _ _ a5 _ (List.mem_map.2 ⟨w, hw, rfl⟩), rising_pair a2, List.pairwise_map.1 (rising_pair a5), fun w hw => ?_⟩, of_decide_eq_true ht⟩
  have := a3 w hw
  unfold shardB at this
  rw [Bool.and_eq_true, decide_eq_true_eq] at this
  refine ⟨this.1, fun hd => ?_⟩
  have h3 := this.2
  rw [hd] at h3
  simpa using h3
theorem do_facts {r : Rec} (h0 : r.f0 = 2) (h : okR r = 0) : 0 < r.f1 := by
  have h2 := (okR_all h).2.2
  unfold recOk at h2
  rw [if_neg (by omega), if_pos h0] at h2
  simp only [Bool.and_eq_true, decide_eq_true_eq] at h2
  exact h2.2.1
theorem ver_facts {r : Rec} (h0 : r.f0 = 3) (h : okR r = 0) : 0 < r.f2 ∧ keyB r.f4 = true ∧ r.f5.size ≤ 2052 ∧ (r.f6 = true → r.f5.toList = []) := by
  have h2 := (okR_all h).2.2
  unfold recOk at h2
  rw [if_neg (by omega), if_neg (by omega), if_neg (by omega), if_neg (by omega), if_pos h0] at h2
  simp only [Bool.and_eq_true, decide_eq_true_eq] at h2
  obtain ⟨_, h3, h4, h5, h6, _⟩ := h2
  refine ⟨h3, h4, h5, fun hd => ?_⟩
  rw [hd] at h6
  simpa using h6
/-! what a shelf has to be -/
/-- What a shelf's lists have to be. -/
structure ShOk (s : Sh) : Prop where
  keys : KOk s.K
  rise : s.P.Pairwise (fun a b => a.f1 < b.f1)
  few : s.P.length ≤ 1024
  recs : ∀ r ∈ s.P, r.f0 = 1 ∧ okR r = 0
  ends : s.E.length ≤ 1025
  over : 0 ≤ s.over ∧ s.over ≤ 1125899906842624
theorem sh0_ok : ShOk sh0 := ⟨KOk.nil, by simp [sh0], by simp [sh0], by simp [sh0], by simp [sh0], by simp [sh0]⟩
theorem state_cases (s : Sh) (t : Int) : (s.P.any (fun r => decide (r.f1 = t)) = true ∧ stateV s t = (1, 0)) ∨ (s.P.any (fun r => decide (r.f1 = t)) = false ∧
    ((s.E.find? (fun e => decide (e.1 = t)) = none ∧ stateV s t = (0, 0)) ∨ ∃ e, s.E.find? (fun e => decide (e.1 = t)) = some e ∧ ((e.2 = 0 ∧ stateV s t = (3, 0)) ∨ (e.2 ≠ 0 ∧ stateV s t = (2, e.2))))) := by
  unfold stateV
  cases hp : s.P.any (fun r => decide (r.f1 = t)) with
  | true => exact .inl ⟨rfl, rfl⟩
  | false =>
    refine .inr ⟨rfl, ?_⟩
    cases he : s.E.find? (fun e => decide (e.1 = t)) with
    | none => exact .inl ⟨rfl, rfl⟩
    | some e =>
      refine .inr ⟨e, rfl, ?_⟩
      by_cases h0 : e.2 = 0
      · exact .inl ⟨h0, by simp [h0]⟩
      · exact .inr ⟨h0, by simp [h0]⟩
theorem state_zero {s : Sh} {t : Int} (h : ¬ 0 < (stateV s t).1) : (∀ r ∈ s.P, r.f1 ≠ t) ∧ s.E.find? (fun e => decide (e.1 = t)) = none := by
  rcases state_cases s t with ⟨_, h2⟩ | ⟨h1, ⟨h2, h3⟩ | ⟨e, h2, ⟨_, h3⟩ | ⟨_, h3⟩⟩⟩
  · rw [h2] at h; simp at h
  · exact ⟨fun r hr e => by
      have := List.any_eq_false.1 h1 r hr
      exact this (decide_eq_true e), h2⟩
  · rw [h3] at h; simp at h
  · rw [h3] at h; simp at h
theorem pput_mem (r x : Rec) : ∀ l : List Rec, x ∈ pput l r ↔ x = r ∨ x ∈ l
  | [] => by simp [pput]
  | y :: l => by
    unfold pput
    split
    · rw [List.mem_cons, pput_mem r x l, List.mem_cons]
      constructor
      · rintro (h | h | h)
        · exact .inr (.inl h)
        · exact .inl h
        · exact .inr (.inr h)
      · rintro (h | h | h)
        · exact .inr (.inl h)
        · exact .inl h
        · exact .inr (.inr h)
    · rw [List.mem_cons]
theorem pput_len (r : Rec) : ∀ l : List Rec, (pput l r).length = l.length + 1
  | [] => rfl
  | y :: l => by
    unfold pput
    split
    · rw [List.length_cons, pput_len r l, List.length_cons]
    · rfl
theorem pput_rise (r : Rec) : ∀ {l : List Rec}, l.Pairwise (fun a b => a.f1 < b.f1) → (∀ x ∈ l, x.f1 ≠ r.f1) → (pput l r).Pairwise (fun a b => a.f1 < b.f1)
  | [], _, _ => by simp [pput]
  | y :: l, h, hn => by
    obtain ⟨h1, h2⟩ := List.pairwise_cons.1 h
    unfold pput
    split
    · rename_i hlt
      refine List.pairwise_cons.2 ⟨fun x hx => ?_, pput_rise r h2 (fun x hx => hn x (List.mem_cons_of_mem _ hx))⟩
      rcases (pput_mem r x l).1 hx with rfl | hx
      · exact hlt
      · exact h1 x hx
    · rename_i hlt
      have hy := hn y List.mem_cons_self
      refine List.pairwise_cons.2 ⟨fun x hx => ?_, h⟩
      rcases List.mem_cons.1 hx with rfl | hx
      · omega
      · have := h1 x hx
        omega
theorem prepV_ok {s : Sh} {r : Rec} (h : ShOk s) (h0 : r.f0 = 1) (hr : okR r = 0) : ShOk (prepV s r).2 := by
  unfold prepV
  split
  · exact h
  · rename_i hs
    split
    · exact h
    · split
      · exact h
      · rename_i hl
        refine ⟨h.keys, pput_rise r h.rise (state_zero hs).1, ?_, fun x hx => ?_, h.ends, h.over⟩
        · show (pput s.P r).length ≤ 1024
          rw [pput_len]
          omega
        · rcases (pput_mem r x s.P).1 hx with rfl | hx
          · exact ⟨h0, hr⟩
          · exact h.recs x hx
theorem endE_len {E : List (Int × Int)} {B : Nat} (hB : 1024 ≤ B) (h : E.length ≤ B) (x : Int × Int) : (endE E x).length ≤ B := by
  unfold endE
  split
  · rw [List.length_drop, List.length_append, List.length_singleton]
    omega
  · omega
theorem endV_ok {s : Sh} (h : ShOk s) (t ts : Int) : ShOk (endV s t ts) :=
  ⟨h.keys, h.rise.filter _, Nat.le_trans (List.length_filter_le _ _) h.few, fun r hr => h.recs r (List.mem_filter.1 hr).1, endE_len (by omega) h.ends _, h.over⟩
theorem room_put {s : Sh} {l : List Wr} {ts : Int} (h0 : roomV s l ts = 0) (hts : 1 ≤ ts ∧ ts ≤ 1125899906842624) (ha : (l.map wkey).Nodup) (hs : ∀ w ∈ l, w.f1.size ≤ 2052 ∧ (w.f2 = true → w.f1.toList = [])) : PutOk s.K l ts := by
  unfold roomV at h0
  split at h0
  · cases h0
  · rename_i hl
    refine ⟨ha, fun w hw => ?_, fun w hw => ⟨hts.1, hts.2, (hs w hw).1, (hs w hw).2⟩, h0⟩
    have : ¬ ts ≤ lastV (look s.K (wkey w)) := fun hc => hl (List.any_eq_true.2 ⟨w, hw, decide_eq_true hc⟩)
    omega
theorem writesOf_some {s : Sh} {t : Int} (h : (stateV s t).1 = 1) : ∃ r ∈ s.P, r.f1 = t ∧ writesOf s t = r.f8 := by
  unfold writesOf
  cases hf : s.P.find? (fun r => decide (r.f1 = t)) with
  | none =>
    rcases state_cases s t with ⟨h1, _⟩ | ⟨_, ⟨_, h3⟩ | ⟨e, _, ⟨_, h3⟩ | ⟨_, h3⟩⟩⟩
    · obtain ⟨r, hr, hrt⟩ := List.any_eq_true.1 h1
      exact absurd hrt (List.find?_eq_none.1 hf r hr)
    · rw [h3] at h; cases h
    · rw [h3] at h; cases h
    · rw [h3] at h; cases h
  | some r => exact ⟨r, List.mem_of_find?_eq_some hf, of_decide_eq_true (by simpa using List.find?_some hf), rfl⟩
theorem do_put {s : Sh} (h : ShOk s) {t ts : Int} (hts : 0 < ts ∧ ts ≤ 1125899906842624) (h1 : (stateV s t).1 = 1) (h0 : roomV s (writesOf s t) ts = 0) : PutOk s.K (writesOf s t) ts := by
  obtain ⟨r, hr, _, e⟩ := writesOf_some h1
  obtain ⟨hl, _⟩ := prep_lists (h.recs r hr).1 (h.recs r hr).2
  exact room_put h0 (by omega) (by rw [e]; exact hl.apart) (by rw [e]; exact hl.shard)
theorem doV_ok {s : Sh} (h : ShOk s) {t ts : Int} (hts : 0 ≤ ts ∧ ts ≤ 1125899906842624) : ShOk (doV s t ts).2 := by
  unfold doV
  split
  · exact h
  · split
    · exact h
    · split
      · rename_i hc
        split
        · rename_i h0
          have hp := do_put h (by omega) hc.1 h0
          exact endV_ok (s := { s with K := putV s.K (writesOf s t) ts }) ⟨putV_ok _ h.keys hp, h.rise, h.few, h.recs, h.ends, h.over⟩ t ts
        · exact h
      · exact endV_ok h t ts
theorem sweepV_ok {s : Sh} (h : ShOk s) {t : Int} (ht : t ≤ 1125899906842624) : ShOk (sweepV s t).2 := by
  unfold sweepV
  split
  · exact h
  · exact ⟨h.keys.sweep t, h.rise, h.few, h.recs, h.ends, ⟨by have := h.over; show 0 ≤ t; omega, ht⟩⟩
theorem ver_put {s : Sh} {r : Rec} (h0 : r.f0 = 3) (hr : okR r = 0) (hm : roomV s [verW r] r.f2 = 0) : PutOk s.K [verW r] r.f2 := by
  obtain ⟨h1, h2, h3, h4⟩ := ver_facts h0 hr
  exact room_put hm (by have := (okR_all hr).2.1; omega) (by simp) (fun w hw => by rw [List.mem_singleton.1 hw]; exact ⟨h3, h4⟩)
theorem applyV_ok {s : Sh} (h : ShOk s) (r : Rec) : ShOk (applyV s r).2 := by
  unfold applyV
  split
  · rename_i hr
    split
    · rename_i h0
      exact prepV_ok h h0 hr
    · split
      · exact doV_ok h (okR_all hr).2.1
      · split
        · exact sweepV_ok h (okR_all hr).2.1.2
        · split
          · rename_i h0
            split
            · rename_i hm
              exact ⟨putV_ok _ h.keys (ver_put h0 hr hm), h.rise, h.few, h.recs, h.ends, h.over⟩
            · exact h
          · exact h
  · exact h
theorem applyV_ends {s : Sh} (h : s.E.length ≤ 1024) (r : Rec) : (applyV s r).2.E.length ≤ 1024 := by
  unfold applyV
  split
  · split
    · unfold prepV
      split
      · exact h
      · split
        · exact h
        · split
          · exact h
          · exact h
    · split
      · unfold doV
        split
        · exact h
        · split
          · exact h
          · split
            · split
              · exact endE_len (Nat.le_refl _) h _
              · exact h
            · exact endE_len (Nat.le_refl _) h _
      · split
        · unfold sweepV
          split
          · exact h
          · exact h
        · split
          · split
            · exact h
            · exact h
          · exact h
  · exact h
theorem fold_ends : ∀ (l : List Rec) {s : Sh}, s.E.length ≤ 1024 → (l.foldl (fun s r => (applyV s r).2) s).E.length ≤ 1024
  | [], _, h => h
  | r :: l, _, h => fold_ends l (applyV_ends h r)
theorem madeV_ends (l : List Rec) : (madeV l).E.length ≤ 1024 := fold_ends _ (by simp [sh0])
theorem fold_ok : ∀ (l : List Rec) {s : Sh}, ShOk s → ShOk (l.foldl (fun s r => (applyV s r).2) s)
  | [], _, h => h
  | r :: l, _, h => fold_ok l (applyV_ok h r)
theorem madeV_ok (l : List Rec) : ShOk (madeV l) := fold_ok _ sh0_ok
/-! what is read stays -/
/-- What is read of a time: as it was, or what was dead is gone. -/
def Stays (s : Sh) (k : Key) (t : Int) (x : Ver × Bool) : Prop := s.over ≤ t ∧ (atV (look s.K k) t = x ∨ (x.2 = true ∧ x.1.f2 = true ∧ atV (look s.K k) t = (zVer, false)))
theorem stays_step {s : Sh} (h : ShOk s) {k : Key} {t : Int} {x : Ver × Bool} (hx : Stays s k t x) (r : Rec) (hc : ¬ (r.f0 ≠ 1 ∧ r.f0 ≠ 4 ∧ r.f2 ≠ 0 ∧ r.f2 ≤ t)) (hs : ¬ (r.f0 = 4 ∧ t < r.f2)) : Stays (applyV s r).2 k t x := by
  have hput : ∀ (l : List Wr) (ts : Int), t < ts → ∀ s' : Sh, s'.over = s.over → s'.K = putV s.K l ts → Stays s' k t x := fun l ts hlt s' ho hk => by
    refine ⟨by rw [ho]; exact hx.1, ?_⟩
    rw [hk, put_at l _ _ _ _ hlt]
    exact hx.2
  unfold applyV
  split
  · rename_i hr
    split
    · unfold prepV
      split
      · exact hx
      · split
        · exact hx
        · split
          · exact hx
          · exact hx
    · rename_i h1
      split
      · rename_i h2
        unfold doV
        split
        · exact hx
        · split
          · exact hx
          · split
            · rename_i hd
              split
              · exact hput _ r.f2 (by omega) _ rfl rfl
              · exact hx
            · exact hx
      · split
        · rename_i h4
          unfold sweepV
          split
          · exact hx
          · refine ⟨by show r.f2 ≤ t; omega, ?_⟩
            show atV (look (sweepK s.K r.f2) k) t = x ∨ _
            rw [look_sweep h.keys.rise]
            rcases sweep_at (look s.K k) r.f2 t (by omega) with e | ⟨e1, e2, e3⟩
            · rw [e]
              exact hx.2
            · rcases hx.2 with e | ⟨e4, e5, e6⟩
              · rw [e] at e1 e2
                exact .inr ⟨e1, e2, e3⟩
              · rw [e6] at e1
                cases e1
        · split
          · rename_i h3
            split
            · have := (ver_facts h3 hr).1
              exact hput _ r.f2 (by omega) _ rfl rfl
            · exact hx
          · exact hx
  · exact hx
/-- What is read first. -/
theorem stays_first {s : Sh} {k : Key} {t : Int} (h3 : (readV s k t).1 ≠ 3) (h4 : (readV s k t).1 ≠ 4) : Stays s k t (atV (look s.K k) t) := by
  refine ⟨?_, .inl rfl⟩
  by_cases hc : t < s.over
  · exact absurd (by unfold readV; rw [if_pos hc]) h4
  · omega
theorem readV_at {s : Sh} {k : Key} {t : Int} (h3 : (readV s k t).1 ≠ 3) (h4 : s.over ≤ t) :
    readV s k t = if (atV (look s.K k) t).2 = false then (0, (atV (look s.K k) t).1) else if (atV (look s.K k) t).1.f2 = true then (2, (atV (look s.K k) t).1) else (1, (atV (look s.K k) t).1) := by
  have ho : ¬ t < s.over := by omega
  by_cases hh : heldV s k false = true
  · exact absurd (by unfold readV; rw [if_neg ho, if_pos hh]) h3
  · unfold readV
    rw [if_neg ho, if_neg hh]
/-- .. and is read again. -/
theorem stays_read {s s1 : Sh} {k : Key} {t : Int} (h3 : (readV s k t).1 ≠ 3) (h4 : (readV s k t).1 ≠ 4) (hx : Stays s1 k t (atV (look s.K k) t)) (g3 : (readV s1 k t).1 ≠ 3) : readV s1 k t = readV s k t ∨ ((readV s k t).1 = 2 ∧ (readV s1 k t).1 = 0) := by
  rw [readV_at g3 hx.1, readV_at h3 (stays_first h3 h4).1]
  rcases hx.2 with e | ⟨e1, e2, e3⟩
  · rw [e]
    exact .inl rfl
  · rw [e3, e1, e2]
    exact .inr ⟨by simp, by simp⟩
end Go.Proofs.YtaldfbmjmpkmmaaGreat.PL
namespace Go.Proofs.YtaldfbmjmpkmmaaGreat.PL
open Go.RowKit Go.Proofs.YtaldfbmjmpkmmaaGreatW.PrintWords Go.Proofs.YtaldfbmjmpkmmaaGreatW.PrintLast Go.Proofs.YtaldfbmjmpkmmaaGreatW.PrintMore Go.Shelf Go.Maps Go.WideMaps Go.Proofs.YtaldfbmjmpkmmaaGreat.Mk
set_option linter.unusedVariables false
set_option linter.unusedSimpArgs false
set_option linter.unusedSectionVars false
theorem keyedS : Keyed Tryz.prog 9 := string_keyed Tryz.underlying9
theorem keyedI : Keyed Tryz.prog 3 := int_keyed Tryz.underlying3
def sk (k : Key) : Lit := .string k
def ik (t : Int) : Lit := .int .i64 t
theorem key_sk {s : ByteArray} (h : s.size ≤ maxLen) : keyOf Tryz.prog 9 (.string s) = some (sk (kb s)) := key_str Tryz.underlying9 h
theorem key_ik {t : Int} (h : -9223372036854775808 ≤ t ∧ t ≤ 9223372036854775807) : keyOf Tryz.prog 3 (.int .i64 t) = some (ik t) := keyOf_int_mk Tryz.underlying3 (WalkArith.wf_i64 (by omega))
/-- Rows of versions, of texts and of writes that are ok stay as they are. -/
def Still (ok : Nat → Prop) (w w1 : World) : Prop := ∀ g, ok g → ∀ q cells, (q = 43 ∨ q = 9 ∨ q = 57) → w.heap[g]? = some (.cells cells q (0, 0)) → w1.heap[g]? = w.heap[g]?
theorem Still.of_below {ok : Nat → Prop} {w w1 : World} (h : Below w.heap.size w w1) : Still ok w w1 := fun g _ q cells _ hc => h.block g (blk_lt hc)
theorem Still.of_grown {ok : Nat → Prop} {w w1 : World} {b : Nat} (h : w.grownBy w1 (some b)) (hb : ∀ q cells, (q = 43 ∨ q = 9 ∨ q = 57) → w.heap[b]? ≠ some (.cells cells q (0, 0))) : Still ok w w1 := fun g _ q cells hq hc =>
  h.block g (blk_lt hc) (fun e => hb q cells hq (by injection e with e; rw [← e]; exact hc))
theorem Still.trans {ok : Nat → Prop} {w w1 w2 : World} (h : Still ok w w1) (h2 : Still ok w1 w2) : Still ok w w2 := fun g hg q cells hq hc => by
  have e := h g hg q cells hq hc
  exact (h2 g hg q cells hq (e.trans hc)).trans e
section
variable {α : Type} {d : Kd α} {e base : Nat} {ok : Nat → Prop} {w w1 : World} {v : Value} {xs : List α}
theorem R_still (hE : ∀ q, q ∈ e :: d.E → (q = 43 ∨ q = 9 ∨ q = 57)) (h : d.R e w base ok v xs) (hs : Still ok w w1) : d.R e w1 base ok v xs :=
  Kd.R_mono (Kd.R_move (Kd.R_bound h) (fun k hk => by
    obtain ⟨h1, _, _, q, hq, cells, hc⟩ := hk
    exact hs k h1 q cells (hE q hq) hc)) (fun _ hk => hk.1)
theorem M_still (hE : ∀ q, q ∈ d.E → (q = 43 ∨ q = 9 ∨ q = 57)) {x : α} {cs : List Value} (h : d.M w base ok x cs) (hs : Still ok w w1) : d.M w1 base ok x cs :=
  d.M_mono (fun _ hk => hk.1) (d.M_move (fun k hk => by
    obtain ⟨h1, _, _, q, hq, cells, hc⟩ := hk
    exact hs k h1 q cells (hE q hq) hc) (d.M_bound h))
end
structure Parts (w : World) (ok : Nat → Prop) (b N : Nat) (s : Sh) (bk bp : Nat) (ve : Value) (fk fp : Lit → Option Value) : Prop where
  box : w.heap[b]? = some (.cells #[.map (some bk), .map (some bp), ve, .int .i64 s.over] 69 (0, 0))
  keys : MapL Tryz.prog 9 w bk N fk
  preps : MapL Tryz.prog 3 w bp N fp
  ends : kEnd.R 76 w 0 ok ve s.E
  kf : ∀ q v, fk q = some v → ∃ k, q = sk k ∧ k ∈ keysK s.K ∧ Kd.R k43 43 w 0 ok v (look s.K k)
  kt : ∀ k, k ∈ keysK s.K → (fk (sk k)).isSome = true
  pf : ∀ q v, fp q = some v → ∃ r, r ∈ s.P ∧ q = ik r.f1 ∧ ∃ cs, v = .agg cs.toArray ∧ k26.M w 0 ok r cs
  pt : ∀ r, r ∈ s.P → (fp (ik r.f1)).isSome = true
  okb : ok b
  okk : ok bk
  okp : ok bp
  ne : bk ≠ bp
  good : ShOk s
/-- A shelf in memory: its blocks are ok. -/
def ShAt (w : World) (ok : Nat → Prop) (b N : Nat) (s : Sh) : Prop := ∃ bk bp ve fk fp, Parts w ok b N s bk bp ve fk fp
/-- Nothing has changed but what is ok. -/
structure Chg (ok : Nat → Prop) (w w' : World) : Prop where
  os : w'.os = w.os
  tape : w'.tape = w.tape
  output : w'.output = w.output
  size : w.heap.size ≤ w'.heap.size
  block : ∀ g, g < w.heap.size → ¬ ok g → w'.heap[g]? = w.heap[g]?
section
variable {ok : Nat → Prop} {w w' w1 : World} {b N : Nat} {s : Sh} {bk bp : Nat} {ve : Value} {fk fp : Lit → Option Value}
theorem Chg.of_below (h : Below w.heap.size w w') : Chg ok w w' := ⟨h.os, h.tape, h.output, h.size, fun g hg _ => h.block g hg⟩
theorem Chg.of_grown {r : Nat} (h : w.grownBy w' (some r)) (hr : ok r) : Chg ok w w' := ⟨h.os, h.tape, h.output, h.size, fun g hg hn => h.block g hg (fun e => hn (by injection e with e; rw [e]; exact hr))⟩
theorem Chg.trans (h : Chg ok w w') (h2 : Chg ok w' w1) : Chg ok w w1 := ⟨h2.os.trans h.os, h2.tape.trans h.tape, h2.output.trans h.output, Nat.le_trans h.size h2.size, fun g hg hn => (h2.block g (Nat.lt_of_lt_of_le hg h.size) hn).trans (h.block g hg hn)⟩
theorem Chg.below {w0 : World} {n : Nat} (h : Chg ok w w') (hb : Below n w0 w) (hn : n ≤ w.heap.size) (hok : ∀ g, ok g → n ≤ g) : Below n w0 w' :=
  ⟨h.os.trans hb.os, h.tape.trans hb.tape, h.output.trans hb.output, Nat.le_trans hb.size h.size, fun g hg => (h.block g (by omega) (fun h => by have := hok g h; omega)).trans (hb.block g hg)⟩
theorem Parts.below (h : Parts w ok b N s bk bp ve fk fp) (hb : Below w.heap.size w w') : Parts w' ok b N s bk bp ve fk fp :=
  ⟨blk_below h.box hb, h.keys.below hb, h.preps.below hb, Kd.R_below h.ends hb, fun q v hq => by
    obtain ⟨k, h1, h2, h3⟩ := h.kf q v hq
    exact ⟨k, h1, h2, Kd.R_below h3 hb⟩, h.kt, fun q v hq => by
    obtain ⟨r, h1, h2, cs, h3, h4⟩ := h.pf q v hq
    exact ⟨r, h1, h2, cs, h3, Kd.M_below h4 hb⟩, h.pt, h.okb, h.okk, h.okp, h.ne, h.good⟩
theorem ShAt.below (h : ShAt w ok b N s) (hb : Below w.heap.size w w') : ShAt w' ok b N s := by
  obtain ⟨bk, bp, ve, fk, fp, hp⟩ := h
  exact ⟨bk, bp, ve, fk, fp, hp.below hb⟩
theorem Parts.cells (h : Parts w ok b N s bk bp ve fk fp) : w.cell? ⟨b, 0, none⟩ = some (.map (some bk)) ∧ w.cell? ⟨b, 1, none⟩ = some (.map (some bp)) ∧ w.cell? ⟨b, 2, none⟩ = some ve ∧ w.cell? ⟨b, 3, none⟩ = some (.int .i64 s.over) :=
  ⟨(blk_cell h.box 0).trans rfl, (blk_cell h.box 1).trans rfl, (blk_cell h.box 2).trans rfl, (blk_cell h.box 3).trans rfl⟩
theorem zeroC (w : World) : (zeroValue 74).run Tryz.prog w = .ok (.slice none 0 0) w := by kernel_rfl
theorem zeroR (w : World) : (zeroValue 26).run Tryz.prog w = .ok (.agg #[.int .i64 0, .int .i64 0, .int .i64 0, .int .i64 0, .string ⟨#[]⟩, .string ⟨#[]⟩, .bool false, .slice none 0 0, .slice none 0 0]) w := by kernel_rfl
/-- A key's chain, as a look-up gives it. -/
theorem Parts.chain (h : Parts w ok b N s bk bp ve fk fp) (k : Key) : ∃ A c, (fk (sk k)).getD (.slice none 0 0) = .slice A (look s.K k).length c ∧ (look s.K k).length ≤ c ∧ Kd.C k43 w A (look s.K k).length (look s.K k) := by
  cases hf : fk (sk k) with
  | none =>
    have hk : k ∉ keysK s.K := fun hk => by
      have := h.kt k hk
      rw [hf] at this
      cases this
    rw [look_none hk]
    exact ⟨none, 0, rfl, Nat.le_refl _, Kd.C_nil _ _⟩
  | some v =>
    obtain ⟨k', h1, h2, h3⟩ := h.kf _ v hf
    have : k = k' := by
      unfold sk at h1
      injection h1
    subst this
    obtain ⟨A, c, e, hl, hc⟩ := Kd.R_reads h3
    exact ⟨A, c, e, hl, hc⟩
theorem Parts.chain_some (h : Parts w ok b N s bk bp ve fk fp) (k : Key) : (fk (sk k)).isSome = !(look s.K k).isEmpty := by
  cases hf : fk (sk k) with
  | none =>
    have hk : k ∉ keysK s.K := fun hk => by
      have := h.kt k hk
      rw [hf] at this
      cases this
    rw [look_none hk]
    rfl
  | some v =>
    obtain ⟨k', h1, h2, h3⟩ := h.kf _ v hf
    have : k = k' := by
      unfold sk at h1
      injection h1
    subst this
    have hne : look s.K k ≠ [] := fun e => (h.good.keys.iff k).1 e h2
    have : (look s.K k).isEmpty = false := by simpa using hne
    rw [this]
    rfl
theorem Parts.keys_iff (h : Parts w ok b N s bk bp ve fk fp) (q : Lit) : (fk q).isSome = true ↔ q ∈ (keysK s.K).map sk := by
  constructor
  · intro hq
    obtain ⟨v, hv⟩ := Option.isSome_iff_exists.1 hq
    obtain ⟨k, rfl, hk, _⟩ := h.kf q v hv
    exact List.mem_map.2 ⟨k, hk, rfl⟩
  · intro hq
    obtain ⟨k, hk, rfl⟩ := List.mem_map.1 hq
    exact h.kt k hk
theorem Parts.keys_nodup (h : Parts w ok b N s bk bp ve fk fp) : ((keysK s.K).map sk).Nodup :=
  List.pairwise_map.2 (h.good.keys.rise.imp (fun {a b} hab (e : Lit.string a = Lit.string b) => kl_ne hab (Lit.string.inj e)))
theorem Parts.preps_iff (h : Parts w ok b N s bk bp ve fk fp) (q : Lit) : (fp q).isSome = true ↔ q ∈ s.P.map (fun r => ik r.f1) := by
  constructor
  · intro hq
    obtain ⟨v, hv⟩ := Option.isSome_iff_exists.1 hq
    obtain ⟨r, hr, rfl, _⟩ := h.pf q v hv
    exact List.mem_map.2 ⟨r, hr, rfl⟩
  · intro hq
    obtain ⟨r, hr, rfl⟩ := List.mem_map.1 hq
    exact h.pt r hr
theorem Parts.preps_nodup (h : Parts w ok b N s bk bp ve fk fp) : (s.P.map (fun r => ik r.f1)).Nodup :=
  List.pairwise_map.2 (h.good.rise.imp (fun {a b} (hab : a.f1 < b.f1) (e : Lit.int .i64 a.f1 = Lit.int .i64 b.f1) => by injection e with _ e; omega))
theorem Parts.prep_some (h : Parts w ok b N s bk bp ve fk fp) (t : Int) : (fp (ik t)).isSome = s.P.any (fun r => decide (r.f1 = t)) := by
  rw [Bool.eq_iff_iff, h.preps_iff, List.mem_map, List.any_eq_true]
  constructor
  · rintro ⟨r, hr, e⟩
    exact ⟨r, hr, decide_eq_true (by unfold ik at e; injection e)⟩
  · rintro ⟨r, hr, e⟩
    exact ⟨r, hr, by rw [of_decide_eq_true e]⟩
end
end Go.Proofs.YtaldfbmjmpkmmaaGreat.PL
namespace Go.Proofs.YtaldfbmjmpkmmaaGreat.PL
open Go.RowKit Go.Proofs.YtaldfbmjmpkmmaaGreatW.PrintWords Go.Proofs.YtaldfbmjmpkmmaaGreatW.PrintLast Go.Proofs.YtaldfbmjmpkmmaaGreatW.PrintMore Go.Shelf Go.Maps Go.WideMaps Go.Proofs.YtaldfbmjmpkmmaaGreat.Mk
set_option linter.unusedVariables false
set_option linter.unusedSimpArgs false
set_option linter.unusedSectionVars false
theorem kb_beq (a b : ByteArray) : (a.toList == b.toList) = (kb a == kb b) := by rw [kb_toList, kb_toList]
set_option maxRecDepth 100000 in
theorem lastS_walk {w : World} {ok : Nat → Prop} {b N : Nat} {s : Sh} (h : ShAt w ok b N s) (k : ByteArray) (hk : k.size ≤ maxLen) :
    Calls Tryz.prog 58 #[.pointer (some ⟨b, 0, none⟩), .string k] w fun e w' => e = .returned (.int .i64 (lastV (look s.K (kb k)))) ∧ Below w.heap.size w w' := by
  obtain ⟨bk, bp, ve, fk, fp, hp⟩ := h
  obtain ⟨A, c, hv, hl, hC⟩ := hp.chain (kb k)
  obtain ⟨c0, c1, c2, c3⟩ := hp.cells
  have HL := Aside0.mk (last_walk w A c (look s.K (kb k)) hC hl (hp.good.keys.look _))
  have HV := Aside0.mk hv
  have HK := Aside0.mk hp.keys
  have HS := Aside0.mk hk
  clear hp hv hC
  generalize lastV (look s.K (kb k)) = r at *
  generalize (look s.K (kb k)) = l at *
  go_enter Tryz.func58, Tryz.ntmps58
  go_wp2_with (at_lookup; refine MapL.at_ HK.out keyedS rfl _ _ 65 74 rfl Tryz.underlying65 (zeroC _) rfl rfl (key_sk HS.out) ?_; rw [HV.out])
  refine HL.out.mono ?_
  rintro e w1 ⟨rfl, hb⟩
  have HB := Aside0.mk hb
  clear hb
  go_wp2_with fail
  go_ret
  exact ⟨rfl, HB.out⟩
set_option maxRecDepth 100000 in
theorem writes1_walk (W : World) (bx : Nat) (key : ByteArray) (hx : W.cell? ⟨bx, 0, none⟩ = some (.string key)) (x : Wr) :
    Calls Tryz.prog 114 (#[.agg #[.string x.f0, .string x.f1, .bool x.f2]] ++ #[.pointer (some ⟨bx, 0, none⟩)]) W fun e W' => e = .returned (.bool (kb x.f0 == kb key)) ∧ Below W.heap.size W W' := by
  rw [← kb_beq]
  have hlt := World.block_lt_of_cell? W _ hx
  have hne : bx ≠ W.heap.size := by simp only at hlt; omega
  show Calls Tryz.prog 114 #[.agg #[.string x.f0, .string x.f1, .bool x.f2], .pointer (some ⟨bx, 0, none⟩)] W _
  obtain ⟨a, s, d⟩ := x
  simp only
  have hx2 : (W.alloc (.cells #[.string a, .string s, .bool d] 57)).cell? ⟨bx, 0, none⟩ = some (.string key) := pw_cell_below (below_alloc (Below.refl _ W) _) hx
  go_enter Tryz.func114, Tryz.ntmps114
  go_wp2
  go_ret
  exact ⟨rfl, below_alloc (Below.refl _ W) _⟩
theorem contains_enough {α : Type} {w : World} {g : Nat} {cap : Array Value} {enc : α → Value} {xs : List α} {p : α → Bool} (h : ∀ W : World, Below w.heap.size w W → ∀ x, Calls Tryz.prog g (#[enc x] ++ cap) W fun e W' => e = .returned (.bool (p x)) ∧ Below W.heap.size W W') : TellsG w g cap enc xs p := fun W hW x _ => h W hW x
set_option maxRecDepth 100000 in
/-- shelf.writes. -/
theorem writes_walk (w : World) (r : Rec) (cs : List Value) (hr : k26.K w r cs) (key : ByteArray) :
    Calls Tryz.prog 85 #[.agg cs.toArray, .string key] w fun e w' => e = .returned (.bool (wrote r (kb key))) ∧ Below w.heap.size w w' := by
  obtain ⟨A7, c7, A8, c8, rfl, h1, h2, h3, h4⟩ := k26_open hr
  obtain ⟨w2, hw2⟩ : ∃ w2, w2 = (w.alloc (.cells #[.int .i64 r.f0, .int .i64 r.f1, .int .i64 r.f2, .int .i64 r.f3, .string r.f4, .string r.f5, .bool r.f6, .slice A7 r.f7.length c7, .slice A8 r.f8.length c8] 26)).alloc (.cells #[.string key] 9) := ⟨_, rfl⟩
  have hB : Below w.heap.size w w2 := by rw [hw2]; exact below_alloc (below_alloc (Below.refl _ w) _) _
  have b1 : w2.heap[w.heap.size + 1]? = some (.cells #[.string key] 9 (0, 0)) := by
    rw [hw2]
    have := blk_new (w.alloc (.cells #[.int .i64 r.f0, .int .i64 r.f1, .int .i64 r.f2, .int .i64 r.f3, .string r.f4, .string r.f5, .bool r.f6, .slice A7 r.f7.length c7, .slice A8 r.f8.length c8] 26)) (.cells #[.string key] 9)
    simpa using this
  have hcon := contains_wrW w2 A8 c8 r.f8 (.pointer (some ⟨w.heap.size + 1, 0, none⟩)) (fun x => kb x.f0 == kb key) (Kd.C_below h4 hB) (contains_enough fun W hW x => writes1_walk W _ key (by rw [blk_cell (blk_below b1 hW) 0]; rfl) x)
  have HC := Aside0.mk hcon
  have HW := Aside0.mk hw2
  have HB := Aside0.mk hB
  have HV : Aside0 (wrote r (kb key) = r.f8.any fun x => kb x.f0 == kb key) := ⟨rfl⟩
  clear hcon hw2 hB b1 h1 h2 h3 h4 hr
  generalize wrote r (kb key) = q at *
  rw [← HV.out] at HC
  go_enter Tryz.func85, Tryz.ntmps85
  go_wp2_with fail
  rw [← HW.out]
  refine HC.out.mono ?_
  rintro e w1 ⟨rfl, hb⟩
  have HB1 : Aside0 (Below w.heap.size w w1) := ⟨HB.out.trans (hb.mono HB.out.size)⟩
  clear hb
  go_wp2_with fail
  go_ret
  exact ⟨rfl, HB1.out⟩
end Go.Proofs.YtaldfbmjmpkmmaaGreat.PL
namespace Go.Proofs.YtaldfbmjmpkmmaaGreat.PL
open Go.RowKit Go.Proofs.YtaldfbmjmpkmmaaGreatW.PrintWords Go.Proofs.YtaldfbmjmpkmmaaGreatW.PrintLast Go.Proofs.YtaldfbmjmpkmmaaGreatW.PrintMore Go.Shelf Go.Maps Go.WideMaps Go.Proofs.YtaldfbmjmpkmmaaGreat.Mk
set_option linter.unusedVariables false
set_option linter.unusedSimpArgs false
set_option linter.unusedSectionVars false
set_option maxRecDepth 100000 in
set_option maxHeartbeats 2000000 in
theorem indexS_walk (w : World) (A : Option Addr) (c : Nat) (xs : List ByteArray) (v : ByteArray) (hr : Kd.C Kd.string w A xs.length xs) :
    Calls Tryz.prog 115 #[.slice A xs.length c, .string v] w fun e w' => e = .returned (.int .i64 (firstG (fun x => kb v == kb x) xs 0)) ∧ Below w.heap.size w w' := by
  have HR := Aside0.mk hr
  have hmax := Kd.C_max hr
  clear hr
  obtain ⟨p, hp⟩ : ∃ p, p = (fun x => kb v == kb x) := ⟨_, rfl⟩
  rw [← hp]
  have HP := Aside0.mk hp
  clear hp
  go_enter Tryz.func115, Tryz.ntmps115
  go_wp2
  go_loopw [8] (fun i wr => ∃ k : Nat, k ≤ xs.length ∧ i = .int .i64 k ∧ Aside0 (firstG p xs 0 = firstG p (xs.drop k) k) ∧ Aside0 (Below w.heap.size w wr))
    (fun i _ => xs.length - (intOf i).toNat)
  case atStart => exact ⟨0, Nat.zero_le _, rfl, ⟨rfl⟩, ⟨Below.refl _ _⟩⟩
  case round =>
    obtain ⟨k, hk, rfl, HF, HB⟩ := hrel
    by_cases hlt : k < xs.length
    · obtain ⟨ad, cs, rfl, hlen, hK, hc0⟩ := Kd.C_get (Kd.C_below HR.out HB.out) (⟨#[]⟩ : ByteArray) (k : Int) (by omega) (by omega)
      rw [Int.toNat_natCast] at hK hc0
      have hc : ∀ j u, cs[j]? = some u → wr.cell? (ad.add (k * 1 + j)) = some u := hc0
      obtain rfl := strK_open hK
      have hc0' : wr.cell? (ad.add k) = some (.string (xs.getD k (⟨#[]⟩ : ByteArray))) := by have := hc 0 _ rfl; simpa using this
      have hdrop : xs.drop k = xs.getD k (⟨#[]⟩ : ByteArray) :: xs.drop (k + 1) := by
        rw [List.drop_eq_getElem_cons hlt]; simp [List.getElem?_eq_getElem hlt]
      have HF2 := HF.out
      rw [hdrop] at HF2
      generalize hx : xs.getD k (⟨#[]⟩ : ByteArray) = x at *
      have HF3 := Aside0.mk HF2
      have hpx : (v.toList == x.toList) = p x := by rw [kb_beq, HP.out]
      clear hdrop hx HF2 HF hK hc0 hc hlen
      cases hq : p x with
      | true =>
        have HV : Aside0 (firstG p xs 0 = (k : Int)) := ⟨by rw [HF3.out]; unfold firstG; rw [hq]; rfl⟩
        rw [hq] at hpx
        clear hq
        go_wp2_with fail
        go_ret
        exact ⟨by rw [HV.out]; rfl, HB.out⟩
      | false =>
        have HV : Aside0 (firstG p xs 0 = firstG p (xs.drop (k + 1)) ((k + 1 : Nat) : Int)) := ⟨by
          rw [HF3.out]
          show (if p x = true then (k : Int) else firstG p (xs.drop (k + 1)) ((k : Int) + 1)) = _
          rw [hq]; simp⟩
        rw [hq] at hpx
        clear hq
        go_wp2_with fail
        go_roundw
        case rel => exact ⟨k + 1, by omega, by go_num, HV, HB⟩
        case measure => simp [intOf]; omega
    · obtain rfl : k = xs.length := by omega
      have HV : Aside0 (firstG p xs 0 = -1) := ⟨by rw [HF.out, List.drop_of_length_le (Nat.le_refl _)]; rfl⟩
      go_wp2
      go_ret
      exact ⟨by rw [HV.out]; rfl, HB.out⟩
set_option maxRecDepth 100000 in
theorem containsS_walk (w : World) (A : Option Addr) (c : Nat) (xs : List ByteArray) (v : ByteArray) (hr : Kd.C Kd.string w A xs.length xs) :
    Calls Tryz.prog 86 #[.slice A xs.length c, .string v] w fun e w' => e = .returned (.bool (xs.any fun x => kb x == kb v)) ∧ Below w.heap.size w w' := by
  have hc := indexS_walk w A c xs v hr
  have hge := firstG_ge (fun x => kb v == kb x) xs 0 (by omega)
  have hval : decide (firstG (fun x => kb v == kb x) xs 0 ≥ 0) = xs.any fun x => kb x == kb v := by
    rw [show (fun x => kb x == kb v) = (fun x => kb v == kb x) from funext fun x => BEq.comm]
    rw [Bool.eq_iff_iff, decide_eq_true_iff]
    exact hge
  generalize firstG (fun x => kb v == kb x) xs 0 = n at hc hval
  have HC := Aside0.mk hc
  have HV := Aside0.mk hval
  clear hc hge hval hr
  generalize (xs.any fun x => kb x == kb v) = q at *
  go_enter Tryz.func86, Tryz.ntmps86
  go_wp2_with fail
  refine HC.out.mono ?_
  rintro e w1 ⟨rfl, hb1⟩
  have HB := Aside0.mk hb1
  clear hb1
  go_wp2_with fail
  go_ret
  exact ⟨by rw [← HV.out]; rfl, HB.out⟩
theorem sameKey_ik (a b : Int) : (ik a).sameKey (ik b) = decide (a = b) := by
  unfold ik
  by_cases e : a = b
  · subst e
    simp [Lit.sameKey]
  · rw [sameKey_ne (fun h => e (by injection h))]
    simp [e]
theorem prep_one {P : List Rec} (h : P.Pairwise (fun a b => a.f1 < b.f1)) {a b : Rec} (ha : a ∈ P) (hb : b ∈ P) (e : a.f1 = b.f1) : a = b := by
  induction P with
  | nil => simp at ha
  | cons x r ih =>
    obtain ⟨h1, h2⟩ := List.pairwise_cons.1 h
    rcases List.mem_cons.1 ha with ea | ha'
    · rcases List.mem_cons.1 hb with eb | hb'
      · rw [ea, eb]
      · have := h1 b hb'
        rw [ea] at e
        omega
    · rcases List.mem_cons.1 hb with eb | hb'
      · have := h1 a ha'
        rw [eb] at e
        omega
      · exact ih h2 ha' hb'
set_option maxRecDepth 100000 in
set_option maxHeartbeats 4000000 in
/-- Held. -/
theorem held_walk {w : World} {ok : Nat → Prop} {b N : Nat} {s : Sh} (h : ShAt w ok b N s) (key : ByteArray) (wt : Bool) :
    Calls Tryz.prog 40 #[.pointer (some ⟨b, 0, none⟩), .string key, .bool wt] w fun e w' => e = .returned (.bool (heldV s (kb key) wt)) ∧ Below w.heap.size w w' := by
  obtain ⟨bk, bp, ve, fk, fp, hp⟩ := h
  obtain ⟨c0, c1, c2, c3⟩ := hp.cells
  have HP := Aside0.mk hp
  clear hp
  go_enter Tryz.func40, Tryz.ntmps40
  go_wp2_with (at_range; refine MapL.range HP.out.preps keyedI rfl _ 66 26 rfl Tryz.underlying66 rfl ?_; intro w1 cnt0 hrg0 hb0 hsz0)
  go_frame
  have HRG0 := Aside0.mk hrg0
  have HB0 := Aside0.mk hb0
  clear hrg0 hb0 hsz0
  go_loopw [8] (fun _ wz => ∃ left cnt, Aside0 (RangeL Tryz.prog 3 wz bp w.heap.size N fp left cnt) ∧ Aside0 (∀ r, r ∈ s.P → left (ik r.f1) = false → heldR r (kb key) wt = false) ∧ Aside0 (Below w.heap.size w wz))
    (fun _ wz => wz.rangeLeft bp w.heap.size)
  case atStart => exact ⟨_, _, HRG0, ⟨fun r hr hl => by rw [HP.out.pt r hr] at hl; cases hl⟩, HB0⟩
  case round =>
    clear HRG0 HB0
    obtain ⟨left, cnt, HRG, HD, HB⟩ := hrel
    go_wp2_with (at_next; refine RangeL.next HRG.out keyedI rfl _ rfl rfl ?_ ?_)
    · intro _ hl0
      have hv : Aside0 (heldV s (kb key) wt = false) := ⟨by
        unfold heldV
        rw [List.any_eq_false]
        intro r hr
        rw [HD.out r hr (hl0 _)]
        simp⟩
      clear hl0
      go_wp2
      go_ret
      exact ⟨by rw [hv.out]; rfl, HB.out⟩
    · intro k q v w2 cnt2 hkey hlq hfv hrg2 hlt hg2 hs2 hen
      have HB2 : Aside0 (Below w.heap.size w w2) := ⟨⟨hg2.os.trans HB.out.os, hg2.tape.trans HB.out.tape, hg2.output.trans HB.out.output, Nat.le_trans HB.out.size hg2.size, fun i hi => (hg2.block i (Nat.lt_of_lt_of_le hi HB.out.size) (fun e => by injection e with e; omega)).trans (HB.out.block i hi)⟩⟩
      obtain ⟨r, hr, hq, cs, hv, hM⟩ := (HP.out.below HB2.out).pf q v hfv
      have hK := k26.K_of_M hM
      obtain ⟨A7, c7, A8, c8, hcs, h1, h2, h3, h4⟩ := k26_open hK
      subst hcs
      subst hv
      subst hq
      have HRG2 := Aside0.mk hrg2
      have HLT := Aside0.mk hlt
      have HRR := Aside0.mk hr
      have HKR := Aside0.mk hK
      have HC7 := Aside0.mk h2
      have HLE := Aside0.mk HRG.out.left_eq
      clear hkey hlq hfv hrg2 hlt hg2 hs2 hM hK h1 h2 h3 h4 hr
      have HLN : Aside0 (∀ r', r' ∈ s.P → (left (ik r'.f1) && !(ik r'.f1).sameKey (ik r.f1)) = false → heldR r (kb key) wt = false → heldR r' (kb key) wt = false) := ⟨fun r' hr' hl hf => by
        cases hl2 : left (ik r'.f1) with
        | false => exact HD.out r' hr' hl2
        | true =>
          rw [hl2, sameKey_ik] at hl
          have : r'.f1 = r.f1 := by simpa using hl
          rw [prep_one HP.out.good.rise hr' HRR.out this]
          exact hf⟩
      have HYES : Aside0 (heldR r (kb key) wt = true → heldV s (kb key) wt = true) := ⟨fun hf => List.any_eq_true.2 ⟨r, HRR.out, hf⟩⟩
      have HHR : Aside0 (heldR r (kb key) wt = (wrote r (kb key) || (wt && watches r (kb key)))) := ⟨rfl⟩
      have HWT : Aside0 (watches r (kb key) = r.f7.any fun q => kb q == kb key) := ⟨rfl⟩
      have hbx := blk_new w2 (.cells #[.int .i64 r.f0, .int .i64 r.f1, .int .i64 r.f2, .int .i64 r.f3, .string r.f4, .string r.f5, .bool r.f6, .slice A7 r.f7.length c7, .slice A8 r.f8.length c8] 26)
      have hbb := below_alloc (Below.refl _ w2) (.cells #[.int .i64 r.f0, .int .i64 r.f1, .int .i64 r.f2, .int .i64 r.f3, .string r.f4, .string r.f5, .bool r.f6, .slice A7 r.f7.length c7, .slice A8 r.f8.length c8] 26)
      have HWW := Aside0.mk (writes_walk _ r _ (k26.K_below hbb HKR.out) key)
      have HBX := Aside0.mk hbx
      have HBB := Aside0.mk hbb
      clear hbx hbb
      generalize wrote r (kb key) = b1 at *
      generalize heldR r (kb key) wt = hR at *
      go_wp2_with fail
      refine HWW.out.mono ?_
      rintro e w4 ⟨rfl, hb4⟩
      have HB24 : Aside0 (Below w2.heap.size w2 w4) := ⟨HBB.out.trans (hb4.mono HBB.out.size)⟩
      have HB4 : Aside0 (Below w.heap.size w w4) := ⟨HB2.out.trans (HB24.out.mono HB2.out.size)⟩
      have HR4 := Aside0.mk (HRG2.out.below HB24.out)
      have BX4 := Aside0.mk (blk_below HBX.out hb4)
      have HC4 := Aside0.mk (k26_open (k26.K_below HB24.out HKR.out))
      clear hb4 HWW HBX HBB HRG2 HB24
      have y7 := blk_cell BX4.out 7
      cases b1 with
      | true =>
        have HV : Aside0 (heldV s (kb key) wt = true) := ⟨HYES.out (by rw [HHR.out]; rfl)⟩
        go_wp2_with fail
        go_ret
        exact ⟨by rw [HV.out]; rfl, HB4.out⟩
      | false =>
        cases wt with
        | false =>
          have HF : Aside0 (hR = false) := ⟨by rw [HHR.out]; rfl⟩
          go_wp2_with fail
          go_roundw
          case rel => exact ⟨_, _, HR4, ⟨fun r' h1 h2 => HLN.out r' h1 h2 HF.out⟩, HB4⟩
          case measure => rw [HR4.out.left_eq, HLE.out]; exact HLT.out
        | true =>
          have hc7 : Aside0 (∃ A c, (Value.slice A7 r.f7.length c7 = .slice A r.f7.length c) ∧ r.f7.length ≤ c ∧ Kd.string.C w4 A r.f7.length r.f7) := ⟨by
            obtain ⟨B7, d7, B8, d8, e, q1, q2, q3, q4⟩ := HC4.out
            injection e with _ e
            injection e with _ e
            injection e with _ e
            injection e with _ e
            injection e with _ e
            injection e with _ e
            injection e with _ e
            injection e with e7 e
            exact ⟨B7, d7, e7, q1, q2⟩⟩
          obtain ⟨B7, d7, e7, q1, q2⟩ := hc7.out
          injection e7 with e71 e72 e73
          subst e71 e73
          have HCS := Aside0.mk (containsS_walk w4 A7 c7 r.f7 key q2)
          rw [← HWT.out] at HCS
          clear q1 q2
          go_wp2_with fail
          refine HCS.out.mono ?_
          rintro e w5 ⟨rfl, hb5⟩
          have HB5 : Aside0 (Below w.heap.size w w5) := ⟨HB4.out.trans (hb5.mono HB4.out.size)⟩
          have HR5 := Aside0.mk (HR4.out.below hb5)
          clear hb5
          generalize watches r (kb key) = b2 at *
          cases b2 with
          | true =>
            have HV : Aside0 (heldV s (kb key) true = true) := ⟨HYES.out (by rw [HHR.out]; rfl)⟩
            go_wp2_with fail
            go_ret
            exact ⟨by rw [HV.out]; rfl, HB5.out⟩
          | false =>
            have HF : Aside0 (hR = false) := ⟨by rw [HHR.out]; rfl⟩
            go_wp2_with fail
            go_roundw
            case rel => exact ⟨_, _, HR5, ⟨fun r' h1 h2 => HLN.out r' h1 h2 HF.out⟩, HB5⟩
            case measure => rw [HR5.out.left_eq, HLE.out]; exact HLT.out
end Go.Proofs.YtaldfbmjmpkmmaaGreat.PL
namespace Go.Proofs.YtaldfbmjmpkmmaaGreat.PL
open Go.RowKit Go.Proofs.YtaldfbmjmpkmmaaGreatW.PrintWords Go.Proofs.YtaldfbmjmpkmmaaGreatW.PrintLast Go.Proofs.YtaldfbmjmpkmmaaGreatW.PrintMore Go.Shelf Go.Maps Go.WideMaps Go.Proofs.YtaldfbmjmpkmmaaGreat.Mk
set_option linter.unusedVariables false
set_option linter.unusedSimpArgs false
set_option linter.unusedSectionVars false
set_option maxRecDepth 100000 in
theorem state1_walk (W : World) (bx : Nat) (t : Int) (hx : W.cell? ⟨bx, 0, none⟩ = some (.int .i64 t)) (x : Int × Int) :
    Calls Tryz.prog 64 (#[.agg #[.int .i64 x.1, .int .i64 x.2]] ++ #[.pointer (some ⟨bx, 0, none⟩)]) W fun e W' => e = .returned (.bool (decide (x.1 = t))) ∧ Below W.heap.size W W' := by
  have hlt := World.block_lt_of_cell? W _ hx
  have hne : bx ≠ W.heap.size := by simp only at hlt; omega
  show Calls Tryz.prog 64 #[.agg #[.int .i64 x.1, .int .i64 x.2], .pointer (some ⟨bx, 0, none⟩)] W _
  obtain ⟨a, d⟩ := x
  simp only
  have hx2 : (W.alloc (.cells #[.int .i64 a, .int .i64 d] 76)).cell? ⟨bx, 0, none⟩ = some (.int .i64 t) := pw_cell_below (below_alloc (Below.refl _ W) _) hx
  have HV : Aside0 ((a == t) = decide (a = t)) := ⟨rfl⟩
  go_enter Tryz.func64, Tryz.ntmps64
  go_wp2
  go_ret
  exact ⟨by rw [← HV.out]; rfl, below_alloc (Below.refl _ W) _⟩
theorem firstG_find {α : Type} (p : α → Bool) : ∀ (l : List α) (i : Int), (firstG p l i = -1 ∧ l.find? p = none) ∨ ∃ k e, k < l.length ∧ l[k]? = some e ∧ firstG p l i = i + (k : Int) ∧ l.find? p = some e
  | [], i => .inl ⟨rfl, rfl⟩
  | x :: r, i => by
    unfold firstG
    rw [List.find?_cons]
    cases hx : p x with
    | true => exact .inr ⟨0, x, by simp, rfl, by simp, rfl⟩
    | false =>
      rcases firstG_find p r (i + 1) with ⟨h1, h2⟩ | ⟨k, e, hk, he, h1, h2⟩
      · exact .inl ⟨by simpa using h1, by simpa using h2⟩
      · refine .inr ⟨k + 1, e, by simpa using hk, by simpa using he, ?_, by simpa using h2⟩
        simp only [Bool.false_eq_true, if_false]
        rw [h1]
        omega
/-- A prepared record, as a look-up gives it. -/
theorem Parts.prep_val {w : World} {ok : Nat → Prop} {b N : Nat} {s : Sh} {bk bp : Nat} {ve : Value} {fk fp : Lit → Option Value} (h : Parts w ok b N s bk bp ve fk fp) (t : Int) : ∃ a0 a1 a2 a3 a4 a5 a6 A7 n7 c7 A8 n8 c8,
    (fp (ik t)).getD (.agg #[.int .i64 0, .int .i64 0, .int .i64 0, .int .i64 0, .string ⟨#[]⟩, .string ⟨#[]⟩, .bool false, .slice none 0 0, .slice none 0 0]) = .agg #[.int .i64 a0, .int .i64 a1, .int .i64 a2, .int .i64 a3, .string a4, .string a5, .bool a6, .slice A7 n7 c7, .slice A8 n8 c8] := by
  cases hf : fp (ik t) with
  | none => exact ⟨0, 0, 0, 0, ⟨#[]⟩, ⟨#[]⟩, false, none, 0, 0, none, 0, 0, rfl⟩
  | some v =>
    obtain ⟨r, _, _, cs, rfl, hM⟩ := h.pf _ v hf
    obtain ⟨A7, c7, A8, c8, rfl, _⟩ := k26_open (k26.K_of_M hM)
    exact ⟨_, _, _, _, _, _, _, _, _, _, _, _, _, rfl⟩
set_option maxRecDepth 100000 in
set_option maxHeartbeats 4000000 in
theorem state_walk {w : World} {ok : Nat → Prop} {b N : Nat} {s : Sh} (h : ShAt w ok b N s) (t : Int) (ht : -9223372036854775808 ≤ t ∧ t ≤ 9223372036854775807) :
    Calls Tryz.prog 28 #[.pointer (some ⟨b, 0, none⟩), .int .i64 t] w fun e w' => e = .returned (.tuple #[.int .i64 (stateV s t).1, .int .i64 (stateV s t).2]) ∧ Below w.heap.size w w' := by
  obtain ⟨bk, bp, ve, fk, fp, hp⟩ := h
  have hb0 := below_alloc (Below.refl _ w) (.cells #[.int .i64 t] 3)
  have hbx := blk_new w (.cells #[.int .i64 t] 3)
  have HP := Aside0.mk (hp.below hb0)
  have HS := Aside0.mk (hp.prep_some t)
  have HT := Aside0.mk ht
  obtain ⟨a0, a1, a2, a3, a4, a5, a6, A7, n7, c7, A8, n8, c8, hval⟩ := hp.prep_val t
  have HV := Aside0.mk hval
  clear hval hp
  obtain ⟨c0, c1, c2, c3⟩ := HP.out.cells
  obtain ⟨w1, hw1⟩ : ∃ w1, w1 = w.alloc (.cells #[.int .i64 t] 3) := ⟨_, rfl⟩
  have HW := Aside0.mk hw1
  rw [← hw1] at c0 c1 c2 c3 HP hb0 hbx
  have HB0 := Aside0.mk hb0
  have HBX := Aside0.mk hbx
  clear hw1 hb0 hbx
  go_enter Tryz.func28, Tryz.ntmps28
  go_wp2_with fail
  rw [← HW.out]
  have x0 := blk_cell HBX.out 0
  go_cut [7] (fun v7 wc => v7 = .bool (s.P.any fun r => decide (r.f1 = t)) ∧ Aside0 (Below w1.heap.size w1 wc))
  case first =>
    have hlk : Sem.run Tryz.prog (Instr.lookup 66 (.map (some bp)) (.int .i64 t) true) ((w1.alloc (.cells #[.int .i64 0, .int .i64 0, .int .i64 0, .int .i64 0, .string ⟨#[]⟩, .string ⟨#[]⟩, .bool false, .slice none 0 0, .slice none 0 0] 26)).drew) = .ok (.tuple #[.agg #[.int .i64 a0, .int .i64 a1, .int .i64 a2, .int .i64 a3, .string a4, .string a5, .bool a6, .slice A7 n7 c7, .slice A8 n8 c8], .bool (s.P.any fun r => decide (r.f1 = t))]) ((w1.alloc (.cells #[.int .i64 0, .int .i64 0, .int .i64 0, .int .i64 0, .string ⟨#[]⟩, .string ⟨#[]⟩, .bool false, .slice none 0 0, .slice none 0 0] 26)).drew) := by
      have := (MapL.get_ (MapL.below HP.out.preps (below_drew1 (below_alloc (Below.refl _ _) _))) keyedI Tryz.underlying66 (zeroR ((w1.alloc (.cells #[.int .i64 0, .int .i64 0, .int .i64 0, .int .i64 0, .string ⟨#[]⟩, .string ⟨#[]⟩, .bool false, .slice none 0 0, .slice none 0 0] 26)).drew)) (key_ik HT.out)).2
      rw [HV.out, HS.out] at this
      exact this
    have hB2 := below_drew1 (below_alloc (Below.refl _ w1) (.cells #[.int .i64 0, .int .i64 0, .int .i64 0, .int .i64 0, .string ⟨#[]⟩, .string ⟨#[]⟩, .bool false, .slice none 0 0, .slice none 0 0] 26))
    have c1' := pw_cell_below hB2 c1
    have x0' := pw_cell_below hB2 x0
    have HB2 := Aside0.mk hB2
    clear hB2
    have hlk0 : Sem.run Tryz.prog (Instr.lookup 66 (.map (some bp)) (.int .i64 t) true) w1.drew = .ok (.tuple #[.agg #[.int .i64 a0, .int .i64 a1, .int .i64 a2, .int .i64 a3, .string a4, .string a5, .bool a6, .slice A7 n7 c7, .slice A8 n8 c8], .bool (s.P.any fun r => decide (r.f1 = t))]) w1.drew := by
      have := (MapL.get_ (MapL.below HP.out.preps (below_drew1 (Below.refl _ _))) keyedI Tryz.underlying66 (zeroR _) (key_ik HT.out)).2
      rw [HV.out, HS.out] at this
      exact this
    generalize (s.P.any fun r => decide (r.f1 = t)) = q at *
    go_region
    all_goals (try go_wp2_with fail)
    all_goals go_meet
    all_goals (case rel => exact ⟨rfl, ⟨below_drew1 (below_alloc (Below.refl _ _) _)⟩⟩)
  case rest =>
    obtain ⟨rfl, HB⟩ := hcut
    have HPC := Aside0.mk (HP.out.below HB.out)
    have HBC : Aside0 (Below w.heap.size w wc) := ⟨HB0.out.trans (HB.out.mono HB0.out.size)⟩
    have BXC := Aside0.mk (blk_below HBX.out HB.out)
    clear x0 c0 c1 c2 c3 HS HV
    obtain ⟨c0, c1, c2, c3⟩ := HPC.out.cells
    have x0 := blk_cell BXC.out 0
    have HSV : Aside0 (stateV s t = if (s.P.any fun r => decide (r.f1 = t)) = true then ((1, 0) : Int × Int) else match s.E.find? (fun e => decide (e.1 = t)) with | none => (0, 0) | some e => if e.2 = 0 then (3, 0) else (2, e.2)) := ⟨rfl⟩
    cases hq : s.P.any fun r => decide (r.f1 = t) with
    | true =>
      rw [hq, if_pos rfl] at HSV
      clear hq
      go_wp2_with fail
      go_ret2
      exact ⟨by rw [HSV.out]; rfl, HBC.out⟩
    | false =>
      rw [hq, if_neg (by simp)] at HSV
      clear hq
      obtain ⟨A, c, hve, hle, hC⟩ := Kd.R_reads HPC.out.ends
      subst hve
      have HC := Aside0.mk hC
      have HIX := Aside0.mk (index_endS wc A c s.E (.pointer (some ⟨w.heap.size, 0, none⟩)) (fun e => decide (e.1 = t)) hC (contains_enough fun W hW x => state1_walk W _ t (by rw [blk_cell (blk_below BXC.out hW) 0]; rfl) x))
      have hmx := HPC.out.good.ends
      clear hC hle
      go_wp2_with fail
      refine HIX.out.mono ?_
      rintro e w2 ⟨rfl, hb2⟩
      have HB2 : Aside0 (Below w.heap.size w w2) := ⟨HBC.out.trans (hb2.mono HBC.out.size)⟩
      have HP2 := Aside0.mk (HPC.out.below hb2)
      have HC2 := Aside0.mk (Kd.C_below HC.out hb2)
      clear c0 c1 c2 c3 x0 HIX hb2
      obtain ⟨c0, c1, c2, c3⟩ := HP2.out.cells
      rcases firstG_find (fun e : Int × Int => decide (e.1 = t)) s.E 0 with ⟨h1, h2⟩ | ⟨k, e, hk, he, h1, h2⟩
      · rw [h2] at HSV
        rw [h1]
        clear h1 h2
        go_wp2_with fail
        go_ret2
        exact ⟨by rw [HSV.out]; rfl, HB2.out⟩
      · rw [h2] at HSV
        rw [h1]
        obtain ⟨ad, cs, rfl, hlen, hK, hc0⟩ := Kd.C_get HC2.out ((0, 0) : Int × Int) (k : Int) (by omega) (by omega)
        rw [Int.toNat_natCast] at hK hc0
        have hget : s.E.getD k (0, 0) = e := by rw [List.getD_eq_getElem?_getD, he]; rfl
        rw [hget] at hK
        obtain rfl := kEnd_open hK
        have d1 : w2.cell? ⟨(ad.add (k * 2)).block, (ad.add (k * 2)).off + 1, none⟩ = some (.int .i64 e.2) := by rw [← add_field _ _ 1 (by omega)]; exact hc0 1 _ rfl
        have hzk : (0 : Int) + (k : Int) = (k : Int) := by omega
        rw [hzk]
        clear hget hK hc0 hlen h1 h2 he hzk
        obtain ⟨e1, e2⟩ := e
        simp only at d1 HSV
        by_cases hz : e2 = 0
        · subst hz
          rw [if_pos rfl] at HSV
          go_wp2_with fail
          go_ret2
          exact ⟨by rw [HSV.out]; rfl, HB2.out⟩
        · rw [if_neg hz] at HSV
          have hzb : (e2 == 0) = false := by simpa using hz
          go_wp2_with fail
          go_quiet (fail)
          all_goals (try go_wp2)
          go_ret2
          exact ⟨by rw [HSV.out]; rfl, by repeat (first | exact HB2.out | apply below_drew1 | apply pw_below_drewN)⟩
end Go.Proofs.YtaldfbmjmpkmmaaGreat.PL
namespace Go.Proofs.YtaldfbmjmpkmmaaGreat.PL
open Go.RowKit Go.Proofs.YtaldfbmjmpkmmaaGreatW.PrintWords Go.Proofs.YtaldfbmjmpkmmaaGreatW.PrintLast Go.Proofs.YtaldfbmjmpkmmaaGreatW.PrintMore Go.Shelf Go.Maps Go.WideMaps Go.Proofs.YtaldfbmjmpkmmaaGreat.Mk
set_option linter.unusedVariables false
set_option linter.unusedSimpArgs false
set_option linter.unusedSectionVars false
set_option maxRecDepth 100000 in
set_option maxHeartbeats 4000000 in
theorem read_walk {w : World} {ok : Nat → Prop} {b N : Nat} {s : Sh} (h : ShAt w ok b N s) (k : ByteArray) (hk : k.size ≤ maxLen) (t : Int) :
    Calls Tryz.prog 16 #[.pointer (some ⟨b, 0, none⟩), .string k, .int .i64 t] w fun e w' => e = .returned (.tuple #[.int .i64 (readV s (kb k) t).1, .agg #[.int .i64 (readV s (kb k) t).2.f0, .string (readV s (kb k) t).2.f1, .bool (readV s (kb k) t).2.f2]]) ∧ Below w.heap.size w w' := by
  obtain ⟨w1, hw1⟩ : ∃ w1, w1 = w.alloc (.cells #[.int .i64 0, .string ⟨#[]⟩, .bool false] 43) := ⟨_, rfl⟩
  have HW := Aside0.mk hw1
  have hB1 : Below w.heap.size w w1 := by rw [hw1]; exact below_alloc (Below.refl _ w) _
  have hbx : w1.heap[w.heap.size]? = some (.cells #[.int .i64 0, .string ⟨#[]⟩, .bool false] 43 (0, 0)) := by rw [hw1]; exact blk_new _ _
  have H1 := h.below hB1
  clear hw1
  have HHD := Aside0.mk (held_walk H1 k false)
  obtain ⟨bk, bp, ve, fk, fp, hp⟩ := H1
  obtain ⟨c0, c1, c2, c3⟩ := hp.cells
  have HP := Aside0.mk hp
  have HB1 := Aside0.mk hB1
  have BX1 := Aside0.mk hbx
  have HS := Aside0.mk hk
  have hu := Tryz.underlying43
  have HV : Aside0 (readV s (kb k) t = if t < s.over then (4, zVer) else if heldV s (kb k) false = true then (3, zVer) else if (atV (look s.K (kb k)) t).2 = false then (0, (atV (look s.K (kb k)) t).1) else if (atV (look s.K (kb k)) t).1.f2 = true then (2, (atV (look s.K (kb k)) t).1) else (1, (atV (look s.K (kb k)) t).1)) := ⟨rfl⟩
  have x0 := blk_cell hbx 0
  have x1 := blk_cell hbx 1
  have x2 := blk_cell hbx 2
  have g0 := blk_frozen hbx 0
  have g1 := blk_frozen hbx 1
  have g2 := blk_frozen hbx 2
  clear hp hB1 hbx hk h
  have c3w := c3
  rw [HW.out] at c3w
  by_cases ho : t < s.over
  · rw [if_pos ho] at HV
    have BXW := BX1
    have HBW := HB1
    rw [HW.out] at x0 x1 x2 g0 g1 g2 BXW HBW
    have d1 : decide (t < s.over) = true := decide_eq_true ho
    clear c0 c1 c2 c3
    go_enter Tryz.func16, Tryz.ntmps16
    go_wp2_with fail
    go_region
    all_goals (try go_wp2_with fail)
    (try simp only [Exit.inBlock, Exit.then])
    refine bodyPost_ret (results_list (rs := [.tmp 6, .cell 7 43]) rfl (by simp) (Vals.tmp (Vals.cell w.heap.size 43 _ (0, 0) _ rfl (blk_drew BXW.out) Tryz.underlying43 rfl (by kernel_rfl) Vals.nil))) rfl ?_
    exact ⟨by rw [HV.out]; rfl, below_drew1 HBW.out⟩
  · rw [if_neg ho] at HV
    have d1 : decide (t < s.over) = false := decide_eq_false ho
    go_enter Tryz.func16, Tryz.ntmps16
    go_wp2_with fail
    rw [← HW.out]
    refine HHD.out.mono ?_
    rintro e w2 ⟨rfl, hb2⟩
    have HB2 : Aside0 (Below w.heap.size w w2) := ⟨HB1.out.trans (hb2.mono HB1.out.size)⟩
    have HP2 := Aside0.mk (HP.out.below hb2)
    have BX2 := Aside0.mk (blk_below BX1.out hb2)
    clear hb2 x0 x1 x2 g0 g1 g2 c0 c1 c2 c3 c3w HP BX1 HB1 HHD
    obtain ⟨c0, c1, c2, c3⟩ := HP2.out.cells
    have x0 := blk_cell BX2.out 0
    have x1 := blk_cell BX2.out 1
    have x2 := blk_cell BX2.out 2
    have g0 := blk_frozen BX2.out 0
    have g1 := blk_frozen BX2.out 1
    have g2 := blk_frozen BX2.out 2
    cases hh : heldV s (kb k) false with
    | true =>
      rw [hh, if_pos rfl] at HV
      clear hh
      go_wp2_with fail
      go_region
      all_goals (try go_wp2_with fail)
      (try simp only [Exit.inBlock, Exit.then])
      refine bodyPost_ret (results_list (rs := [.tmp 6, .cell 7 43]) rfl (by simp) (Vals.tmp (Vals.cell w.heap.size 43 _ (0, 0) _ rfl (blk_drew (blk_put (blk_put (blk_put BX2.out 0 _ rfl) 1 _ rfl) 2 _ rfl)) Tryz.underlying43 rfl (by kernel_rfl) Vals.nil))) rfl ?_
      exact ⟨by rw [HV.out]; rfl, below_drew1 (Below.setCell (Below.setCell (Below.setCell HB2.out (Nat.le_refl _) _) (Nat.le_refl _) _) (Nat.le_refl _) _)⟩
    | false =>
      rw [hh, if_neg (by simp)] at HV
      clear hh
      obtain ⟨A, c, hv, hl, hC⟩ := HP2.out.chain (kb k)
      have HAT := Aside0.mk (at_walk w2 A c (look s.K (kb k)) t hC hl (HP2.out.good.keys.look _))
      have HVL := Aside0.mk hv
      clear hv hl hC
      generalize atV (look s.K (kb k)) t = r at *
      generalize (look s.K (kb k)) = l at *
      go_wp2_with (at_lookup; refine MapL.at_ HP2.out.keys keyedS rfl _ _ 65 74 rfl Tryz.underlying65 (zeroC _) rfl rfl (key_sk HS.out) ?_; rw [HVL.out])
      refine HAT.out.mono ?_
      rintro e w3 ⟨rfl, hb3⟩
      have HB3 : Aside0 (Below w.heap.size w w3) := ⟨HB2.out.trans (hb3.mono HB2.out.size)⟩
      have BX3 := Aside0.mk (blk_below BX2.out hb3)
      clear hb3 x0 x1 x2 g0 g1 g2 c0 c1 c2 c3 HP2 BX2 HB2 HAT HVL
      have x0 := blk_cell BX3.out 0
      have x1 := blk_cell BX3.out 1
      have x2 := blk_cell BX3.out 2
      have g0 := blk_frozen BX3.out 0
      have g1 := blk_frozen BX3.out 1
      have g2 := blk_frozen BX3.out 2
      obtain ⟨⟨a0, a1, a2⟩, q⟩ := r
      simp only at HV ⊢
      cases q with
      | false =>
        rw [if_pos rfl] at HV
        go_wp2_with fail
        go_region
        all_goals (try go_wp2_with fail)
        (try simp only [Exit.inBlock, Exit.then])
        refine bodyPost_ret (results_list (rs := [.tmp 6, .cell 7 43]) rfl (by simp) (Vals.tmp (Vals.cell w.heap.size 43 _ (0, 0) _ rfl (blk_drew (blk_put (blk_put (blk_put (blk_put (blk_put (blk_put BX3.out 0 _ rfl) 1 _ rfl) 2 _ rfl) 0 _ rfl) 1 _ rfl) 2 _ rfl)) Tryz.underlying43 rfl (by kernel_rfl) Vals.nil))) rfl ?_
        exact ⟨by rw [HV.out]; rfl, below_drew1 (Below.setCell (Below.setCell (Below.setCell (Below.setCell (Below.setCell (Below.setCell HB3.out (Nat.le_refl _) _) (Nat.le_refl _) _) (Nat.le_refl _) _) (Nat.le_refl _) _) (Nat.le_refl _) _) (Nat.le_refl _) _)⟩
      | true =>
        rw [if_neg (by simp)] at HV
        cases a2 with
        | true =>
          rw [if_pos rfl] at HV
          go_wp2_with fail
          go_region
          all_goals (try go_wp2_with fail)
          (try simp only [Exit.inBlock, Exit.then])
          refine bodyPost_ret (results_list (rs := [.tmp 6, .cell 7 43]) rfl (by simp) (Vals.tmp (Vals.cell w.heap.size 43 _ (0, 0) _ rfl (blk_drew (blk_put (blk_put (blk_put (blk_put (blk_put (blk_put BX3.out 0 _ rfl) 1 _ rfl) 2 _ rfl) 0 _ rfl) 1 _ rfl) 2 _ rfl)) Tryz.underlying43 rfl (by kernel_rfl) Vals.nil))) rfl ?_
          exact ⟨by rw [HV.out]; rfl, below_drew1 (Below.setCell (Below.setCell (Below.setCell (Below.setCell (Below.setCell (Below.setCell HB3.out (Nat.le_refl _) _) (Nat.le_refl _) _) (Nat.le_refl _) _) (Nat.le_refl _) _) (Nat.le_refl _) _) (Nat.le_refl _) _)⟩
        | false =>
          rw [if_neg (by simp)] at HV
          go_wp2_with fail
          go_region
          all_goals (try go_wp2_with fail)
          (try simp only [Exit.inBlock, Exit.then])
          refine bodyPost_ret (results_list (rs := [.tmp 6, .cell 7 43]) rfl (by simp) (Vals.tmp (Vals.cell w.heap.size 43 _ (0, 0) _ rfl (blk_drew (blk_put (blk_put (blk_put (blk_put (blk_put (blk_put BX3.out 0 _ rfl) 1 _ rfl) 2 _ rfl) 0 _ rfl) 1 _ rfl) 2 _ rfl)) Tryz.underlying43 rfl (by kernel_rfl) Vals.nil))) rfl ?_
          exact ⟨by rw [HV.out]; rfl, below_drew1 (Below.setCell (Below.setCell (Below.setCell (Below.setCell (Below.setCell (Below.setCell HB3.out (Nat.le_refl _) _) (Nat.le_refl _) _) (Nat.le_refl _) _) (Nat.le_refl _) _) (Nat.le_refl _) _) (Nat.le_refl _) _)⟩
end Go.Proofs.YtaldfbmjmpkmmaaGreat.PL
namespace Go.Proofs.YtaldfbmjmpkmmaaGreat.PL
open Go.RowKit Go.Proofs.YtaldfbmjmpkmmaaGreatW.PrintWords Go.Proofs.YtaldfbmjmpkmmaaGreatW.PrintLast Go.Proofs.YtaldfbmjmpkmmaaGreatW.PrintMore Go.Shelf Go.Maps Go.WideMaps Go.Proofs.YtaldfbmjmpkmmaaGreat.Mk
set_option linter.unusedVariables false
set_option linter.unusedSimpArgs false
set_option linter.unusedSectionVars false
/-- A row of one's own under two stores into a box of records. -/
theorem R_far2 {α : Type} {d : Kd α} {e base : Nat} {ok : Nat → Prop} {w : World} {v : Value} {xs : List α} (ht : ∀ q, q ∈ e :: d.E → q ≠ 26) (h : d.R e w base ok v xs) {g : Nat} {cells : Array Value} (hb : w.heap[g]? = some (.cells cells 26 (0, 0))) (i : Nat) (u : Value) (j : Nat) (x : Value) :
    d.R e ((w.setCell ⟨g, i, none⟩ u).setCell ⟨g, j, none⟩ x) base ok v xs :=
  Kd.R_mono (Kd.R_step (Kd.R_types h hb ht) (fun k hk _ => (Below.heap_setCell _ ⟨g, j, none⟩ x k hk.2).trans (Below.heap_setCell _ ⟨g, i, none⟩ u k hk.2))) (fun _ hk => hk.1)
theorem R_box {α : Type} {d : Kd α} {e base : Nat} {ok : Nat → Prop} {w w1 : World} {v : Value} {xs : List α} (ht : ∀ q, q ∈ e :: d.E → q ≠ 26) (h : d.R e w base ok v xs) {g : Nat} {cells : Array Value} (hb : w.heap[g]? = some (.cells cells 26 (0, 0))) (hm : ∀ k, k ≠ g → w1.heap[k]? = w.heap[k]?) : d.R e w1 base ok v xs :=
  Kd.R_mono (Kd.R_step (Kd.R_types h hb ht) (fun k hk _ => hm k hk.2)) (fun _ hk => hk.1)
set_option maxRecDepth 100000 in
set_option maxHeartbeats 4000000 in
theorem copied_walk (w : World) (r : Rec) (cs : List Value) (hK : k26.K w r cs) (h7 : r.f7.length ≤ 8192) (h8 : r.f8.length ≤ 8192) :
    Calls Tryz.prog 31 #[.agg cs.toArray] w fun e w' => ∃ cs', e = .returned (.agg cs'.toArray) ∧ k26.M w' w.heap.size (fun _ => True) r cs' ∧ Below w.heap.size w w' := by
  obtain ⟨A7, c7, A8, c8, rfl, l7, g7, l8, g8⟩ := k26_open hK
  obtain ⟨r0, r1, r2, r3, r4, r5, r6, r7, r8⟩ := r
  simp only at *
  obtain ⟨w2, hw2⟩ : ∃ w2, w2 = (w.alloc (.cells #[.int .i64 r0, .int .i64 r1, .int .i64 r2, .int .i64 r3, .string r4, .string r5, .bool r6, .slice A7 r7.length c7, .slice A8 r8.length c8] 26)).alloc (.cells #[.int .i64 0, .int .i64 0, .int .i64 0, .int .i64 0, .string ⟨#[]⟩, .string ⟨#[]⟩, .bool false, .slice none 0 0, .slice none 0 0] 26) := ⟨_, rfl⟩
  have hB : Below w.heap.size w w2 := by rw [hw2]; exact below_alloc (below_alloc (Below.refl _ w) _) _
  have hx1 : w2.heap[w.heap.size]? = some (.cells #[.int .i64 r0, .int .i64 r1, .int .i64 r2, .int .i64 r3, .string r4, .string r5, .bool r6, .slice A7 r7.length c7, .slice A8 r8.length c8] 26 (0, 0)) := by rw [hw2]; exact blk_alloc (blk_new _ _) _
  have hx2 : w2.heap[w.heap.size + 1]? = some (.cells #[.int .i64 0, .int .i64 0, .int .i64 0, .int .i64 0, .string ⟨#[]⟩, .string ⟨#[]⟩, .bool false, .slice none 0 0, .slice none 0 0] 26 (0, 0)) := by
    rw [hw2]
    have := blk_new (w.alloc (.cells #[.int .i64 r0, .int .i64 r1, .int .i64 r2, .int .i64 r3, .string r4, .string r5, .bool r6, .slice A7 r7.length c7, .slice A8 r8.length c8] 26)) (.cells #[.int .i64 0, .int .i64 0, .int .i64 0, .int .i64 0, .string ⟨#[]⟩, .string ⟨#[]⟩, .bool false, .slice none 0 0, .slice none 0 0] 26)
    simpa using this
  have HW := Aside0.mk hw2
  have HB2 := Aside0.mk hB
  have HX1 := Aside0.mk hx1
  have HX2 := Aside0.mk hx2
  have H7 : Aside0 (∀ W, Below w.heap.size w W → Calls Tryz.prog 68 #[.slice A7 r7.length c7] W fun e w' => ∃ v, e = .returned v ∧ Kd.R Kd.string 9 w' W.heap.size (fun _ => True) v r7 ∧ Below W.heap.size W w') := ⟨fun W hW => clone_str W A7 c7 r7 (Kd.C_below g7 hW) h7⟩
  have H8 : Aside0 (∀ W, Below w.heap.size w W → Calls Tryz.prog 69 #[.slice A8 r8.length c8] W fun e w' => ∃ v, e = .returned v ∧ Kd.R k57 57 w' W.heap.size (fun _ => True) v r8 ∧ Below W.heap.size W w') := ⟨fun W hW => clone_wr W A8 c8 r8 (Kd.C_below g8 hW) h8⟩
  clear hw2 hB hx1 hx2 g7 g8 hK l7 l8
  go_enter Tryz.func31, Tryz.ntmps31
  go_wp2_with fail
  rw [← HW.out]
  have x7 := blk_cell HX1.out 7
  have x8 := blk_cell HX1.out 8
  have f7 := blk_frozen HX1.out 7
  have f8 := blk_frozen HX1.out 8
  go_region_law (first
    | (go_simp; go_at_call 68; refine (H7.out _ (by repeat (first | exact HB2.out | apply below_drew1))).mono ?_; rintro e w3 ⟨v7, rfl, hv7, hb3⟩; obtain ⟨B7, d7, hs7⟩ := Kd.R_slice hv7; subst hs7; have HV7 := Aside0.mk hv7; have HB3 := Aside0.mk hb3; have X3 := Aside0.mk (blk_below (blk_drew HX1.out) hb3); have Y3 := Aside0.mk (blk_below (blk_drew HX2.out) hb3); clear hv7 hb3 x7 x8 f7 f8; have x7 := blk_cell X3.out 7; have x8 := blk_cell X3.out 8; have f7 := blk_frozen X3.out 7; have f8 := blk_frozen X3.out 8)
    | (go_simp; go_at_call 69; refine (H8.out _ ((below_drew1 HB2.out).trans (HB3.out.mono (below_drew1 HB2.out).size))).mono ?_; rintro e w4 ⟨v8, rfl, hv8, hb4⟩; obtain ⟨B8, d8, hs8⟩ := Kd.R_slice hv8; subst hs8; have HV8 := Aside0.mk hv8; have HB4 := Aside0.mk hb4; have X4 := Aside0.mk (blk_below X3.out hb4); have Y4 := Aside0.mk (blk_below Y3.out hb4); clear hv8 hb4 x7 x8 f7 f8 X3 Y3; have x7 := blk_cell X4.out 7; have x8 := blk_cell X4.out 8; have f7 := blk_frozen X4.out 7; have f8 := blk_frozen X4.out 8))
  all_goals
    have B3 : Aside0 (Below w.heap.size w w3) := ⟨(below_drew1 HB2.out).trans (HB3.out.mono (below_drew1 HB2.out).size)⟩
    have B4 : Aside0 (Below w.heap.size w w4) := ⟨B3.out.trans (HB4.out.mono B3.out.size)⟩
    have BX5 : Aside0 (((w4.setCell ⟨w.heap.size, 7, none⟩ (.slice B7 r7.length d7)).setCell ⟨w.heap.size, 8, none⟩ (.slice B8 r8.length d8)).heap[w.heap.size]? = some (.cells #[.int .i64 r0, .int .i64 r1, .int .i64 r2, .int .i64 r3, .string r4, .string r5, .bool r6, .slice B7 r7.length d7, .slice B8 r8.length d8] 26 (0, 0))) := ⟨blk_put (blk_put X4.out 7 _ rfl) 8 _ rfl⟩
    have BY5 := Aside0.mk (blk_far (blk_far Y4.out (p := ⟨w.heap.size, 7, none⟩) (by simp) (.slice B7 r7.length d7)) (p := ⟨w.heap.size, 8, none⟩) (by simp) (.slice B8 r8.length d8))
    have B5 : Aside0 (Below w.heap.size w ((w4.setCell ⟨w.heap.size, 7, none⟩ (.slice B7 r7.length d7)).setCell ⟨w.heap.size, 8, none⟩ (.slice B8 r8.length d8))) := ⟨(B4.out.setCell (Nat.le_refl _) _).setCell (Nat.le_refl _) _⟩
    have V7 := Aside0.mk (Kd.R_lower (Kd.R_below HV7.out HB4.out) (below_drew1 HB2.out).size)
    have V8 := Aside0.mk (Kd.R_lower HV8.out B3.out.size)
    have W7 := Aside0.mk (R_far2 (by decide) V7.out (g := w.heap.size) X4.out 7 (.slice B7 r7.length d7) 8 (.slice B8 r8.length d8))
    have W8 := Aside0.mk (R_far2 (by decide) V8.out (g := w.heap.size) X4.out 7 (.slice B7 r7.length d7) 8 (.slice B8 r8.length d8))
    generalize (w4.setCell ⟨w.heap.size, 7, none⟩ (.slice B7 r7.length d7)).setCell ⟨w.heap.size, 8, none⟩ (.slice B8 r8.length d8) = w5 at *
    clear x7 x8 f7 f8 V7 V8 B3 B4 X4 Y4 HV7 HV8 HB3 HB4
    have x0 := blk_cell BX5.out 0
    have x1 := blk_cell BX5.out 1
    have x2 := blk_cell BX5.out 2
    have x3 := blk_cell BX5.out 3
    have x4 := blk_cell BX5.out 4
    have x5 := blk_cell BX5.out 5
    have x6 := blk_cell BX5.out 6
    have x7 := blk_cell BX5.out 7
    have x8 := blk_cell BX5.out 8
    have y0 := blk_cell BY5.out 0
    have y1 := blk_cell BY5.out 1
    have y2 := blk_cell BY5.out 2
    have y3 := blk_cell BY5.out 3
    have y4 := blk_cell BY5.out 4
    have y5 := blk_cell BY5.out 5
    have y6 := blk_cell BY5.out 6
    have y7 := blk_cell BY5.out 7
    have y8 := blk_cell BY5.out 8
    have f0 := blk_frozen BY5.out 0
    have f1 := blk_frozen BY5.out 1
    have f2 := blk_frozen BY5.out 2
    have f3 := blk_frozen BY5.out 3
    have f4 := blk_frozen BY5.out 4
    have f5 := blk_frozen BY5.out 5
    have f6 := blk_frozen BY5.out 6
    have f7 := blk_frozen BY5.out 7
    have f8 := blk_frozen BY5.out 8
    go_wp2
    have z0 := blk_put (cs' := #[.int .i64 r0, .int .i64 0, .int .i64 0, .int .i64 0, .string ⟨#[]⟩, .string ⟨#[]⟩, .bool false, .slice none 0 0, .slice none 0 0]) BY5.out 0 (.int .i64 r0) rfl
    have z1 := blk_put (cs' := #[.int .i64 r0, .int .i64 r1, .int .i64 0, .int .i64 0, .string ⟨#[]⟩, .string ⟨#[]⟩, .bool false, .slice none 0 0, .slice none 0 0]) z0 1 (.int .i64 r1) rfl
    have z2 := blk_put (cs' := #[.int .i64 r0, .int .i64 r1, .int .i64 r2, .int .i64 0, .string ⟨#[]⟩, .string ⟨#[]⟩, .bool false, .slice none 0 0, .slice none 0 0]) z1 2 (.int .i64 r2) rfl
    have z3 := blk_put (cs' := #[.int .i64 r0, .int .i64 r1, .int .i64 r2, .int .i64 r3, .string ⟨#[]⟩, .string ⟨#[]⟩, .bool false, .slice none 0 0, .slice none 0 0]) z2 3 (.int .i64 r3) rfl
    have z4 := blk_put (cs' := #[.int .i64 r0, .int .i64 r1, .int .i64 r2, .int .i64 r3, .string r4, .string ⟨#[]⟩, .bool false, .slice none 0 0, .slice none 0 0]) z3 4 (.string r4) rfl
    have z5 := blk_put (cs' := #[.int .i64 r0, .int .i64 r1, .int .i64 r2, .int .i64 r3, .string r4, .string r5, .bool false, .slice none 0 0, .slice none 0 0]) z4 5 (.string r5) rfl
    have z6 := blk_put (cs' := #[.int .i64 r0, .int .i64 r1, .int .i64 r2, .int .i64 r3, .string r4, .string r5, .bool r6, .slice none 0 0, .slice none 0 0]) z5 6 (.bool r6) rfl
    have z7 := blk_put (cs' := #[.int .i64 r0, .int .i64 r1, .int .i64 r2, .int .i64 r3, .string r4, .string r5, .bool r6, .slice B7 r7.length d7, .slice none 0 0]) z6 7 (.slice B7 r7.length d7) rfl
    have z8 := blk_put (cs' := #[.int .i64 r0, .int .i64 r1, .int .i64 r2, .int .i64 r3, .string r4, .string r5, .bool r6, .slice B7 r7.length d7, .slice B8 r8.length d8]) z7 8 (.slice B8 r8.length d8) rfl
    have BZ : Aside0 ((((((((((w5.setCell ⟨w.heap.size + 1, 0, none⟩ (.int .i64 r0)).setCell ⟨w.heap.size + 1, 1, none⟩ (.int .i64 r1)).setCell ⟨w.heap.size + 1, 2, none⟩ (.int .i64 r2)).setCell ⟨w.heap.size + 1, 3, none⟩ (.int .i64 r3)).setCell ⟨w.heap.size + 1, 4, none⟩ (.string r4)).setCell ⟨w.heap.size + 1, 5, none⟩ (.string r5)).setCell ⟨w.heap.size + 1, 6, none⟩ (.bool r6)).setCell ⟨w.heap.size + 1, 7, none⟩ (.slice B7 r7.length d7)).setCell ⟨w.heap.size + 1, 8, none⟩ (.slice B8 r8.length d8)).heap[w.heap.size + 1]? = some (.cells #[.int .i64 r0, .int .i64 r1, .int .i64 r2, .int .i64 r3, .string r4, .string r5, .bool r6, .slice B7 r7.length d7, .slice B8 r8.length d8] 26 (0, 0))) := ⟨z8⟩
    have B6 : Aside0 (Below w.heap.size w (((((((((w5.setCell ⟨w.heap.size + 1, 0, none⟩ (.int .i64 r0)).setCell ⟨w.heap.size + 1, 1, none⟩ (.int .i64 r1)).setCell ⟨w.heap.size + 1, 2, none⟩ (.int .i64 r2)).setCell ⟨w.heap.size + 1, 3, none⟩ (.int .i64 r3)).setCell ⟨w.heap.size + 1, 4, none⟩ (.string r4)).setCell ⟨w.heap.size + 1, 5, none⟩ (.string r5)).setCell ⟨w.heap.size + 1, 6, none⟩ (.bool r6)).setCell ⟨w.heap.size + 1, 7, none⟩ (.slice B7 r7.length d7)).setCell ⟨w.heap.size + 1, 8, none⟩ (.slice B8 r8.length d8))) := ⟨(Below.setCell (Below.setCell (Below.setCell (Below.setCell (Below.setCell (Below.setCell (Below.setCell (Below.setCell (Below.setCell B5.out (Nat.le_succ _) _) (Nat.le_succ _) _) (Nat.le_succ _) _) (Nat.le_succ _) _) (Nat.le_succ _) _) (Nat.le_succ _) _) (Nat.le_succ _) _) (Nat.le_succ _) _) (Nat.le_succ _) _)⟩
    have HM : Aside0 (∀ k, k ≠ w.heap.size + 1 → (((((((((w5.setCell ⟨w.heap.size + 1, 0, none⟩ (.int .i64 r0)).setCell ⟨w.heap.size + 1, 1, none⟩ (.int .i64 r1)).setCell ⟨w.heap.size + 1, 2, none⟩ (.int .i64 r2)).setCell ⟨w.heap.size + 1, 3, none⟩ (.int .i64 r3)).setCell ⟨w.heap.size + 1, 4, none⟩ (.string r4)).setCell ⟨w.heap.size + 1, 5, none⟩ (.string r5)).setCell ⟨w.heap.size + 1, 6, none⟩ (.bool r6)).setCell ⟨w.heap.size + 1, 7, none⟩ (.slice B7 r7.length d7)).setCell ⟨w.heap.size + 1, 8, none⟩ (.slice B8 r8.length d8)).heap[k]? = w5.heap[k]?) := ⟨fun k hk => (Eq.trans (Below.heap_setCell _ _ _ k hk) (Eq.trans (Below.heap_setCell _ _ _ k hk) (Eq.trans (Below.heap_setCell _ _ _ k hk) (Eq.trans (Below.heap_setCell _ _ _ k hk) (Eq.trans (Below.heap_setCell _ _ _ k hk) (Eq.trans (Below.heap_setCell _ _ _ k hk) (Eq.trans (Below.heap_setCell _ _ _ k hk) (Eq.trans (Below.heap_setCell _ _ _ k hk) (Below.heap_setCell _ _ _ k hk)))))))))⟩
    clear z0 z1 z2 z3 z4 z5 z6 z7 z8
    generalize (((((((((w5.setCell ⟨w.heap.size + 1, 0, none⟩ (.int .i64 r0)).setCell ⟨w.heap.size + 1, 1, none⟩ (.int .i64 r1)).setCell ⟨w.heap.size + 1, 2, none⟩ (.int .i64 r2)).setCell ⟨w.heap.size + 1, 3, none⟩ (.int .i64 r3)).setCell ⟨w.heap.size + 1, 4, none⟩ (.string r4)).setCell ⟨w.heap.size + 1, 5, none⟩ (.string r5)).setCell ⟨w.heap.size + 1, 6, none⟩ (.bool r6)).setCell ⟨w.heap.size + 1, 7, none⟩ (.slice B7 r7.length d7)).setCell ⟨w.heap.size + 1, 8, none⟩ (.slice B8 r8.length d8)) = w6 at *
    have Z7 := Aside0.mk (R_box (by decide) W7.out BY5.out HM.out)
    have Z8 := Aside0.mk (R_box (by decide) W8.out BY5.out HM.out)
    refine bodyPost_ret (results_cell_row rfl _ _ (w.heap.size + 1) 26 _ (0, 0) _ rfl BZ.out Tryz.underlying26 rfl (by kernel_rfl)) rfl ?_
    exact ⟨[.int .i64 r0, .int .i64 r1, .int .i64 r2, .int .i64 r3, .string r4, .string r5, .bool r6, .slice B7 r7.length d7, .slice B8 r8.length d8], rfl, k26_mkM _ _ _ (⟨r0, r1, r2, r3, r4, r5, r6, r7, r8⟩ : Rec) Z7.out Z8.out, B6.out⟩
end Go.Proofs.YtaldfbmjmpkmmaaGreat.PL
namespace Go.Proofs.YtaldfbmjmpkmmaaGreat.PL
open Go.RowKit Go.Proofs.YtaldfbmjmpkmmaaGreatW.PrintWords Go.Proofs.YtaldfbmjmpkmmaaGreatW.PrintLast Go.Proofs.YtaldfbmjmpkmmaaGreatW.PrintMore Go.Shelf Go.Maps Go.WideMaps Go.Proofs.YtaldfbmjmpkmmaaGreat.Mk
set_option linter.unusedVariables false
set_option linter.unusedSimpArgs false
set_option linter.unusedSectionVars false

set_option maxRecDepth 100000 in
theorem new_walk (w : World) : Calls Tryz.prog 12 #[] w fun e w' => ∃ b, e = .returned (.pointer (some ⟨b, 0, none⟩)) ∧ ShAt w' (fun g => w.heap.size ≤ g) b 0 sh0 ∧ Below w.heap.size w w' := by
  have m1 := MapL.made Tryz.prog 9 w
  have m2 := MapL.made Tryz.prog 3 (w.alloc (.map #[] 0))
  have b1 := below_alloc (Below.refl _ (w.alloc (.map #[] 0))) (.map #[] 0)
  have b2 := below_alloc (Below.refl _ ((w.alloc (.map #[] 0)).alloc (.map #[] 0))) (.cells #[.map (some w.heap.size), .map (some (w.heap.size + 1)), .slice none 0 0, .int .i64 0] 69)
  have h1 := (m1.below b1).below b2
  have h2 := m2.below b2
  have hbx := blk_new ((w.alloc (.map #[] 0)).alloc (.map #[] 0)) (.cells #[.map (some w.heap.size), .map (some (w.heap.size + 1)), .slice none 0 0, .int .i64 0] 69)
  have hs : (w.alloc (.map #[] 0)).heap.size = w.heap.size + 1 := by simp
  have hs2 : ((w.alloc (.map #[] 0)).alloc (.map #[] 0)).heap.size = w.heap.size + 2 := by simp
  rw [hs] at h2
  rw [hs2] at hbx
  have H := Aside0.mk (And.intro h1 (And.intro h2 hbx))
  clear m1 m2 b1 b2 h1 h2 hbx hs hs2
  have hmm := @run_makeMap Tryz.prog
  go_enter Tryz.func12, Tryz.ntmps12
  go_wp2
  go_ret
  refine ⟨w.heap.size + 2, rfl, ⟨w.heap.size, w.heap.size + 1, .slice none 0 0, fun _ => none, fun _ => none, ?_⟩, below_alloc (below_alloc (below_alloc (Below.refl _ w) _) _) _⟩
  exact ⟨H.out.2.2, H.out.1, H.out.2.1, Kd.R_nil _ _ _ _ _, (fun q v hq => by cases hq), (fun k hk => by simp [sh0, keysK] at hk), (fun q v hq => by cases hq), (fun r hr => by simp [sh0] at hr), by omega, by omega, by omega, by omega, sh0_ok⟩
end Go.Proofs.YtaldfbmjmpkmmaaGreat.PL
namespace Go.Proofs.YtaldfbmjmpkmmaaGreat.PL
open Go.RowKit Go.Proofs.YtaldfbmjmpkmmaaGreatW.PrintWords Go.Proofs.YtaldfbmjmpkmmaaGreatW.PrintLast Go.Proofs.YtaldfbmjmpkmmaaGreatW.PrintMore Go.Shelf Go.Maps Go.WideMaps Go.Proofs.YtaldfbmjmpkmmaaGreat.Mk
set_option linter.unusedVariables false
set_option linter.unusedSimpArgs false
set_option linter.unusedSectionVars false
section
variable {α : Type} {d : Kd α} {e base : Nat} {ok : Nat → Prop} {w w1 : World} {v : Value} {xs : List α}
/-- A row of one's own stays where its blocks do. -/
theorem R_keep (h : d.R e w base ok v xs) (hs : ∀ g, ok g → ∀ q, q ∈ e :: d.E → ∀ cells, w.heap[g]? = some (.cells cells q (0, 0)) → w1.heap[g]? = w.heap[g]?) : d.R e w1 base ok v xs :=
  Kd.R_mono (Kd.R_move (Kd.R_bound h) (fun k hk => by
    obtain ⟨h1, _, _, q, hq, cells, hc⟩ := hk
    exact hs k h1 q hq cells hc)) (fun _ hk => hk.1)
theorem M_keep {x : α} {cs : List Value} (h : d.M w base ok x cs) (hs : ∀ g, ok g → ∀ q, q ∈ d.E → ∀ cells, w.heap[g]? = some (.cells cells q (0, 0)) → w1.heap[g]? = w.heap[g]?) : d.M w1 base ok x cs :=
  d.M_mono (fun _ hk => hk.1) (d.M_move (fun k hk => by
    obtain ⟨h1, _, _, q, hq, cells, hc⟩ := hk
    exact hs k h1 q hq cells hc) (d.M_bound h))
theorem R_map {b : Nat} (h : d.R e w base ok v xs) (hg : w.grownBy w1 (some b)) (hb : ∀ cells q, w.heap[b]? ≠ some (.cells cells q (0, 0))) : d.R e w1 base ok v xs :=
  R_keep h (fun g _ q _ cells hc => hg.block g (blk_lt hc) (fun e => hb cells q (by injection e with e; rw [← e]; exact hc)))
theorem M_map {b : Nat} {x : α} {cs : List Value} (h : d.M w base ok x cs) (hg : w.grownBy w1 (some b)) (hb : ∀ cells q, w.heap[b]? ≠ some (.cells cells q (0, 0))) : d.M w1 base ok x cs :=
  M_keep h (fun g _ q _ cells hc => hg.block g (blk_lt hc) (fun e => hb cells q (by injection e with e; rw [← e]; exact hc)))
/-- What a call has made: its blocks are ok where all new ones are. -/
theorem M_new {x : α} {cs : List Value} {n : Nat} (h : d.M w n (fun _ => True) x cs) (hok : ∀ g, n ≤ g → ok g) : d.M w 0 ok x cs :=
  d.M_lower (Nat.zero_le _) (d.M_mono (fun k hk => hok k hk.2.1) (d.M_bound h))
theorem R_new {n : Nat} (h : d.R e w n (fun _ => True) v xs) (hok : ∀ g, n ≤ g → ok g) : d.R e w 0 ok v xs :=
  Kd.R_lower (Kd.R_mono (Kd.R_bound h) (fun k hk => hok k hk.2.1)) (Nat.zero_le _)
end
section
variable {ok : Nat → Prop} {w w' w1 : World} {b N : Nat} {s : Sh} {bk bp : Nat} {ve : Value} {fk fp : Lit → Option Value}
theorem blk_map {bq : Nat} {cells : Array Value} {t : Nat} {g : Nat} (hb : w.heap[g]? = some (.cells cells t (0, 0))) (hg : w.grownBy w' (some bq)) (hn : ∀ cells t, w.heap[bq]? ≠ some (.cells cells t (0, 0))) : w'.heap[g]? = some (.cells cells t (0, 0)) :=
  (hg.block g (blk_lt hb) (fun e => hn cells t (by injection e with e; rw [← e]; exact hb))).trans hb
theorem Parts.mono (h : Parts w ok b N s bk bp ve fk fp) {M : Nat} (hM : N ≤ M) : Parts w ok b M s bk bp ve fk fp := ⟨h.box, h.keys.mono hM, h.preps.mono hM, h.ends, h.kf, h.kt, h.pf, h.pt, h.okb, h.okk, h.okp, h.ne, h.good⟩
theorem ShAt.mono (h : ShAt w ok b N s) {M : Nat} (hM : N ≤ M) : ShAt w ok b M s := by
  obtain ⟨bk, bp, ve, fk, fp, hp⟩ := h
  exact ⟨bk, bp, ve, fk, fp, hp.mono hM⟩
theorem Parts.prep_put (h : Parts w ok b N s bk bp ve fk fp) (hg : w.grownBy w' (some bp)) {r : Rec} {cs : List Value} (hm : MapL Tryz.prog 3 w' bp (N + 1) (lput fp (ik r.f1) (.agg cs.toArray))) (hM : k26.M w 0 ok r cs) (hn : ∀ x ∈ s.P, x.f1 ≠ r.f1)
    (hs : ShOk { s with P := pput s.P r }) : Parts w' ok b (N + 1) { s with P := pput s.P r } bk bp ve fk (lput fp (ik r.f1) (.agg cs.toArray)) :=
  have hb : ∀ cells q, w.heap[bp]? ≠ some (.cells cells q (0, 0)) := fun cells q => h.preps.not_cells
  ⟨blk_map h.box hg hb, (h.keys.kept hg (fun e => h.ne (by injection e))).mono (Nat.le_succ _), hm, R_map h.ends hg hb, fun q v hq => by
    obtain ⟨k, h1, h2, h3⟩ := h.kf q v hq
    exact ⟨k, h1, h2, R_map h3 hg hb⟩, h.kt, fun q v hq => by
    unfold lput at hq
    split at hq
    · rename_i hq2
      obtain rfl := Option.some.inj hq
      exact ⟨r, (pput_mem r r s.P).2 (.inl rfl), WideAt.sameKey_eq hq2, cs, rfl, M_map hM hg hb⟩
    · obtain ⟨r', h1, h2, cs', h3, h4⟩ := h.pf q v hq
      exact ⟨r', (pput_mem r r' s.P).2 (.inr h1), h2, cs', h3, M_map h4 hg hb⟩, fun x hx => by
    unfold lput
    split
    · rfl
    · rename_i hq
      rcases (pput_mem r x s.P).1 hx with rfl | hx
      · exact absurd (by rw [sameKey_ik]; exact decide_eq_true rfl) hq
      · exact h.pt x hx, h.okb, h.okk, h.okp, h.ne, hs⟩
end
set_option maxRecDepth 100000 in
theorem prep1_walk {ok : Nat → Prop} {b N : Nat} {s : Sh} (W : World) (bx : Nat) (hx : W.cell? ⟨bx, 0, none⟩ = some (.pointer (some ⟨b, 0, none⟩))) (h : ShAt W ok b N s) (x : ByteArray) :
    Calls Tryz.prog 74 (#[.string x] ++ #[.pointer (some ⟨bx, 0, none⟩)]) W fun e W' => e = .returned (.bool (heldV s (kb x) false)) ∧ Below W.heap.size W W' := by
  show Calls Tryz.prog 74 #[.string x, .pointer (some ⟨bx, 0, none⟩)] W _
  have HH := Aside0.mk (held_walk h x false)
  clear h
  generalize heldV s (kb x) false = q at *
  go_enter Tryz.func74, Tryz.ntmps74
  go_wp2_with fail
  refine HH.out.mono ?_
  rintro e w1 ⟨rfl, hb⟩
  have HB := Aside0.mk hb
  clear hb
  go_wp2_with fail
  go_ret
  exact ⟨rfl, HB.out⟩
set_option maxRecDepth 100000 in
theorem prep2_walk {ok : Nat → Prop} {b N : Nat} {s : Sh} (W : World) (bx : Nat) (hx : W.cell? ⟨bx, 0, none⟩ = some (.pointer (some ⟨b, 0, none⟩))) (h : ShAt W ok b N s) (x : Wr) :
    Calls Tryz.prog 76 (#[.agg #[.string x.f0, .string x.f1, .bool x.f2]] ++ #[.pointer (some ⟨bx, 0, none⟩)]) W fun e W' => e = .returned (.bool (heldV s (kb x.f0) true)) ∧ Below W.heap.size W W' := by
  show Calls Tryz.prog 76 #[.agg #[.string x.f0, .string x.f1, .bool x.f2], .pointer (some ⟨bx, 0, none⟩)] W _
  obtain ⟨x0, x1, x2⟩ := x
  simp only
  have hb0 := below_alloc (Below.refl _ W) (.cells #[.string x0, .string x1, .bool x2] 57)
  have hx2 := pw_cell_below hb0 hx
  have HH := Aside0.mk (held_walk (h.below hb0) x0 true)
  have HB0 := Aside0.mk hb0
  clear h hb0 hx
  generalize heldV s (kb x0) true = q at *
  go_enter Tryz.func76, Tryz.ntmps76
  go_wp2_with fail
  refine HH.out.mono ?_
  rintro e w1 ⟨rfl, hb⟩
  have HB : Aside0 (Below W.heap.size W w1) := ⟨HB0.out.trans (hb.mono HB0.out.size)⟩
  clear hb
  go_wp2_with fail
  go_ret
  exact ⟨rfl, HB.out⟩
set_option maxRecDepth 100000 in
set_option maxHeartbeats 8000000 in
theorem prepare_walk {w : World} {ok : Nat → Prop} {b N : Nat} {s : Sh} (h : ShAt w ok b N s) (hok : ∀ g, w.heap.size ≤ g → ok g) (hN : N < maxLen) (r : Rec) (cs : List Value) (hK : k26.K w r cs) (h0 : r.f0 = 1) (hr : okR r = 0) :
    Calls Tryz.prog 33 #[.pointer (some ⟨b, 0, none⟩), .agg cs.toArray] w fun e w' => e = .returned (.int .i64 (prepV s r).1) ∧ ShAt w' ok b (N + 1) (prepV s r).2 ∧ Chg ok w w' := by
  obtain ⟨A7, c7, A8, c8, rfl, l7, g7, l8, g8⟩ := k26_open hK
  have hts := (okR_all hr).1
  have HLS := Aside0.mk (prep_lists h0 hr).1
  have HRO := Aside0.mk (And.intro h0 hr)
  clear h0 hr
  obtain ⟨w2, hw2⟩ : ∃ w2, w2 = (w.alloc (.cells #[.pointer (some ⟨b, 0, none⟩)] 27)).alloc (.cells #[.int .i64 r.f0, .int .i64 r.f1, .int .i64 r.f2, .int .i64 r.f3, .string r.f4, .string r.f5, .bool r.f6, .slice A7 r.f7.length c7, .slice A8 r.f8.length c8] 26) := ⟨_, rfl⟩
  have hB : Below w.heap.size w w2 := by rw [hw2]; exact below_alloc (below_alloc (Below.refl _ w) _) _
  have hx1 : w2.heap[w.heap.size]? = some (.cells #[.pointer (some ⟨b, 0, none⟩)] 27 (0, 0)) := by rw [hw2]; exact blk_alloc (blk_new _ _) _
  have hx2 : w2.heap[w.heap.size + 1]? = some (.cells #[.int .i64 r.f0, .int .i64 r.f1, .int .i64 r.f2, .int .i64 r.f3, .string r.f4, .string r.f5, .bool r.f6, .slice A7 r.f7.length c7, .slice A8 r.f8.length c8] 26 (0, 0)) := by
    rw [hw2]
    have := blk_new (w.alloc (.cells #[.pointer (some ⟨b, 0, none⟩)] 27)) (.cells #[.int .i64 r.f0, .int .i64 r.f1, .int .i64 r.f2, .int .i64 r.f3, .string r.f4, .string r.f5, .bool r.f6, .slice A7 r.f7.length c7, .slice A8 r.f8.length c8] 26)
    simpa using this
  have HW := Aside0.mk hw2
  have HB2 := Aside0.mk hB
  have HX1 := Aside0.mk hx1
  have HX2 := Aside0.mk hx2
  have HS2 := Aside0.mk (h.below hB)
  have G7 := Aside0.mk (Kd.C_below g7 hB)
  have G8 := Aside0.mk (Kd.C_below g8 hB)
  have HK2 := Aside0.mk (k26.K_below hB hK)
  have HST := Aside0.mk (state_walk (h.below hB) r.f1 (by omega))
  have HNN := Aside0.mk hN
  have HOK := Aside0.mk hok
  have HTS := Aside0.mk hts
  clear hw2 hB hx1 hx2 h g7 g8 l7 l8 hK hok hts
  have x0 := blk_cell HX1.out 0
  have y1 := blk_cell HX2.out 1
  have HPV : Aside0 (prepV s r = if 0 < (stateV s r.f1).1 then (6, s) else if (r.f7.any (fun k => heldV s (kb k) false) || r.f8.any (fun w => heldV s (kb w.f0) true)) = true then (180, s) else if 1024 ≤ s.P.length then (2, s) else (0, { s with P := pput s.P r })) := ⟨rfl⟩
  go_enter Tryz.func33, Tryz.ntmps33
  go_wp2_with fail
  rw [← HW.out]
  refine HST.out.mono ?_
  rintro e w3 ⟨rfl, hb3⟩
  have HB3 : Aside0 (Below w.heap.size w w3) := ⟨HB2.out.trans (hb3.mono HB2.out.size)⟩
  have HS3 := Aside0.mk (HS2.out.below hb3)
  have X3 := Aside0.mk (blk_below HX1.out hb3)
  have Y3 := Aside0.mk (blk_below HX2.out hb3)
  have HK3 := Aside0.mk (k26.K_below hb3 HK2.out)
  have C7 := Aside0.mk (Kd.C_below G7.out hb3)
  have C8 := Aside0.mk (Kd.C_below G8.out hb3)
  clear hb3 x0 y1 HST HS2 HX1 HX2 HK2 G7 G8
  have x0 := blk_cell X3.out 0
  have y7 := blk_cell Y3.out 7
  have y8 := blk_cell Y3.out 8
  have HZ := Aside0.mk (fun hz => state_zero (s := s) (t := r.f1) hz)
  by_cases hz : 0 < (stateV s r.f1).1
  · rw [if_pos hz] at HPV
    have hzd : decide ((stateV s r.f1).1 > 0) = true := decide_eq_true hz
    clear HZ
    generalize (stateV s r.f1).1 = st1 at *
    generalize (stateV s r.f1).2 = st2 at *
    go_wp2_with fail
    go_ret
    exact ⟨by rw [HPV.out]; rfl, by rw [HPV.out]; exact HS3.out.mono (Nat.le_succ _), Chg.of_below HB3.out⟩
  · rw [if_neg hz] at HPV
    have hzd : decide ((stateV s r.f1).1 > 0) = false := decide_eq_false hz
    have HZ1 := Aside0.mk (HZ.out hz)
    have HC1 := Aside0.mk (contains_strP w3 A7 c7 r.f7 (.pointer (some ⟨w.heap.size, 0, none⟩)) (fun k => heldV s (kb k) false) C7.out (contains_enough fun W hW x => prep1_walk W _ (by rw [blk_cell (blk_below X3.out hW) 0]; rfl) (HS3.out.below hW) x))
    clear HZ hz C7
    generalize (stateV s r.f1).1 = st1 at *
    generalize (stateV s r.f1).2 = st2 at *
    go_wp2_with fail
    refine HC1.out.mono ?_
    rintro e w4 ⟨rfl, hb4⟩
    have HB4 : Aside0 (Below w.heap.size w w4) := ⟨HB3.out.trans (hb4.mono HB3.out.size)⟩
    have HS4 := Aside0.mk (HS3.out.below hb4)
    have X4 := Aside0.mk (blk_below X3.out hb4)
    have Y4 := Aside0.mk (blk_below Y3.out hb4)
    have HK4 := Aside0.mk (k26.K_below hb4 HK3.out)
    have D8 := Aside0.mk (Kd.C_below C8.out hb4)
    clear hb4 x0 y7 y8 HC1 HS3 X3 Y3 HK3 C8
    have x0 := blk_cell X4.out 0
    have y1 := blk_cell Y4.out 1
    have y8 := blk_cell Y4.out 8
    have HC2 := Aside0.mk (contains_wrP w4 A8 c8 r.f8 (.pointer (some ⟨w.heap.size, 0, none⟩)) (fun x => heldV s (kb x.f0) true) D8.out (contains_enough fun W hW x => prep2_walk W _ (by rw [blk_cell (blk_below X4.out hW) 0]; rfl) (HS4.out.below hW) x))
    clear D8
    generalize (r.f7.any fun k => heldV s (kb k) false) = q1 at *
    generalize (r.f8.any fun x => heldV s (kb x.f0) true) = q2 at *
    cases q1 with
    | true =>
      have HPV2 : Aside0 (prepV s r = (180, s)) := ⟨by rw [HPV.out]; rfl⟩
      go_wp2_with fail
      go_ret
      exact ⟨by rw [HPV2.out]; rfl, by rw [HPV2.out]; exact HS4.out.mono (Nat.le_succ _), Chg.of_below HB4.out⟩
    | false =>
      go_wp2_with fail
      refine HC2.out.mono ?_
      rintro e w5 ⟨rfl, hb5⟩
      have HB5 : Aside0 (Below w.heap.size w w5) := ⟨HB4.out.trans (hb5.mono HB4.out.size)⟩
      have HS5 := Aside0.mk (HS4.out.below hb5)
      have X5 := Aside0.mk (blk_below X4.out hb5)
      have Y5 := Aside0.mk (blk_below Y4.out hb5)
      have HK5 := Aside0.mk (k26.K_below hb5 HK4.out)
      clear hb5 x0 y1 y8 HC2 HS4 X4 Y4 HK4
      have x0 := blk_cell X5.out 0
      cases q2 with
      | true =>
        have HPV2 : Aside0 (prepV s r = (180, s)) := ⟨by rw [HPV.out]; rfl⟩
        go_wp2_with fail
        go_ret
        exact ⟨by rw [HPV2.out]; rfl, by rw [HPV2.out]; exact HS5.out.mono (Nat.le_succ _), Chg.of_below HB5.out⟩
      | false =>
        rw [if_neg (by simp)] at HPV
        obtain ⟨bk, bp, ve, fk, fp, hp⟩ := HS5.out
        have HP5 := Aside0.mk hp
        obtain ⟨c0, c1, c2, c3⟩ := hp.cells
        have hfew := hp.good.few
        clear hp
        have hpl : (s.P.map (fun r => ik r.f1)).length = s.P.length := List.length_map ..
        have HPL := Aside0.mk hpl
        clear hpl
        have hcd : decide ((s.P.length : Int) ≥ 1024) = decide (1024 ≤ s.P.length) := by rw [Bool.eq_iff_iff, decide_eq_true_iff, decide_eq_true_iff]; omega
        by_cases hfull : 1024 ≤ s.P.length
        · rw [if_pos hfull] at HPV
          have hcd2 : decide ((s.P.length : Int) ≥ 1024) = true := by rw [hcd]; exact decide_eq_true hfull
          clear hcd
          go_wp2_with (at_len; refine MapL.len HP5.out.preps keyedI rfl _ 66 26 rfl Tryz.underlying66 rfl (s.P.map (fun r => ik r.f1)) HP5.out.preps_nodup HP5.out.preps_iff ?_; rw [HPL.out])
          go_ret
          exact ⟨by rw [HPV.out]; rfl, by rw [HPV.out]; exact HS5.out.mono (Nat.le_succ _), Chg.of_below HB5.out⟩
        · rw [if_neg hfull] at HPV
          have hcd2 : decide ((s.P.length : Int) ≥ 1024) = false := by rw [hcd]; exact decide_eq_false hfull
          clear hcd
          have HSO : Aside0 (ShOk { s with P := pput s.P r }) := ⟨by
            have := prepV_ok HP5.out.good HRO.out.1 HRO.out.2
            rw [HPV.out] at this
            exact this⟩
          have y1 := blk_cell Y5.out 1
          have y0 := blk_cell Y5.out 0
          have y2 := blk_cell Y5.out 2
          have y3 := blk_cell Y5.out 3
          have y4 := blk_cell Y5.out 4
          have y5 := blk_cell Y5.out 5
          have y6 := blk_cell Y5.out 6
          have y7 := blk_cell Y5.out 7
          have y8 := blk_cell Y5.out 8
          have HU := HTS.out
          have HCP : Aside0 (∀ W, Below w5.heap.size w5 W → Calls Tryz.prog 31 #[.agg #[.int .i64 r.f0, .int .i64 r.f1, .int .i64 r.f2, .int .i64 r.f3, .string r.f4, .string r.f5, .bool r.f6, .slice A7 r.f7.length c7, .slice A8 r.f8.length c8]] W fun e w' => ∃ cs', e = .returned (.agg cs'.toArray) ∧ k26.M w' W.heap.size (fun _ => True) r cs' ∧ Below W.heap.size W w') := ⟨fun W hW =>
            copied_walk W r [.int .i64 r.f0, .int .i64 r.f1, .int .i64 r.f2, .int .i64 r.f3, .string r.f4, .string r.f5, .bool r.f6, .slice A7 r.f7.length c7, .slice A8 r.f8.length c8] (k26.K_below hW HK5.out) (by have := HLS.out.few7; omega) (by have := HLS.out.few8; omega)⟩
          go_wp2_with (at_len; refine MapL.len HP5.out.preps keyedI rfl _ 66 26 rfl Tryz.underlying66 rfl (s.P.map (fun r => ik r.f1)) HP5.out.preps_nodup HP5.out.preps_iff ?_; rw [HPL.out])
          clear c0 c2 c3 hcd2
          go_region_law (first
            | (go_simp; go_at_call 31; refine (HCP.out _ (by repeat (first | exact Below.refl _ _ | apply below_drew1))).mono ?_; rintro e w6 ⟨cs', rfl, hM, hb6⟩; have HM := Aside0.mk hM; have HB6 := Aside0.mk hb6; have HP6 := Aside0.mk ((HP5.out.below (below_drew1 (Below.refl _ _))).below hb6); obtain ⟨w7, hrun, hm7, hg7⟩ := MapL.put_ HP6.out.preps keyedI Tryz.underlying66 HNN.out (key_ik (t := r.f1) (by have := HTS.out; omega)) (.agg cs'.toArray); have HM7 := Aside0.mk hm7; have HG7 := Aside0.mk hg7; clear hM hm7 hg7 c1 x0 y0 y1 y2 y3 y4 y5 y6 y7 y8; obtain ⟨-, c1, -, -⟩ := HP6.out.cells; have y1 := blk_cell (blk_below (blk_drew Y5.out) hb6) 1; have x0 := blk_cell (blk_below (blk_drew X5.out) hb6) 0; clear hb6))
          all_goals (try go_wp2_with fail)
          all_goals go_ret
          all_goals
            have B6 : Aside0 (Below w.heap.size w w6) := ⟨(below_drew1 HB5.out).trans (HB6.out.mono (below_drew1 HB5.out).size)⟩
            exact ⟨by rw [HPV.out]; rfl, by rw [HPV.out]; exact ⟨bk, bp, ve, fk, _, HP6.out.prep_put HG7.out HM7.out (M_new HM.out (fun g hg => HOK.out g (Nat.le_trans (below_drew1 HB5.out).size hg))) HZ1.out.1 HSO.out⟩, (Chg.of_below B6.out).trans (Chg.of_grown HG7.out HP6.out.okp)⟩
end Go.Proofs.YtaldfbmjmpkmmaaGreat.PL
namespace Go.Proofs.YtaldfbmjmpkmmaaGreat.PL
open Go.RowKit Go.Proofs.YtaldfbmjmpkmmaaGreatW.PrintWords Go.Proofs.YtaldfbmjmpkmmaaGreatW.PrintLast Go.Proofs.YtaldfbmjmpkmmaaGreatW.PrintMore Go.Shelf Go.Maps Go.WideMaps Go.Proofs.YtaldfbmjmpkmmaaGreat.Mk
set_option linter.unusedVariables false
set_option linter.unusedSimpArgs false
set_option linter.unusedSectionVars false
set_option maxRecDepth 100000 in
set_option maxHeartbeats 4000000 in
theorem room1_walk {ok : Nat → Prop} {b N : Nat} {s : Sh} (W : World) (bt bx : Nat) (ts : Int) (ht : W.cell? ⟨bt, 0, none⟩ = some (.int .i64 ts)) (hx : W.cell? ⟨bx, 0, none⟩ = some (.pointer (some ⟨b, 0, none⟩))) (h : ShAt W ok b N s) (x : Wr) (hk : x.f0.size ≤ maxLen) :
    Calls Tryz.prog 80 (#[.agg #[.string x.f0, .string x.f1, .bool x.f2]] ++ #[.pointer (some ⟨bt, 0, none⟩), .pointer (some ⟨bx, 0, none⟩)]) W fun e W' => e = .returned (.bool (decide (ts ≤ lastV (look s.K (wkey x))))) ∧ Below W.heap.size W W' := by
  obtain ⟨x0, x1, x2⟩ := x
  show Calls Tryz.prog 80 #[.agg #[.string x0, .string x1, .bool x2], .pointer (some ⟨bt, 0, none⟩), .pointer (some ⟨bx, 0, none⟩)] W (fun e W' => e = .returned (.bool (decide (ts ≤ lastV (look s.K (kb x0))))) ∧ Below W.heap.size W W')
  simp only at hk
  have hb0 := below_alloc (Below.refl _ W) (.cells #[.string x0, .string x1, .bool x2] 57)
  have hbx := blk_new W (.cells #[.string x0, .string x1, .bool x2] 57)
  obtain ⟨W1, hW1⟩ : ∃ W1, W1 = W.alloc (.cells #[.string x0, .string x1, .bool x2] 57) := ⟨_, rfl⟩
  rw [← hW1] at hb0 hbx
  have ht2 := pw_cell_below hb0 ht
  have hx2 := pw_cell_below hb0 hx
  have HT := Aside0.mk ht2
  have HX := Aside0.mk hx2
  have HBX := Aside0.mk hbx
  have HH : Aside0 (∀ W2, Below W1.heap.size W1 W2 → Calls Tryz.prog 58 #[.pointer (some ⟨b, 0, none⟩), .string x0] W2 fun e w' => e = .returned (.int .i64 (lastV (look s.K (kb x0)))) ∧ Below W2.heap.size W2 w') := ⟨fun W2 h2 => lastS_walk ((h.below hb0).below h2) x0 hk⟩
  have HB0 := Aside0.mk hb0
  have HW1 := Aside0.mk hW1
  clear h hb0 hx ht hbx hk hW1
  generalize lastV (look s.K (kb x0)) = q at *
  go_enter Tryz.func80, Tryz.ntmps80
  go_wp2_with fail
  rw [← HW1.out]
  have z0 := blk_cell HBX.out 0
  go_region_law (go_simp; go_at_call 58; refine (HH.out _ (by repeat (first | exact Below.refl _ _ | apply below_drew1))).mono ?_; rintro e w3 ⟨rfl, hb3⟩; have HB3 := Aside0.mk hb3; have ht3 := pw_cell_below hb3 (pw_cell_below (below_drew1 (Below.refl _ _)) HT.out); have hx3 := pw_cell_below hb3 (pw_cell_below (below_drew1 (Below.refl _ _)) HX.out); clear hb3)
  all_goals (try go_wp2_with fail)
  all_goals go_ret
  all_goals
    have B1 : Below W.heap.size W W1.drew := below_drew1 HB0.out
    exact ⟨rfl, B1.trans (HB3.out.mono B1.size)⟩
set_option maxRecDepth 100000 in
set_option maxHeartbeats 8000000 in
theorem room_walk {w : World} {ok : Nat → Prop} {b N : Nat} {s : Sh} (h : ShAt w ok b N s) (A : Option Addr) (c : Nat) (l : List Wr) (hr : Kd.C k57 w A l.length l) (hl : l.length ≤ 1024) (hk : ∀ x ∈ l, x.f0.size ≤ maxLen) (ts : Int) :
    Calls Tryz.prog 36 #[.pointer (some ⟨b, 0, none⟩), .slice A l.length c, .int .i64 ts] w fun e w' => e = .returned (.int .i64 (roomV s l ts)) ∧ Below w.heap.size w w' := by
  obtain ⟨w2, hw2⟩ : ∃ w2, w2 = (w.alloc (.cells #[.pointer (some ⟨b, 0, none⟩)] 27)).alloc (.cells #[.int .i64 ts] 3) := ⟨_, rfl⟩
  have hB : Below w.heap.size w w2 := by rw [hw2]; exact below_alloc (below_alloc (Below.refl _ w) _) _
  have hx1 : w2.heap[w.heap.size]? = some (.cells #[.pointer (some ⟨b, 0, none⟩)] 27 (0, 0)) := by rw [hw2]; exact blk_alloc (blk_new _ _) _
  have hx2 : w2.heap[w.heap.size + 1]? = some (.cells #[.int .i64 ts] 3 (0, 0)) := by
    rw [hw2]
    have := blk_new (w.alloc (.cells #[.pointer (some ⟨b, 0, none⟩)] 27)) (.cells #[.int .i64 ts] 3)
    simpa using this
  have HW := Aside0.mk hw2
  have HB2 := Aside0.mk hB
  have HX1 := Aside0.mk hx1
  have HX2 := Aside0.mk hx2
  have HS2 := Aside0.mk (h.below hB)
  have HR := Aside0.mk (Kd.C_below hr hB)
  have HK := Aside0.mk hk
  have HC := Aside0.mk (contains_wrR w2 A c l (.pointer (some ⟨w.heap.size + 1, 0, none⟩)) (.pointer (some ⟨w.heap.size, 0, none⟩)) (fun x => decide (ts ≤ lastV (look s.K (wkey x)))) HR.out
    (fun W hW x hx => room1_walk W _ _ ts (by rw [blk_cell (blk_below HX2.out hW) 0]; rfl) (by rw [blk_cell (blk_below HX1.out hW) 0]; rfl) (HS2.out.below hW) x (HK.out x hx)))
  have HV : Aside0 (roomV s l ts = if (l.any fun w => decide (ts ≤ lastV (look s.K (wkey w)))) = true then 110 else roomN s.K s.K.length l) := ⟨rfl⟩
  clear hw2 hB hx1 hx2 h hr hk
  generalize (l.any fun w => decide (ts ≤ lastV (look s.K (wkey w)))) = q at *
  go_enter Tryz.func36, Tryz.ntmps36
  go_wp2_with fail
  rw [← HW.out]
  refine HC.out.mono ?_
  rintro e w3 ⟨rfl, hb3⟩
  have HB3 : Aside0 (Below w.heap.size w w3) := ⟨HB2.out.trans (hb3.mono HB2.out.size)⟩
  have HS3 := Aside0.mk (HS2.out.below hb3)
  have X3 := Aside0.mk (blk_below HX1.out hb3)
  have HR3 := Aside0.mk (Kd.C_below HR.out hb3)
  clear hb3 HC HS2 HX1 HX2 HR
  cases q with
  | true =>
    have HV2 : Aside0 (roomV s l ts = 110) := ⟨by rw [HV.out]; rfl⟩
    go_wp2_with fail
    go_ret
    exact ⟨by rw [HV2.out]; rfl, HB3.out⟩
  | false =>
    have HV2 : Aside0 (roomV s l ts = roomN s.K s.K.length l) := ⟨by rw [HV.out]; rfl⟩
    clear HV
    have x0 := blk_cell X3.out 0
    obtain ⟨bk, bp, ve, fk, fp, hp⟩ := HS3.out
    have HP := Aside0.mk hp
    obtain ⟨c0, c1, c2, c3⟩ := hp.cells
    have hfew := hp.good.keys.few
    have HPL : Aside0 (((keysK s.K).map sk).length = s.K.length) := ⟨by simp [keysK]⟩
    clear hp HS3
    go_wp2_with (at_len; refine MapL.len HP.out.keys keyedS rfl _ 65 74 rfl Tryz.underlying65 rfl ((keysK s.K).map sk) HP.out.keys_nodup HP.out.keys_iff ?_; rw [HPL.out])
    clear c0 c1 c2 c3 x0
    go_loopw [7, 22] (fun v7 i wr => ∃ k n : Nat, k ≤ l.length ∧ n ≤ s.K.length + k ∧ i = .int .i64 (k : Int) ∧ v7 = .int .i64 (n : Int) ∧ Aside0 (roomN s.K s.K.length l = roomN s.K n (l.drop k)) ∧ Aside0 (Below w3.heap.size w3 wr)) (fun _ i _ => l.length - (intOf i).toNat)
    case atStart => exact ⟨0, s.K.length, Nat.zero_le _, Nat.le_refl _, rfl, rfl, ⟨rfl⟩, ⟨Below.refl _ _⟩⟩
    case round =>
      obtain ⟨k, n, hk, hn, rfl, rfl, HF, HB⟩ := hrel
      have HBW : Aside0 (Below w.heap.size w wr) := ⟨HB3.out.trans (HB.out.mono HB3.out.size)⟩
      by_cases hlt : k < l.length
      · obtain ⟨ad, cs, rfl, hlen, hK, hc0⟩ := Kd.C_get (Kd.C_below HR3.out HB.out) (⟨⟨#[]⟩, ⟨#[]⟩, false⟩ : Wr) (k : Int) (by omega) (by omega)
        rw [Int.toNat_natCast] at hK hc0
        have hc : ∀ j u, cs[j]? = some u → wr.cell? (ad.add (k * 3 + j)) = some u := hc0
        obtain rfl := k57_open hK
        have z0 : wr.cell? (ad.add (k * 3)) = some (.string (l.getD k (⟨⟨#[]⟩, ⟨#[]⟩, false⟩ : Wr)).f0) := hc 0 _ rfl
        have z1 : wr.cell? ⟨(ad.add (k * 3)).block, (ad.add (k * 3)).off + 1, none⟩ = some (.string (l.getD k (⟨⟨#[]⟩, ⟨#[]⟩, false⟩ : Wr)).f1) := by rw [← add_field _ _ 1 (by omega)]; exact hc 1 _ rfl
        have z2 : wr.cell? ⟨(ad.add (k * 3)).block, (ad.add (k * 3)).off + 2, none⟩ = some (.bool (l.getD k (⟨⟨#[]⟩, ⟨#[]⟩, false⟩ : Wr)).f2) := by rw [← add_field _ _ 2 (by omega)]; exact hc 2 _ rfl
        have hmem : l.getD k (⟨⟨#[]⟩, ⟨#[]⟩, false⟩ : Wr) ∈ l := by simp [List.getElem?_eq_getElem hlt]
        have hdrop : l.drop k = l.getD k (⟨⟨#[]⟩, ⟨#[]⟩, false⟩ : Wr) :: l.drop (k + 1) := by
          rw [List.drop_eq_getElem_cons hlt]; simp [List.getElem?_eq_getElem hlt]
        have HF2 := HF.out
        rw [hdrop] at HF2
        generalize l.getD k (⟨⟨#[]⟩, ⟨#[]⟩, false⟩ : Wr) = x at *
        have hks := HK.out x hmem
        obtain ⟨A2, ca, hv, hle, hC⟩ := HP.out.chain (wkey x)
        have hsm := HP.out.chain_some (wkey x)
        obtain ⟨wy, hwy⟩ : ∃ wy, wy = wr.alloc (.cells #[.string x.f0, .string x.f1, .bool x.f2] 57) := ⟨_, rfl⟩
        have hby : Below w3.heap.size w3 wy := by rw [hwy]; exact below_alloc HB.out _
        have hyx : wy.heap[wr.heap.size]? = some (.cells #[.string x.f0, .string x.f1, .bool x.f2] 57 (0, 0)) := by rw [hwy]; exact blk_new _ _
        have hkm := key_sk hks
        have HM : Aside0 (∀ W, Below w3.heap.size w3 W → Sem.run Tryz.prog (Instr.lookup 65 (.map (some bk)) (.string x.f0) true) W = .ok (.tuple #[.slice A2 (look s.K (wkey x)).length ca, .bool (!(look s.K (wkey x)).isEmpty)]) W ∧ Sem.run Tryz.prog (Instr.lookup 65 (.map (some bk)) (.string x.f0) false) W = .ok (.slice A2 (look s.K (wkey x)).length ca) W) := ⟨fun W hW => by
          have h1 := MapL.get_ (MapL.below HP.out.keys hW) keyedS Tryz.underlying65 (zeroC W) hkm
          have e1 : fk (sk (kb x.f0)) = fk (sk (wkey x)) := rfl
          rw [e1, hv, hsm] at h1
          exact ⟨h1.2, h1.1⟩⟩
        have hRN : roomN s.K s.K.length l = if 1024 ≤ (look s.K (wkey x)).length ∨ 1024 < cntK s.K n x then 2 else roomN s.K (cntK s.K n x) (l.drop (k + 1)) := HF2
        have hcn : cntK s.K n x = if (look s.K (wkey x)).isEmpty = true then n + 1 else n := rfl
        have hlen0 : (look s.K (wkey x)).isEmpty = true → (look s.K (wkey x)).length = 0 := fun h => by rw [List.isEmpty_iff.1 h]; rfl
        have hlen1 := (HP.out.good.keys.look (wkey x)).len
        have HRN := Aside0.mk hRN
        have HCN := Aside0.mk hcn
        have HL0 := Aside0.mk hlen0
        have hk1 := HM.out wy.drew (below_drew1 hby)
        have hk2 := HM.out wy.drew.drew (below_drew1 (below_drew1 hby))
        obtain ⟨hk1, -⟩ := hk1
        obtain ⟨-, hk2⟩ := hk2
        obtain ⟨c0, c1, c2, c3⟩ := (HP.out.below hby).cells
        have x0 := blk_cell (blk_below X3.out hby) 0
        have y0 := blk_cell hyx 0
        have HWY := Aside0.mk hwy
        have HBY := Aside0.mk hby
        clear hwy hby hyx hkm HM hRN hcn hlen0 hv hsm hC hle hks hmem hdrop HF2 HF hK hc0 hc hlen c1 c2 c3
        generalize cntK s.K n x = cn at *
        generalize (look s.K (wkey x)).length = ln at *
        generalize (look s.K (wkey x)).isEmpty = em at *
        have hgk : decide ((ln : Int) ≥ 1024) = decide (1024 ≤ ln) := by rw [Bool.eq_iff_iff, decide_eq_true_iff, decide_eq_true_iff]; omega
        cases em with
        | true =>
          have hl0 := HL0.out rfl
          subst hl0
          rw [if_pos rfl] at HCN
          have HN1 : Aside0 (roomN s.K s.K.length l = if 1024 < n + 1 then 2 else roomN s.K (n + 1) (l.drop (k + 1))) := ⟨by rw [HRN.out, HCN.out]; simp⟩
          clear HRN HCN HL0 hgk
          have B8 : Aside0 (Below w3.heap.size w3 wy.drew.drew) := ⟨below_drew1 (below_drew1 HBY.out)⟩
          have B9 : Aside0 (Below w.heap.size w wy.drew.drew) := ⟨HB3.out.trans (B8.out.mono HB3.out.size)⟩
          by_cases hn2 : 1024 < n + 1
          · have HN2 : Aside0 (roomV s l ts = 2) := ⟨by rw [HV2.out, HN1.out, if_pos hn2]⟩
            go_wp2_with fail
            rw [← HWY.out]
            go_region
            all_goals (try go_wp2_with fail)
            all_goals go_region
            all_goals (try go_wp2_with fail)
            all_goals go_ret
            all_goals exact ⟨by rw [HN2.out]; rfl, B9.out⟩
          · have HN2 : Aside0 (roomN s.K s.K.length l = roomN s.K (n + 1) (l.drop (k + 1))) := ⟨by rw [HN1.out, if_neg hn2]⟩
            go_wp2_with fail
            rw [← HWY.out]
            go_region
            all_goals (try go_wp2_with fail)
            all_goals go_region
            all_goals (try go_wp2_with fail)
            go_roundw
            case rel => exact ⟨k + 1, n + 1, by omega, by omega, by go_num, by first | rfl | go_num, HN2, B8⟩
            case measure => simp [intOf]; omega
        | false =>
          rw [if_neg (by simp)] at HCN
          have HN1 : Aside0 (roomN s.K s.K.length l = if 1024 ≤ ln ∨ 1024 < n then 2 else roomN s.K n (l.drop (k + 1))) := ⟨by rw [HRN.out, HCN.out]⟩
          have B8 : Aside0 (Below w3.heap.size w3 wy.drew.drew) := ⟨below_drew1 (below_drew1 HBY.out)⟩
          have B9 : Aside0 (Below w.heap.size w wy.drew.drew) := ⟨HB3.out.trans (B8.out.mono HB3.out.size)⟩
          clear HRN HCN HL0
          by_cases hln : 1024 ≤ ln
          · have HN2 : Aside0 (roomV s l ts = 2) := ⟨by rw [HV2.out, HN1.out, if_pos (.inl hln)]⟩
            have hgk2 : decide ((ln : Int) ≥ 1024) = true := by rw [hgk]; exact decide_eq_true hln
            clear hgk
            go_wp2_with fail
            rw [← HWY.out]
            go_region
            all_goals (try go_wp2_with fail)
            all_goals go_region
            all_goals (try go_wp2_with fail)
            all_goals go_ret
            all_goals exact ⟨by rw [HN2.out]; rfl, B9.out⟩
          · have hgk2 : decide ((ln : Int) ≥ 1024) = false := by rw [hgk]; exact decide_eq_false hln
            clear hgk
            by_cases hn2 : 1024 < n
            · have HN2 : Aside0 (roomV s l ts = 2) := ⟨by rw [HV2.out, HN1.out, if_pos (.inr hn2)]⟩
              go_wp2_with fail
              rw [← HWY.out]
              go_region
              all_goals (try go_wp2_with fail)
              all_goals go_region
              all_goals (try go_wp2_with fail)
              all_goals go_ret
              all_goals exact ⟨by rw [HN2.out]; rfl, B9.out⟩
            · have HN2 : Aside0 (roomN s.K s.K.length l = roomN s.K n (l.drop (k + 1))) := ⟨by rw [HN1.out, if_neg (by omega)]⟩
              go_wp2_with fail
              rw [← HWY.out]
              go_region
              all_goals (try go_wp2_with fail)
              all_goals go_region
              all_goals (try go_wp2_with fail)
              go_roundw
              case rel => exact ⟨k + 1, n, by omega, by omega, by go_num, by first | rfl | go_num, HN2, B8⟩
              case measure => simp [intOf]; omega
      · obtain rfl : k = l.length := by omega
        have HV3 : Aside0 (roomV s l ts = 0) := ⟨by rw [HV2.out, HF.out, List.drop_of_length_le (Nat.le_refl _)]; rfl⟩
        go_wp2
        go_ret
        exact ⟨by rw [HV3.out]; rfl, HBW.out⟩
end Go.Proofs.YtaldfbmjmpkmmaaGreat.PL
namespace Go.Proofs.YtaldfbmjmpkmmaaGreat.PL
open Go.RowKit Go.Proofs.YtaldfbmjmpkmmaaGreatW.PrintWords Go.Proofs.YtaldfbmjmpkmmaaGreatW.PrintLast Go.Proofs.YtaldfbmjmpkmmaaGreatW.PrintMore Go.Shelf Go.Maps Go.WideMaps Go.Proofs.YtaldfbmjmpkmmaaGreat.Mk
set_option linter.unusedVariables false
set_option linter.unusedSimpArgs false
set_option linter.unusedSectionVars false
section
variable {ok : Nat → Prop} {w w' w1 : World} {b N : Nat} {s : Sh} {bk bp : Nat} {ve : Value} {fk fp : Lit → Option Value}
theorem Parts.put1 (h : Parts w ok b N s bk bp ve fk fp) (hg : w.grownBy w' (some bk)) {x : Wr} {ts : Int} {u : Value} (hm : MapL Tryz.prog 9 w' bk (N + 1) (lput fk (sk (wkey x)) u))
    (hu : Kd.R k43 43 w 0 ok u (look s.K (wkey x) ++ [⟨ts, x.f1, x.f2⟩])) (hk : KOk (put1 ts s.K x)) : Parts w' ok b (N + 1) { s with K := put1 ts s.K x } bk bp ve (lput fk (sk (wkey x)) u) fp :=
  have hb : ∀ cells q, w.heap[bk]? ≠ some (.cells cells q (0, 0)) := fun cells q => h.keys.not_cells
  have hself : ∀ k : Key, (sk k).sameKey (sk k) = true := fun k => by simp [sk, Lit.sameKey]
  ⟨blk_map h.box hg hb, hm, (h.preps.kept hg (fun e => h.ne (by injection e with e; exact e.symm))).mono (Nat.le_succ _), R_map h.ends hg hb, fun q v hq => by
    unfold lput at hq
    split at hq
    · rename_i hq2
      obtain rfl := Option.some.inj hq
      refine ⟨wkey x, WideAt.sameKey_eq hq2, (kput_keys _ _ _ _).2 (.inl rfl), ?_⟩
      show Kd.R k43 43 w' 0 ok u (look (kput s.K (wkey x) _) (wkey x))
      rw [look_kput, if_pos rfl]
      exact R_map hu hg hb
    · rename_i hq2
      obtain ⟨k, h1, h2, h3⟩ := h.kf q v hq
      refine ⟨k, h1, (kput_keys _ _ _ _).2 (.inr h2), ?_⟩
      show Kd.R k43 43 w' 0 ok v (look (kput s.K (wkey x) _) k)
      rw [look_kput, if_neg (fun e => hq2 (by rw [h1, ← e]; exact hself _))]
      exact R_map h3 hg hb, fun k hk' => by
    unfold lput
    split
    · rfl
    · rename_i hq2
      rcases (kput_keys _ _ _ _).1 hk' with rfl | hk'
      · exact absurd (hself _) hq2
      · exact h.kt k hk', fun q v hq => by
    obtain ⟨r, h1, h2, cs, h3, h4⟩ := h.pf q v hq
    exact ⟨r, h1, h2, cs, h3, M_map h4 hg hb⟩, h.pt, h.okb, h.okk, h.okp, h.ne, ⟨hk, h.good.rise, h.good.few, h.good.recs, h.good.ends, h.good.over⟩⟩
end
set_option maxRecDepth 100000 in
set_option maxHeartbeats 8000000 in
theorem put_walk {w : World} {ok : Nat → Prop} {b N : Nat} {s : Sh} (h : ShAt w ok b N s) (hok : ∀ g, w.heap.size ≤ g → ok g) (A : Option Addr) (c : Nat) (l : List Wr) (hr : Kd.R k57 57 w 0 ok (.slice A l.length c) l) (hl : l.length ≤ 1024) (hk : ∀ x ∈ l, x.f0.size ≤ maxLen)
    (ts : Int) (hp : PutOk s.K l ts) (hN : N + l.length < maxLen) :
    Calls Tryz.prog 37 #[.pointer (some ⟨b, 0, none⟩), .slice A l.length c, .int .i64 ts] w fun e w' => e = .returned (.tuple #[]) ∧ ShAt w' ok b (N + l.length) { s with K := putV s.K l ts } ∧ Chg ok w w' ∧ Still ok w w' := by
  have HS := Aside0.mk h
  have HOK := Aside0.mk hok
  have HR := Aside0.mk hr
  have HK := Aside0.mk hk
  have HPO := Aside0.mk (And.intro (let ⟨_, _, _, _, _, hp⟩ := h; hp.good.keys) hp)
  have HNN := Aside0.mk hN
  clear h hok hr hk hp hN
  go_enter Tryz.func37, Tryz.ntmps37
  go_wp2
  go_loopw [10] (fun i wr => ∃ (k : Nat) (K : List (Key × Chain)), k ≤ l.length ∧ i = .int .i64 (k : Int) ∧ Aside0 (putV s.K l ts = putV K (l.drop k) ts ∧ KOk K ∧ PutOk K (l.drop k) ts) ∧ Aside0 (ShAt wr ok b (N + k) { s with K := K }) ∧ Aside0 (Chg ok w wr) ∧ Aside0 (Still ok w wr)) (fun i _ => l.length - (intOf i).toNat)
  case atStart => exact ⟨0, s.K, Nat.zero_le _, rfl, ⟨rfl, HPO.out.1, HPO.out.2⟩, HS, ⟨Chg.of_below (Below.refl _ _)⟩, ⟨Still.of_below (Below.refl _ _)⟩⟩
  case round =>
    obtain ⟨k, K, hk, rfl, HF, HSH, HCH, HST⟩ := hrel
    by_cases hlt : k < l.length
    · obtain ⟨A', c', he, hle', hC'⟩ := Kd.R_reads (R_still (by decide) HR.out HST.out)
      injection he with e1 e2 e3
      subst e1 e3
      obtain ⟨ad, cs, rfl, hlen, hK, hc0⟩ := Kd.C_get hC' (⟨⟨#[]⟩, ⟨#[]⟩, false⟩ : Wr) (k : Int) (by omega) (by omega)
      rw [Int.toNat_natCast] at hK hc0
      have hc : ∀ j u, cs[j]? = some u → wr.cell? (ad.add (k * 3 + j)) = some u := hc0
      obtain rfl := k57_open hK
      have z0 : wr.cell? (ad.add (k * 3)) = some (.string (l.getD k (⟨⟨#[]⟩, ⟨#[]⟩, false⟩ : Wr)).f0) := hc 0 _ rfl
      have z1 : wr.cell? ⟨(ad.add (k * 3)).block, (ad.add (k * 3)).off + 1, none⟩ = some (.string (l.getD k (⟨⟨#[]⟩, ⟨#[]⟩, false⟩ : Wr)).f1) := by rw [← add_field _ _ 1 (by omega)]; exact hc 1 _ rfl
      have z2 : wr.cell? ⟨(ad.add (k * 3)).block, (ad.add (k * 3)).off + 2, none⟩ = some (.bool (l.getD k (⟨⟨#[]⟩, ⟨#[]⟩, false⟩ : Wr)).f2) := by rw [← add_field _ _ 2 (by omega)]; exact hc 2 _ rfl
      have hmem : l.getD k (⟨⟨#[]⟩, ⟨#[]⟩, false⟩ : Wr) ∈ l := by simp [List.getElem?_eq_getElem hlt]
      have hdrop : l.drop k = l.getD k (⟨⟨#[]⟩, ⟨#[]⟩, false⟩ : Wr) :: l.drop (k + 1) := by
        rw [List.drop_eq_getElem_cons hlt]; simp [List.getElem?_eq_getElem hlt]
      have HF2 := HF.out
      rw [hdrop] at HF2
      generalize l.getD k (⟨⟨#[]⟩, ⟨#[]⟩, false⟩ : Wr) = x at *
      obtain ⟨hf1, hf2, hf3⟩ := HF2
      obtain ⟨n1, n2⟩ := put1_ok hf2 hf3
      have hf4 : putV K (x :: l.drop (k + 1)) ts = putV (put1 ts K x) (l.drop (k + 1)) ts := rfl
      have HF3 : Aside0 (putV s.K l ts = putV (put1 ts K x) (l.drop (k + 1)) ts ∧ KOk (put1 ts K x) ∧ PutOk (put1 ts K x) (l.drop (k + 1)) ts) := ⟨hf1.trans hf4, n1, n2⟩
      have hver := hf3.ver x List.mem_cons_self
      have hlast := hf3.last x List.mem_cons_self
      have hroom := (cntK_le hf3.room).1
      have hks := HK.out x hmem
      obtain ⟨bk, bp, ve, fk, fp, hpt⟩ := HSH.out
      obtain ⟨wy, hwy⟩ : ∃ wy, wy = wr.alloc (.cells #[.string x.f0, .string x.f1, .bool x.f2] 57) := ⟨_, rfl⟩
      have hby : Below wr.heap.size wr wy := by rw [hwy]; exact below_alloc (Below.refl _ _) _
      have hyx : wy.heap[wr.heap.size]? = some (.cells #[.string x.f0, .string x.f1, .bool x.f2] 57 (0, 0)) := by rw [hwy]; exact blk_new _ _
      have HPY := Aside0.mk (hpt.below hby)
      have hkm := key_sk hks
      have HKM := Aside0.mk hkm
      obtain ⟨A2, ca, hv, hle, hC⟩ := HPY.out.chain (wkey x)
      have hco : ChainOk (look K (wkey x)) := hf2.look _
      have HADD : Aside0 (∀ W, Below wy.heap.size wy W → Calls Tryz.prog 81 #[.slice A2 (look K (wkey x)).length ca, .agg #[.int .i64 ts, .string x.f1, .bool x.f2]] W fun e w' => ∃ u, e = .returned (.tuple #[u, .int .i64 0]) ∧ Kd.R k43 43 w' W.heap.size (fun _ => True) u (look K (wkey x) ++ [⟨ts, x.f1, x.f2⟩]) ∧ Below W.heap.size W w') := ⟨fun W hW => add_walk W A2 ca (look K (wkey x)) ⟨ts, x.f1, x.f2⟩ (Kd.C_below hC hW) hle hco hver hroom hlast⟩
      have hlk : Sem.run Tryz.prog (Instr.lookup 65 (.map (some bk)) (.string x.f0) false) wy.drew = .ok (.slice A2 (look K (wkey x)).length ca) wy.drew := by
        have h1 := (MapL.get_ (MapL.below HPY.out.keys (below_drew1 (Below.refl _ _))) keyedS Tryz.underlying65 (zeroC wy.drew) hkm).1
        have e1 : fk (sk (kb x.f0)) = fk (sk (wkey x)) := rfl
        rw [e1, hv] at h1
        exact h1
      obtain ⟨c0, -, -, -⟩ := HPY.out.cells
      have y0 := blk_cell hyx 0
      have y1 := blk_cell hyx 1
      have y2 := blk_cell hyx 2
      have HYX := Aside0.mk hyx
      have HWY := Aside0.mk hwy
      have HBY := Aside0.mk hby
      have hnn : N + k < maxLen := by have := HNN.out; omega
      have HN2 := Aside0.mk hnn
      clear hnn hwy hby hyx hkm hks hpt hmem hdrop hf1 hf2 hf3 hf4 n1 n2 hver hlast hroom hv hle hC hco HF hK hc0 hc hlen hC' hle' HSH
      generalize hch0 : look K (wkey x) = ch at *
      have HQ := Aside0.mk hch0
      clear hch0
      go_wp2_with fail
      rw [← HWY.out]
      go_region_held3 (fun w' => w'.cell? ⟨b, 0, none⟩ = some (.map (some bk)) ∧ w'.cell? ⟨wr.heap.size, 0, none⟩ = some (.string x.f0) ∧ w'.cell? ⟨wr.heap.size, 1, none⟩ = some (.string x.f1) ∧ w'.cell? ⟨wr.heap.size, 2, none⟩ = some (.bool x.f2)) (first | exact ⟨c0, y0, y1, y2⟩ | exact ⟨d0, u0, u1, u2⟩ | exact ⟨e0, v0, v1, v2⟩)
        (first
          | (go_simp; go_at_call 81; refine (HADD.out _ (by repeat (first | exact Below.refl _ _ | apply below_drew1))).mono ?_; rintro e w5 ⟨u, rfl, hu, hb5⟩; have HU := Aside0.mk hu; have HB5 := Aside0.mk hb5; have HP5 := Aside0.mk ((HPY.out.below (below_drew1 (Below.refl _ _))).below hb5); obtain ⟨w6, hrun, hm6, hg6⟩ := MapL.put_ HP5.out.keys keyedS Tryz.underlying65 HN2.out HKM.out u; have HM6 := Aside0.mk hm6; have HG6 := Aside0.mk hg6; have hY5 := blk_below (blk_drew HYX.out) hb5; have hY6 := blk_map hY5 hg6 (fun _ _ => HP5.out.keys.not_cells); have hb6 := blk_map HP5.out.box hg6 (fun _ _ => HP5.out.keys.not_cells); obtain ⟨d0, -, -, -⟩ := HP5.out.cells; have u0 := blk_cell hY5 0; have u1 := blk_cell hY5 1; have u2 := blk_cell hY5 2; have e0 := blk_cell hb6 0; have v0 := blk_cell hY6 0; have v1 := blk_cell hY6 1; have v2 := blk_cell hY6 2; clear hu hm6 hg6 hY5 hY6 hb6 hb5))
      all_goals (try go_wp2_with fail)
      have B5 : Aside0 (Below wr.heap.size wr w5) := ⟨(below_drew1 HBY.out).trans (HB5.out.mono (below_drew1 HBY.out).size)⟩
      have OK5 : Aside0 (∀ g, wy.drew.heap.size ≤ g → ok g) := ⟨fun g hg => HOK.out g (Nat.le_trans HCH.out.size (Nat.le_trans (below_drew1 HBY.out).size hg))⟩
      have P6 := Aside0.mk (HP5.out.put1 HG6.out HM6.out (by have := HU.out; rw [← HQ.out] at this; exact R_new this OK5.out) HF3.out.2.1)
      have CH6 : Aside0 (Chg ok w w6) := ⟨(HCH.out.trans (Chg.of_below B5.out)).trans (Chg.of_grown HG6.out HP5.out.okk)⟩
      have ST6 : Aside0 (Still ok w w6) := ⟨(HST.out.trans (Still.of_below B5.out)).trans (Still.of_grown HG6.out (fun _ _ _ => HP5.out.keys.not_cells))⟩
      go_roundw
      case rel => exact ⟨k + 1, put1 ts K x, by omega, by go_num, HF3, ⟨⟨bk, bp, ve, _, fp, P6.out⟩⟩, CH6, ST6⟩
      case measure => simp [intOf]; omega
    · obtain rfl : k = l.length := by omega
      have HV3 : Aside0 (putV s.K l ts = K) := ⟨by rw [HF.out.1, List.drop_of_length_le (Nat.le_refl _)]; rfl⟩
      go_wp2
      go_end0
      exact ⟨rfl, by rw [HV3.out]; exact HSH.out, HCH.out, HST.out⟩
end Go.Proofs.YtaldfbmjmpkmmaaGreat.PL
namespace Go.Proofs.YtaldfbmjmpkmmaaGreat.PL
open Go.RowKit Go.Proofs.YtaldfbmjmpkmmaaGreatW.PrintWords Go.Proofs.YtaldfbmjmpkmmaaGreatW.PrintLast Go.Proofs.YtaldfbmjmpkmmaaGreatW.PrintMore Go.Shelf Go.Maps Go.WideMaps Go.Proofs.YtaldfbmjmpkmmaaGreat.Mk
set_option linter.unusedVariables false
set_option linter.unusedSimpArgs false
set_option linter.unusedSectionVars false
theorem grown_set (w : World) (a : Addr) (u : Value) : w.grownBy (w.setCell a u) (some a.block) :=
  ⟨rfl, rfl, rfl, by simp [World.setCell], fun k hk h => Below.heap_setCell _ _ _ _ (fun e => h (by rw [e]))⟩
theorem R_own {α : Type} {d : Kd α} {e base : Nat} {ok : Nat → Prop} {w : World} {v : Value} {xs : List α} (h : d.R e w base ok v xs) {k : Nat} (hk : v.ownBlock = some k) : ok k ∧ k < w.heap.size ∧ ∃ cells, w.heap[k]? = some (.cells cells e (0, 0)) := by
  have h1 := (Kd.R_bound h).1 k hk
  obtain ⟨h0, inner, ho, hr⟩ := h
  refine ⟨h1.1, h1.2.2.1, ?_⟩
  obtain ⟨_, h3⟩ := ho
  rcases h3 with ⟨e1, _⟩ | ⟨g, cap, cur, e1, _, e2, _⟩
  · rw [e1] at hk
    cases hk
  · rw [e1] at hk
    have : g = k := by simpa [Value.ownBlock] using hk
    subst this
    exact ⟨_, e2⟩
section
variable {ok : Nat → Prop} {w w' w6 w1 : World} {b N : Nat} {s : Sh} {bk bp : Nat} {ve : Value} {fk fp : Lit → Option Value}
theorem Parts.del (h : Parts w ok b N s bk bp ve fk fp) (hg : w.grownBy w' (some bp)) (t : Int) (hm : MapL Tryz.prog 3 w' bp N (ldel fp (ik t))) : Parts w' ok b N { s with P := s.P.filter (fun r => !decide (r.f1 = t)) } bk bp ve fk (ldel fp (ik t)) :=
  have hb : ∀ cells q, w.heap[bp]? ≠ some (.cells cells q (0, 0)) := fun cells q => h.preps.not_cells
  ⟨blk_map h.box hg hb, h.keys.kept hg (fun e => h.ne (by injection e)), hm, R_map h.ends hg hb, fun q v hq => by
    obtain ⟨k, h1, h2, h3⟩ := h.kf q v hq
    exact ⟨k, h1, h2, R_map h3 hg hb⟩, h.kt, fun q v hq => by
    unfold ldel at hq
    split at hq
    · cases hq
    · rename_i hq2
      obtain ⟨r', h1, h2, cs', h3, h4⟩ := h.pf q v hq
      refine ⟨r', List.mem_filter.2 ⟨h1, ?_⟩, h2, cs', h3, M_map h4 hg hb⟩
      rw [h2, sameKey_ik] at hq2
      simpa using hq2, fun x hx => by
    obtain ⟨h1, h2⟩ := List.mem_filter.1 hx
    unfold ldel
    rw [sameKey_ik]
    have : ¬ x.f1 = t := by simpa using h2
    rw [if_neg (by simpa using this)]
    exact h.pt x h1, h.okb, h.okk, h.okp, h.ne, ⟨h.good.keys, h.good.rise.filter _, Nat.le_trans (List.length_filter_le _ _) h.good.few, fun r hr => h.good.recs r (List.mem_filter.1 hr).1, h.good.ends, h.good.over⟩⟩
/-- The ended ones anew: written behind the old ones, or in a new place; then the box's cell. -/
theorem Parts.ended (h : Parts w ok b N s bk bp ve fk fp) (hg : w.grownBy w6 ve.ownBlock) {v1 : Value} {E : List (Int × Int)} (hE : kEnd.R 76 w6 0 ok v1 E) (hl : E.length ≤ 1025) : Parts (w6.setCell ⟨b, 2, none⟩ v1) ok b N { s with E := E } bk bp v1 fk fp := by
  have hown : ∀ k, ve.ownBlock = some k → ∃ cells, w.heap[k]? = some (.cells cells 76 (0, 0)) := fun k hk => (R_own h.ends hk).2.2
  have hne : ∀ (g : Nat) (cells : Array Value) (q : TypeId), q ≠ 76 → w.heap[g]? = some (.cells cells q (0, 0)) → some g ≠ ve.ownBlock := fun g cells q hq hc e => by
    obtain ⟨c2, h2⟩ := hown g e.symm
    rw [hc] at h2
    injection h2 with h2
    injection h2 with _ h2
    exact hq h2
  have hmap : ∀ g : Nat, (∀ (cells : Array Value) (q : TypeId), w.heap[g]? ≠ some (.cells cells q (0, 0))) → some g ≠ ve.ownBlock := fun g hn e => by
    obtain ⟨c2, h2⟩ := hown g e.symm
    exact hn _ _ h2
  have hbox6 : w6.heap[b]? = some (.cells #[.map (some bk), .map (some bp), ve, .int .i64 s.over] 69 (0, 0)) := (hg.block b (blk_lt h.box) (hne b _ _ (by decide) h.box)).trans h.box
  have hg7 := grown_set w6 ⟨b, 2, none⟩ v1
  have hk6 := h.keys.kept hg (hmap bk (fun _ _ => h.keys.not_cells))
  have hp6 := h.preps.kept hg (hmap bp (fun _ _ => h.preps.not_cells))
  have hstep : ∀ (g : Nat) (q : TypeId), q ≠ 76 → q ≠ 69 → ∀ cells : Array Value, w.heap[g]? = some (.cells cells q (0, 0)) → (w6.setCell ⟨b, 2, none⟩ v1).heap[g]? = w.heap[g]? := fun g q h1 h2 cells hc =>
    (Below.heap_setCell w6 ⟨b, 2, none⟩ v1 g (fun e => h2 (by
      have e : g = b := e
      subst e
      rw [h.box] at hc
      injection hc with hc
      injection hc with _ hc
      exact hc.symm))).trans (hg.block g (blk_lt hc) (hne g cells q h1 hc))
  exact ⟨blk_put hbox6 2 v1 rfl, hk6.kept hg7 (fun e => absurd hbox6 (by (have e2 : bk = b := by injection e); rw [← e2]; exact hk6.not_cells)), hp6.kept hg7 (fun e => absurd hbox6 (by (have e2 : bp = b := by injection e); rw [← e2]; exact hp6.not_cells)),
    R_keep hE (fun g _ q hq cells hc => Below.heap_setCell w6 ⟨b, 2, none⟩ v1 g (fun e => by
      have e : g = b := e
      subst e
      rw [hbox6] at hc
      injection hc with hc
      injection hc with _ hc
      have : q = 76 := (by decide : ∀ q, q ∈ 76 :: kEnd.E → q = 76) q hq
      rw [this] at hc
      cases hc)),
    fun q v hq => by
      obtain ⟨k, h1, h2, h3⟩ := h.kf q v hq
      exact ⟨k, h1, h2, R_keep h3 (fun g _ q hq cells hc => hstep g q ((by decide : ∀ q, q ∈ 43 :: k43.E → q ≠ 76) q hq) ((by decide : ∀ q, q ∈ 43 :: k43.E → q ≠ 69) q hq) cells hc)⟩, h.kt,
    fun q v hq => by
      obtain ⟨r, h1, h2, cs, h3, h4⟩ := h.pf q v hq
      exact ⟨r, h1, h2, cs, h3, M_keep h4 (fun g _ q hq cells hc => hstep g q ((by decide : ∀ q, q ∈ k26.E → q ≠ 76) q hq) ((by decide : ∀ q, q ∈ k26.E → q ≠ 69) q hq) cells hc)⟩, h.pt, h.okb, h.okk, h.okp, h.ne, ⟨h.good.keys, h.good.rise, h.good.few, h.good.recs, hl, h.good.over⟩⟩
theorem Parts.prep_rec (h : Parts w ok b N s bk bp ve fk fp) (r : Rec) (hr : r ∈ s.P) : ∃ v7 v8, fp (ik r.f1) = some (.agg #[.int .i64 r.f0, .int .i64 r.f1, .int .i64 r.f2, .int .i64 r.f3, .string r.f4, .string r.f5, .bool r.f6, v7, v8]) ∧ Kd.string.R 9 w 0 ok v7 r.f7 ∧ Kd.R k57 57 w 0 ok v8 r.f8 := by
  obtain ⟨v, hv⟩ := Option.isSome_iff_exists.1 (h.pt r hr)
  obtain ⟨r', h1, h2, cs, rfl, hM⟩ := h.pf _ v hv
  have h2' : r.f1 = r'.f1 := by unfold ik at h2; injection h2
  obtain rfl := prep_one h.good.rise hr h1 h2'
  obtain ⟨v7, v8, rfl, h7, h8⟩ := k26_openM hM
  exact ⟨v7, v8, hv, h7, h8⟩
theorem Parts.box6 (h : Parts w ok b N s bk bp ve fk fp) (hg : w.grownBy w6 ve.ownBlock) : w6.heap[b]? = some (.cells #[.map (some bk), .map (some bp), ve, .int .i64 s.over] 69 (0, 0)) :=
  (hg.block b (blk_lt h.box) (fun e => by
    obtain ⟨_, _, c2, h2⟩ := R_own h.ends e.symm
    rw [h.box] at h2
    injection h2 with h2
    injection h2 with _ h2
    cases h2)).trans h.box
theorem endV_few {s : Sh} {t ts : Int} (h : ¬ 1023 < s.E.length) : endV s t ts = { s with P := s.P.filter (fun r => !decide (r.f1 = t)), E := s.E ++ [(t, ts)] } := by
  unfold endV endE
  rw [if_neg (by rw [List.length_append, List.length_singleton]; omega)]
theorem endV_full {s : Sh} {t ts : Int} (h : 1023 < s.E.length) : endV s t ts = { s with P := s.P.filter (fun r => !decide (r.f1 = t)), E := (s.E ++ [(t, ts)]).drop 1 } := by
  unfold endV endE
  rw [if_pos (by rw [List.length_append, List.length_singleton]; omega)]
theorem ends_drop {w : World} {base : Nat} {A : Option Addr} {c : Nat} {E : List (Int × Int)} {x : Int × Int} (h : kEnd.R 76 w base ok (.slice A (E.length + 1) c) (E ++ [x])) (hE : E.length ≤ 1024) : ∃ A2, (∀ W, (Instr.slice 67 (.slice A (E.length + 1) c) (some (.int .i64 1)) none none).run Tryz.prog W = .ok (.slice A2 E.length (c - 1)) W) ∧
    Calls Tryz.prog 44 #[.slice A2 E.length (c - 1)] w fun e w' => ∃ v, e = .returned v ∧ Kd.R kEnd 76 w' w.heap.size (fun _ => True) v ((E ++ [x]).drop 1) ∧ Below w.heap.size w w' := by
  obtain ⟨A10, c10, he10, hle10, hC10⟩ := Kd.R_reads h
  injection he10 with e1 e2 e3
  subst e1 e3
  have hl : (E ++ [x]).length = E.length + 1 := by simp
  have hC11 := Kd.C_drop (m := 1) hC10 (by omega) hle10
  have hcl := clone_end w _ (c - 1) ((E ++ [x]).drop 1) hC11 (by rw [List.length_drop]; omega)
  rw [List.length_drop, hl] at hcl
  obtain ⟨i0, hi0, _, hsz, _⟩ := info_parts infoE
  have hcut := cut_from (P := Tryz.prog) 67 76 .i64 Tryz.underlying67 hi0 2 hsz A (E.length + 1) c (1 : Int) (by omega) (by omega)
  exact ⟨_, hcut, hcl⟩
theorem Chg.ended (h : Parts w ok b N s bk bp ve fk fp) (hg : w.grownBy w6 ve.ownBlock) (v1 : Value) : Chg ok w (w6.setCell ⟨b, 2, none⟩ v1) :=
  Chg.trans ⟨hg.os, hg.tape, hg.output, hg.size, fun g hg' hn => hg.block g hg' (fun e => hn (R_own h.ends e.symm).1)⟩ (Chg.of_grown (grown_set w6 ⟨b, 2, none⟩ v1) h.okb)
end

set_option maxRecDepth 100000 in
set_option maxHeartbeats 8000000 in
theorem do_walk {w : World} {ok : Nat → Prop} {b N : Nat} {s : Sh} (h : ShAt w ok b N s) (hE : s.E.length ≤ 1024) (hok : ∀ g, w.heap.size ≤ g → ok g) (hN : N + 1024 < maxLen) (t ts : Int) (ht : 0 ≤ t ∧ t ≤ 1125899906842623) (hts : 0 ≤ ts ∧ ts ≤ 1125899906842624) :
    Calls Tryz.prog 34 #[.pointer (some ⟨b, 0, none⟩), .int .i64 t, .int .i64 ts] w fun e w' => e = .returned (.int .i64 (doV s t ts).1) ∧ ShAt w' ok b (N + 16) (doV s t ts).2 ∧ Chg ok w w' := by
  have HST := Aside0.mk (state_walk h t (by omega))
  have HS := Aside0.mk h
  have HEN := Aside0.mk hE
  have HOK := Aside0.mk hok
  have HNN := Aside0.mk hN
  have HT := Aside0.mk (And.intro ht hts)
  have HDV : Aside0 (doV s t ts = if 1 < (stateV s t).1 ∧ (stateV s t).2 = ts then (6, s)
    else if 1 < (stateV s t).1 then (120, s)
    else if (stateV s t).1 = 1 ∧ 0 < ts then
      (if roomV s (writesOf s t) ts = 0 then (0, endV { s with K := putV s.K (writesOf s t) ts } t ts) else (roomV s (writesOf s t) ts, s))
    else (0, endV s t ts)) := ⟨rfl⟩
  have HSC := Aside0.mk (state_cases s t)
  have HWO := Aside0.mk (fun hz => writesOf_some (s := s) (t := t) hz)
  have HDP := Aside0.mk (fun (q : ShOk s) (p : 0 < ts ∧ ts ≤ 1125899906842624) h1 h0 => do_put (s := s) (t := t) (ts := ts) q p h1 h0)
  clear h hok hN ht hE
  go_enter Tryz.func34, Tryz.ntmps34
  go_wp2_with fail
  refine HST.out.mono ?_
  rintro e w1 ⟨rfl, hb1⟩
  have HB1 := Aside0.mk hb1
  have HS1 := Aside0.mk (HS.out.below hb1)
  clear hb1 HST HS
  generalize (stateV s t).1 = st at *
  generalize (stateV s t).2 = was at *
  by_cases hst : 1 < st
  · have g1 : decide (st > 1) = true := decide_eq_true hst
    by_cases hw : was = ts
    · have HDV2 : Aside0 (doV s t ts = (6, s)) := ⟨by rw [HDV.out, if_pos ⟨hst, hw⟩]⟩
      have g2 : (was == ts) = true := by simpa using hw
      clear HDV HSC HWO HDP hw hst
      go_wp2_with fail
      go_ret
      exact ⟨by rw [HDV2.out]; rfl, by rw [HDV2.out]; exact HS1.out.mono (Nat.le_add_right _ _), Chg.of_below HB1.out⟩
    · have HDV2 : Aside0 (doV s t ts = (120, s)) := ⟨by rw [HDV.out, if_neg (fun h => hw h.2), if_pos hst]⟩
      have g2 : (was == ts) = false := by simpa using hw
      clear HDV HSC HWO HDP hw hst
      go_wp2_with fail
      go_ret
      exact ⟨by rw [HDV2.out]; rfl, by rw [HDV2.out]; exact HS1.out.mono (Nat.le_add_right _ _), Chg.of_below HB1.out⟩
  · have g1 : decide (st > 1) = false := decide_eq_false hst
    have HD2 : Aside0 (doV s t ts = if st = 1 ∧ 0 < ts then (if roomV s (writesOf s t) ts = 0 then (0, endV { s with K := putV s.K (writesOf s t) ts } t ts) else (roomV s (writesOf s t) ts, s)) else (0, endV s t ts)) := ⟨by rw [HDV.out, if_neg (fun h => hst h.1), if_neg hst]⟩
    clear HDV hst
    by_cases hs1 : st = 1 ∧ 0 < ts
    · obtain ⟨rfl, hts0⟩ := hs1
      obtain ⟨r, hr, hrt, hwo⟩ := HWO.out rfl
      have g4 : decide (ts > 0) = true := decide_eq_true hts0
      obtain ⟨bk, bp, ve, fk, fp, hp⟩ := HS1.out
      obtain ⟨v7, v8, hfv, hR7, hR8⟩ := hp.prep_rec r hr
      obtain ⟨A7, c7, rfl, hle7, hC7⟩ := Kd.R_reads hR7
      obtain ⟨A8, c8, rfl, hle8, hC8⟩ := Kd.R_reads hR8
      rw [hrt] at hfv
      have HV : Aside0 ((fp (ik t)).getD (.agg #[.int .i64 0, .int .i64 0, .int .i64 0, .int .i64 0, .string ⟨#[]⟩, .string ⟨#[]⟩, .bool false, .slice none 0 0, .slice none 0 0]) = .agg #[.int .i64 r.f0, .int .i64 t, .int .i64 r.f2, .int .i64 r.f3, .string r.f4, .string r.f5, .bool r.f6, .slice A7 r.f7.length c7, .slice A8 r.f8.length c8]) := ⟨by rw [hfv]; rfl⟩
      have hfd : ∀ W, (Instr.field 26 (.agg #[.int .i64 r.f0, .int .i64 t, .int .i64 r.f2, .int .i64 r.f3, .string r.f4, .string r.f5, .bool r.f6, .slice A7 r.f7.length c7, .slice A8 r.f8.length c8]) 8).run Tryz.prog W = .ok (.slice A8 r.f8.length c8) W := fun W => by kernel_rfl
      have hls := (prep_lists (hp.good.recs r hr).1 (hp.good.recs r hr).2).1
      have HKS : Aside0 (∀ x ∈ r.f8, x.f0.size ≤ maxLen) := ⟨fun x hx => Nat.le_trans (key_size (hls.key8 x hx)) (by decide)⟩
      have hf16 := hls.few8
      rw [hwo] at HD2 HDP
      have HRM := Aside0.mk (room_walk HS1.out A8 c8 r.f8 hC8 (by omega) HKS.out ts)
      have HPO : Aside0 (roomV s r.f8 ts = 0 → PutOk s.K r.f8 ts) := ⟨fun h => HDP.out hp.good ⟨hts0, HT.out.2.2⟩ rfl h⟩
      have HR8 := Aside0.mk hR8
      have HD3 : Aside0 (doV s t ts = if roomV s r.f8 ts = 0 then (0, endV { s with K := putV s.K r.f8 ts } t ts) else (roomV s r.f8 ts, s)) := ⟨by rw [HD2.out, if_pos ⟨rfl, hts0⟩]⟩
      have HP1 := Aside0.mk hp
      obtain ⟨c0, c1, c2, c3⟩ := hp.cells
      clear hp hR7 hle7 hC7 hR8 hle8 hC8 hfv hls hwo hrt hr HD2 HDP HWO HSC
      generalize roomV s r.f8 ts = rv at *
      go_wp2_with (at_lookup; refine MapL.at_ HP1.out.preps keyedI rfl _ _ 66 26 rfl Tryz.underlying66 (zeroR _) rfl rfl (key_ik (t := t) (by have := HT.out; omega)) ?_; rw [HV.out])
      refine HRM.out.mono ?_
      rintro e w2 ⟨rfl, hb2⟩
      have HB2 : Aside0 (Below w.heap.size w w2) := ⟨HB1.out.trans (hb2.mono HB1.out.size)⟩
      have HS2 := Aside0.mk (HS1.out.below hb2)
      have HR9 := Aside0.mk (Kd.R_below HR8.out hb2)
      clear hb2 c0 c1 c2 c3 HP1 HV hfd HRM HS1 HR8
      by_cases hm : rv = 0
      · subst hm
        rw [if_pos rfl] at HD3
        have OK2 : Aside0 (∀ g, w2.heap.size ≤ g → ok g) := ⟨fun g hg => HOK.out g (Nat.le_trans HB2.out.size hg)⟩
        have HPU := Aside0.mk (put_walk HS2.out OK2.out A8 c8 r.f8 HR9.out (by omega) HKS.out ts (HPO.out rfl) (by have := HNN.out; omega))
        go_wp2_with fail
        refine HPU.out.mono ?_
        rintro e w3 ⟨rfl, hs3, hch3, -⟩
        have CH3 : Aside0 (Chg ok w w3) := ⟨(Chg.of_below HB2.out).trans hch3⟩
        obtain ⟨bk, bp, ve, fk, fp, hp⟩ := hs3
        have HP3 := Aside0.mk (hp.mono (show N + r.f8.length ≤ N + 16 by omega))
        have OK3 : Aside0 (∀ g, w3.heap.size ≤ g → ok g) := ⟨fun g hg => HOK.out g (Nat.le_trans CH3.out.size hg)⟩
        clear hp hch3 HPU HS2 HPO HR9 hf16
        by_cases hf : 1023 < s.E.length
        · have g5 : decide (((s.E.length : Nat) : Int) + 1 > 1024) = true := decide_eq_true (by omega)
          obtain ⟨c0, c1, c2, c3⟩ := HP3.out.cells
          go_wp2_with (first
            | (at_delete; refine MapL.drop HP3.out.preps keyedI rfl _ _ 66 26 rfl Tryz.underlying66 rfl rfl (key_ik (t := t) (by have := HT.out; omega)) ?_; intro w7 hm7 hg7; have HG7 := Aside0.mk hg7; have HP7 := Aside0.mk (HP3.out.del hg7 t hm7); clear c0 c1 c2 c3 hm7 hg7; obtain ⟨c0, c1, c2, c3⟩ := HP7.out.cells)
            | (at_builtin; refine Kd.R_append kEnd (w0 := w7) 0 rfl (.tmp 62) (.tmp 66) 67 76 (.agg #[.int .i64 0, .int .i64 0]) 16 rfl Tryz.underlying67 infoE rfl (by decide) (by omega) _ s.E (t, ts) [.int .i64 t, .int .i64 ts] ok (fun _ => False) rfl rfl (kEnd_mkM _ _ _ _) (fun _ hk => hk.elim) (fun j hj => OK3.out j (Nat.le_trans HG7.out.size hj)) HP7.out.ends (Below.refl _ _) (Nat.zero_le _) (by have := HEN.out; omega) ?_; intro v1 w8 ho hb hg hat; obtain ⟨A9, c9, hs9⟩ := Kd.R_slice ho; subst hs9; rw [List.length_append, List.length_singleton] at *; have HE8 := Aside0.mk ho; have HG8 := Aside0.mk hg; have hbx8 := HP7.out.box6 hg; clear ho hb hg hat c0 c1 c2 c3; have c2 := blk_cell hbx8 2; have f2 := blk_frozen hbx8 2; clear hbx8; have P9 := Aside0.mk (HP7.out.ended HG8.out HE8.out (by rw [List.length_append, List.length_singleton]; have := HEN.out; omega)); obtain ⟨A2, hc, hcl⟩ := ends_drop P9.out.ends HEN.out; have HCL := Aside0.mk hcl; clear hcl))
          refine HCL.out.mono ?_
          rintro e w10 ⟨v2, rfl, hv2, hb10⟩
          obtain ⟨A12, c12, hs12⟩ := Kd.R_slice hv2
          subst hs12
          have hln : ((s.E ++ [(t, ts)]).drop 1).length = s.E.length := by rw [List.length_drop, List.length_append, List.length_singleton]; omega
          rw [hln] at hv2 ⊢
          clear hln
          have HV10 := Aside0.mk hv2
          have HB10 := Aside0.mk hb10
          have hbx10 := blk_below P9.out.box hb10
          clear hv2 hb10 c2 f2 HCL hc
          have c2 := blk_cell hbx10 2
          have f2 := blk_frozen hbx10 2
          clear hbx10
          go_wp2_with fail
          go_ret
          have P11 := (P9.out.ended (grownBy_of_below HB10.out _) (R_new HV10.out (fun g hg => OK3.out g (Nat.le_trans (Nat.le_trans HG7.out.size (Chg.ended HP7.out HG8.out _).size) hg))) (by rw [List.length_drop, List.length_append, List.length_singleton]; have := HEN.out; omega))
          exact ⟨by rw [HD3.out]; rfl, by rw [HD3.out, endV_full (s := { s with K := putV s.K r.f8 ts }) hf]; exact ⟨bk, bp, _, fk, _, P11⟩, (((CH3.out.trans (Chg.of_grown HG7.out HP7.out.okp)).trans (Chg.ended HP7.out HG8.out _))).trans (Chg.ended P9.out (grownBy_of_below HB10.out _) _)⟩
        · have g5 : decide (((s.E.length : Nat) : Int) + 1 > 1024) = false := decide_eq_false (by omega)
          obtain ⟨c0, c1, c2, c3⟩ := HP3.out.cells
          go_wp2_with (first
            | (at_delete; refine MapL.drop HP3.out.preps keyedI rfl _ _ 66 26 rfl Tryz.underlying66 rfl rfl (key_ik (t := t) (by have := HT.out; omega)) ?_; intro w7 hm7 hg7; have HG7 := Aside0.mk hg7; have HP7 := Aside0.mk (HP3.out.del hg7 t hm7); clear c0 c1 c2 c3 hm7 hg7; obtain ⟨c0, c1, c2, c3⟩ := HP7.out.cells)
            | (at_builtin; refine Kd.R_append kEnd (w0 := w7) 0 rfl (.tmp 62) (.tmp 66) 67 76 (.agg #[.int .i64 0, .int .i64 0]) 16 rfl Tryz.underlying67 infoE rfl (by decide) (by omega) _ s.E (t, ts) [.int .i64 t, .int .i64 ts] ok (fun _ => False) rfl rfl (kEnd_mkM _ _ _ _) (fun _ hk => hk.elim) (fun j hj => OK3.out j (Nat.le_trans HG7.out.size hj)) HP7.out.ends (Below.refl _ _) (Nat.zero_le _) (by have := HEN.out; omega) ?_; intro v1 w8 ho hb hg hat; obtain ⟨A9, c9, hs9⟩ := Kd.R_slice ho; subst hs9; rw [List.length_append, List.length_singleton] at *; have HE8 := Aside0.mk ho; have HG8 := Aside0.mk hg; have hbx8 := HP7.out.box6 hg; clear ho hb hg hat c0 c1 c2 c3; have c2 := blk_cell hbx8 2; have f2 := blk_frozen hbx8 2; clear hbx8))
          go_ret
          have P9 := HP7.out.ended HG8.out HE8.out (by rw [List.length_append, List.length_singleton]; have := HEN.out; omega)
          exact ⟨by rw [HD3.out]; rfl, by rw [HD3.out, endV_few (s := { s with K := putV s.K r.f8 ts }) hf]; exact ⟨bk, bp, _, fk, _, P9⟩, (CH3.out.trans (Chg.of_grown HG7.out HP7.out.okp)).trans (Chg.ended HP7.out HG8.out _)⟩
      · have HD4 : Aside0 (doV s t ts = (rv, s)) := ⟨by rw [HD3.out, if_neg hm]⟩
        have g5 : (rv != 0) = true := by simpa using hm
        clear hm HD3 HPO
        go_wp2_with fail
        go_ret
        exact ⟨by rw [HD4.out]; rfl, by rw [HD4.out]; exact HS2.out.mono (Nat.le_add_right _ _), Chg.of_below HB2.out⟩
    · have HDV2 : Aside0 (doV s t ts = (0, endV s t ts)) := ⟨by rw [HD2.out, if_neg hs1]⟩
      have CH1 : Aside0 (Chg ok w w1) := ⟨Chg.of_below HB1.out⟩
      obtain ⟨bk, bp, ve, fk, fp, hp⟩ := HS1.out
      have HP1 := Aside0.mk (hp.mono (Nat.le_add_right N 16))
      clear hp HS1
      have OK1 : Aside0 (∀ g, w1.heap.size ≤ g → ok g) := ⟨fun g hg => HOK.out g (Nat.le_trans CH1.out.size hg)⟩
      by_cases hs2 : st = 1
      · have g3 : (st == 1) = true := by simpa using hs2
        have g4 : decide (ts > 0) = false := decide_eq_false (fun h => hs1 ⟨hs2, h⟩)
        clear hs1 hs2 HD2 HSC HWO HDP
        by_cases hf : 1023 < s.E.length
        · have g5 : decide (((s.E.length : Nat) : Int) + 1 > 1024) = true := decide_eq_true (by omega)
          obtain ⟨c0, c1, c2, c3⟩ := HP1.out.cells
          go_wp2_with (first
            | (at_delete; refine MapL.drop HP1.out.preps keyedI rfl _ _ 66 26 rfl Tryz.underlying66 rfl rfl (key_ik (t := t) (by have := HT.out; omega)) ?_; intro w7 hm7 hg7; have HG7 := Aside0.mk hg7; have HP7 := Aside0.mk (HP1.out.del hg7 t hm7); clear c0 c1 c2 c3 hm7 hg7; obtain ⟨c0, c1, c2, c3⟩ := HP7.out.cells)
            | (at_builtin; refine Kd.R_append kEnd (w0 := w7) 0 rfl (.tmp 62) (.tmp 66) 67 76 (.agg #[.int .i64 0, .int .i64 0]) 16 rfl Tryz.underlying67 infoE rfl (by decide) (by omega) _ s.E (t, ts) [.int .i64 t, .int .i64 ts] ok (fun _ => False) rfl rfl (kEnd_mkM _ _ _ _) (fun _ hk => hk.elim) (fun j hj => OK1.out j (Nat.le_trans HG7.out.size hj)) HP7.out.ends (Below.refl _ _) (Nat.zero_le _) (by have := HEN.out; omega) ?_; intro v1 w8 ho hb hg hat; obtain ⟨A9, c9, hs9⟩ := Kd.R_slice ho; subst hs9; rw [List.length_append, List.length_singleton] at *; have HE8 := Aside0.mk ho; have HG8 := Aside0.mk hg; have hbx8 := HP7.out.box6 hg; clear ho hb hg hat c0 c1 c2 c3; have c2 := blk_cell hbx8 2; have f2 := blk_frozen hbx8 2; clear hbx8; have P9 := Aside0.mk (HP7.out.ended HG8.out HE8.out (by rw [List.length_append, List.length_singleton]; have := HEN.out; omega)); obtain ⟨A2, hc, hcl⟩ := ends_drop P9.out.ends HEN.out; have HCL := Aside0.mk hcl; clear hcl))
          refine HCL.out.mono ?_
          rintro e w10 ⟨v2, rfl, hv2, hb10⟩
          obtain ⟨A12, c12, hs12⟩ := Kd.R_slice hv2
          subst hs12
          have hln : ((s.E ++ [(t, ts)]).drop 1).length = s.E.length := by rw [List.length_drop, List.length_append, List.length_singleton]; omega
          rw [hln] at hv2 ⊢
          clear hln
          have HV10 := Aside0.mk hv2
          have HB10 := Aside0.mk hb10
          have hbx10 := blk_below P9.out.box hb10
          clear hv2 hb10 c2 f2 HCL hc
          have c2 := blk_cell hbx10 2
          have f2 := blk_frozen hbx10 2
          clear hbx10
          go_wp2_with fail
          go_ret
          have P11 := (P9.out.ended (grownBy_of_below HB10.out _) (R_new HV10.out (fun g hg => OK1.out g (Nat.le_trans (Nat.le_trans HG7.out.size (Chg.ended HP7.out HG8.out _).size) hg))) (by rw [List.length_drop, List.length_append, List.length_singleton]; have := HEN.out; omega))
          exact ⟨by rw [HDV2.out]; rfl, by rw [HDV2.out, endV_full (s := s) hf]; exact ⟨bk, bp, _, fk, _, P11⟩, (((CH1.out.trans (Chg.of_grown HG7.out HP7.out.okp)).trans (Chg.ended HP7.out HG8.out _))).trans (Chg.ended P9.out (grownBy_of_below HB10.out _) _)⟩
        · have g5 : decide (((s.E.length : Nat) : Int) + 1 > 1024) = false := decide_eq_false (by omega)
          obtain ⟨c0, c1, c2, c3⟩ := HP1.out.cells
          go_wp2_with (first
            | (at_delete; refine MapL.drop HP1.out.preps keyedI rfl _ _ 66 26 rfl Tryz.underlying66 rfl rfl (key_ik (t := t) (by have := HT.out; omega)) ?_; intro w7 hm7 hg7; have HG7 := Aside0.mk hg7; have HP7 := Aside0.mk (HP1.out.del hg7 t hm7); clear c0 c1 c2 c3 hm7 hg7; obtain ⟨c0, c1, c2, c3⟩ := HP7.out.cells)
            | (at_builtin; refine Kd.R_append kEnd (w0 := w7) 0 rfl (.tmp 62) (.tmp 66) 67 76 (.agg #[.int .i64 0, .int .i64 0]) 16 rfl Tryz.underlying67 infoE rfl (by decide) (by omega) _ s.E (t, ts) [.int .i64 t, .int .i64 ts] ok (fun _ => False) rfl rfl (kEnd_mkM _ _ _ _) (fun _ hk => hk.elim) (fun j hj => OK1.out j (Nat.le_trans HG7.out.size hj)) HP7.out.ends (Below.refl _ _) (Nat.zero_le _) (by have := HEN.out; omega) ?_; intro v1 w8 ho hb hg hat; obtain ⟨A9, c9, hs9⟩ := Kd.R_slice ho; subst hs9; rw [List.length_append, List.length_singleton] at *; have HE8 := Aside0.mk ho; have HG8 := Aside0.mk hg; have hbx8 := HP7.out.box6 hg; clear ho hb hg hat c0 c1 c2 c3; have c2 := blk_cell hbx8 2; have f2 := blk_frozen hbx8 2; clear hbx8))
          go_ret
          have P9 := HP7.out.ended HG8.out HE8.out (by rw [List.length_append, List.length_singleton]; have := HEN.out; omega)
          exact ⟨by rw [HDV2.out]; rfl, by rw [HDV2.out, endV_few (s := s) hf]; exact ⟨bk, bp, _, fk, _, P9⟩, (CH1.out.trans (Chg.of_grown HG7.out HP7.out.okp)).trans (Chg.ended HP7.out HG8.out _)⟩
      · have g3 : (st == 1) = false := by simpa using hs2
        clear hs1 hs2 HD2 HSC HWO HDP
        by_cases hf : 1023 < s.E.length
        · have g5 : decide (((s.E.length : Nat) : Int) + 1 > 1024) = true := decide_eq_true (by omega)
          obtain ⟨c0, c1, c2, c3⟩ := HP1.out.cells
          go_wp2_with (first
            | (at_delete; refine MapL.drop HP1.out.preps keyedI rfl _ _ 66 26 rfl Tryz.underlying66 rfl rfl (key_ik (t := t) (by have := HT.out; omega)) ?_; intro w7 hm7 hg7; have HG7 := Aside0.mk hg7; have HP7 := Aside0.mk (HP1.out.del hg7 t hm7); clear c0 c1 c2 c3 hm7 hg7; obtain ⟨c0, c1, c2, c3⟩ := HP7.out.cells)
            | (at_builtin; refine Kd.R_append kEnd (w0 := w7) 0 rfl (.tmp 62) (.tmp 66) 67 76 (.agg #[.int .i64 0, .int .i64 0]) 16 rfl Tryz.underlying67 infoE rfl (by decide) (by omega) _ s.E (t, ts) [.int .i64 t, .int .i64 ts] ok (fun _ => False) rfl rfl (kEnd_mkM _ _ _ _) (fun _ hk => hk.elim) (fun j hj => OK1.out j (Nat.le_trans HG7.out.size hj)) HP7.out.ends (Below.refl _ _) (Nat.zero_le _) (by have := HEN.out; omega) ?_; intro v1 w8 ho hb hg hat; obtain ⟨A9, c9, hs9⟩ := Kd.R_slice ho; subst hs9; rw [List.length_append, List.length_singleton] at *; have HE8 := Aside0.mk ho; have HG8 := Aside0.mk hg; have hbx8 := HP7.out.box6 hg; clear ho hb hg hat c0 c1 c2 c3; have c2 := blk_cell hbx8 2; have f2 := blk_frozen hbx8 2; clear hbx8; have P9 := Aside0.mk (HP7.out.ended HG8.out HE8.out (by rw [List.length_append, List.length_singleton]; have := HEN.out; omega)); obtain ⟨A2, hc, hcl⟩ := ends_drop P9.out.ends HEN.out; have HCL := Aside0.mk hcl; clear hcl))
          refine HCL.out.mono ?_
          rintro e w10 ⟨v2, rfl, hv2, hb10⟩
          obtain ⟨A12, c12, hs12⟩ := Kd.R_slice hv2
          subst hs12
          have hln : ((s.E ++ [(t, ts)]).drop 1).length = s.E.length := by rw [List.length_drop, List.length_append, List.length_singleton]; omega
          rw [hln] at hv2 ⊢
          clear hln
          have HV10 := Aside0.mk hv2
          have HB10 := Aside0.mk hb10
          have hbx10 := blk_below P9.out.box hb10
          clear hv2 hb10 c2 f2 HCL hc
          have c2 := blk_cell hbx10 2
          have f2 := blk_frozen hbx10 2
          clear hbx10
          go_wp2_with fail
          go_ret
          have P11 := (P9.out.ended (grownBy_of_below HB10.out _) (R_new HV10.out (fun g hg => OK1.out g (Nat.le_trans (Nat.le_trans HG7.out.size (Chg.ended HP7.out HG8.out _).size) hg))) (by rw [List.length_drop, List.length_append, List.length_singleton]; have := HEN.out; omega))
          exact ⟨by rw [HDV2.out]; rfl, by rw [HDV2.out, endV_full (s := s) hf]; exact ⟨bk, bp, _, fk, _, P11⟩, (((CH1.out.trans (Chg.of_grown HG7.out HP7.out.okp)).trans (Chg.ended HP7.out HG8.out _))).trans (Chg.ended P9.out (grownBy_of_below HB10.out _) _)⟩
        · have g5 : decide (((s.E.length : Nat) : Int) + 1 > 1024) = false := decide_eq_false (by omega)
          obtain ⟨c0, c1, c2, c3⟩ := HP1.out.cells
          go_wp2_with (first
            | (at_delete; refine MapL.drop HP1.out.preps keyedI rfl _ _ 66 26 rfl Tryz.underlying66 rfl rfl (key_ik (t := t) (by have := HT.out; omega)) ?_; intro w7 hm7 hg7; have HG7 := Aside0.mk hg7; have HP7 := Aside0.mk (HP1.out.del hg7 t hm7); clear c0 c1 c2 c3 hm7 hg7; obtain ⟨c0, c1, c2, c3⟩ := HP7.out.cells)
            | (at_builtin; refine Kd.R_append kEnd (w0 := w7) 0 rfl (.tmp 62) (.tmp 66) 67 76 (.agg #[.int .i64 0, .int .i64 0]) 16 rfl Tryz.underlying67 infoE rfl (by decide) (by omega) _ s.E (t, ts) [.int .i64 t, .int .i64 ts] ok (fun _ => False) rfl rfl (kEnd_mkM _ _ _ _) (fun _ hk => hk.elim) (fun j hj => OK1.out j (Nat.le_trans HG7.out.size hj)) HP7.out.ends (Below.refl _ _) (Nat.zero_le _) (by have := HEN.out; omega) ?_; intro v1 w8 ho hb hg hat; obtain ⟨A9, c9, hs9⟩ := Kd.R_slice ho; subst hs9; rw [List.length_append, List.length_singleton] at *; have HE8 := Aside0.mk ho; have HG8 := Aside0.mk hg; have hbx8 := HP7.out.box6 hg; clear ho hb hg hat c0 c1 c2 c3; have c2 := blk_cell hbx8 2; have f2 := blk_frozen hbx8 2; clear hbx8))
          go_ret
          have P9 := HP7.out.ended HG8.out HE8.out (by rw [List.length_append, List.length_singleton]; have := HEN.out; omega)
          exact ⟨by rw [HDV2.out]; rfl, by rw [HDV2.out, endV_few (s := s) hf]; exact ⟨bk, bp, _, fk, _, P9⟩, (CH1.out.trans (Chg.of_grown HG7.out HP7.out.okp)).trans (Chg.ended HP7.out HG8.out _)⟩
end Go.Proofs.YtaldfbmjmpkmmaaGreat.PL
namespace Go.Proofs.YtaldfbmjmpkmmaaGreat.PL
open Go.RowKit Go.Proofs.YtaldfbmjmpkmmaaGreatW.PrintWords Go.Proofs.YtaldfbmjmpkmmaaGreatW.PrintLast Go.Proofs.YtaldfbmjmpkmmaaGreatW.PrintMore Go.Shelf Go.Maps Go.WideMaps Go.Proofs.YtaldfbmjmpkmmaaGreat.Mk
set_option linter.unusedVariables false
set_option linter.unusedSimpArgs false
set_option linter.unusedSectionVars false
/-- A shelf in memory, but for its chains. -/
structure Half (w : World) (ok : Nat → Prop) (b N : Nat) (s : Sh) (bk bp : Nat) (ve : Value) (fp : Lit → Option Value) : Prop where
  box : w.heap[b]? = some (.cells #[.map (some bk), .map (some bp), ve, .int .i64 s.over] 69 (0, 0))
  preps : MapL Tryz.prog 3 w bp N fp
  ends : kEnd.R 76 w 0 ok ve s.E
  pf : ∀ q v, fp q = some v → ∃ r, r ∈ s.P ∧ q = ik r.f1 ∧ ∃ cs, v = .agg cs.toArray ∧ k26.M w 0 ok r cs
section
variable {ok : Nat → Prop} {w w' : World} {b N : Nat} {s : Sh} {bk bp : Nat} {ve : Value} {fk fp : Lit → Option Value}
theorem Half.below (h : Half w ok b N s bk bp ve fp) (hb : Below w.heap.size w w') : Half w' ok b N s bk bp ve fp :=
  ⟨blk_below h.box hb, h.preps.below hb, Kd.R_below h.ends hb, fun q v hq => by
    obtain ⟨r, h1, h2, cs, h3, h4⟩ := h.pf q v hq
    exact ⟨r, h1, h2, cs, h3, Kd.M_below h4 hb⟩⟩
theorem Half.grown {x : Nat} (h : Half w ok b N s bk bp ve fp) (hg : w.grownBy w' (some x)) (hb : ∀ cells q, w.heap[x]? ≠ some (.cells cells q (0, 0))) (hne : x ≠ bp) : Half w' ok b N s bk bp ve fp :=
  ⟨blk_map h.box hg hb, h.preps.kept hg (fun e => hne (by injection e with e; exact e.symm)), R_map h.ends hg hb, fun q v hq => by
    obtain ⟨r, h1, h2, cs, h3, h4⟩ := h.pf q v hq
    exact ⟨r, h1, h2, cs, h3, M_map h4 hg hb⟩⟩
/-- The time is set. -/
theorem Parts.set_over (h : Parts w ok b N s bk bp ve fk fp) (t : Int) : Half (w.setCell ⟨b, 3, none⟩ (.int .i64 t)) ok b N { s with over := t } bk bp ve fp ∧ MapL Tryz.prog 9 (w.setCell ⟨b, 3, none⟩ (.int .i64 t)) bk N fk ∧
    ∀ v l, Kd.R k43 43 w 0 ok v l → Kd.R k43 43 (w.setCell ⟨b, 3, none⟩ (.int .i64 t)) 0 ok v l := by
  have hg := grown_set w ⟨b, 3, none⟩ (.int .i64 t)
  have hbx := h.box
  have hstep : ∀ (g : Nat) (q : TypeId), q ≠ 69 → ∀ cells : Array Value, w.heap[g]? = some (.cells cells q (0, 0)) → (w.setCell ⟨b, 3, none⟩ (.int .i64 t)).heap[g]? = w.heap[g]? := fun g q h2 cells hc =>
    Below.heap_setCell w ⟨b, 3, none⟩ (.int .i64 t) g (fun e => h2 (by
      have e : g = b := e
      subst e
      rw [hbx] at hc
      injection hc with hc
      injection hc with _ hc
      exact hc.symm))
  refine ⟨⟨blk_put h.box 3 _ rfl, h.preps.kept hg (fun e => absurd hbx (by (have e2 : bp = b := by injection e); rw [← e2]; exact h.preps.not_cells)),
    R_keep h.ends (fun g _ q hq cells hc => hstep g q ((by decide : ∀ q, q ∈ 76 :: kEnd.E → q ≠ 69) q hq) cells hc), fun q v hq => ?_⟩,
    h.keys.kept hg (fun e => absurd hbx (by (have e2 : bk = b := by injection e); rw [← e2]; exact h.keys.not_cells)), fun v l hR => R_keep hR (fun g _ q hq cells hc => hstep g q ((by decide : ∀ q, q ∈ 43 :: k43.E → q ≠ 69) q hq) cells hc)⟩
  obtain ⟨r, h1, h2, cs, h3, h4⟩ := h.pf q v hq
  exact ⟨r, h1, h2, cs, h3, M_keep h4 (fun g _ q hq cells hc => hstep g q ((by decide : ∀ q, q ∈ k26.E → q ≠ 69) q hq) cells hc)⟩
/-- The chains, some of which are swept. -/
def SwK (w : World) (ok : Nat → Prop) (K : List (Key × Chain)) (t : Int) (f : Lit → Option Value) (left : Lit → Bool) : Prop :=
  ∀ q v, f q = some v → ∃ k, q = sk k ∧ k ∈ keysK K ∧ Kd.R k43 43 w 0 ok v (if left (sk k) = true then look K k else sweepC (look K k) t)
theorem SwK.map {K : List (Key × Chain)} {t : Int} {f : Lit → Option Value} {left : Lit → Bool} (h : SwK w ok K t f left) {x : Nat} (hg : w.grownBy w' (some x)) (hb : ∀ cells q, w.heap[x]? ≠ some (.cells cells q (0, 0))) : SwK w' ok K t f left := fun q v hq => by
  obtain ⟨k, h1, h2, h3⟩ := h q v hq
  exact ⟨k, h1, h2, R_map h3 hg hb⟩
theorem SwK.below {K : List (Key × Chain)} {t : Int} {f : Lit → Option Value} {left : Lit → Bool} (h : SwK w ok K t f left) (hb : Below w.heap.size w w') : SwK w' ok K t f left := fun q v hq => by
  obtain ⟨k, h1, h2, h3⟩ := h q v hq
  exact ⟨k, h1, h2, Kd.R_below h3 hb⟩
theorem sk_same (k k' : Key) : (sk k).sameKey (sk k') = decide (k = k') := by
  unfold sk
  by_cases e : k = k'
  · subst e
    simp [Lit.sameKey]
  · rw [sameKey_ne (fun h => e (by injection h))]
    simp [e]
theorem SwK.put {K : List (Key × Chain)} {t : Int} {f : Lit → Option Value} {left : Lit → Bool} (h : SwK w ok K t f left) {k : Key} (hk : k ∈ keysK K) {u : Value} (hu : Kd.R k43 43 w 0 ok u (sweepC (look K k) t)) :
    SwK w ok K t (lput f (sk k) u) (fun z => left z && !z.sameKey (sk k)) := fun q v hq => by
  unfold lput at hq
  split at hq
  · rename_i hs
    obtain rfl := Option.some.inj hq
    refine ⟨k, WideAt.sameKey_eq hs, hk, ?_⟩
    show Kd.R _ _ _ _ _ _ (if (left (sk k) && !(sk k).sameKey (sk k)) = true then _ else _)
    rw [sk_same, decide_eq_true rfl, if_neg (by simp)]
    exact hu
  · rename_i hs
    obtain ⟨k', h1, h2, h3⟩ := h q v hq
    refine ⟨k', h1, h2, ?_⟩
    have : (sk k').sameKey (sk k) = false := by rw [← h1]; simpa using hs
    show Kd.R _ _ _ _ _ _ (if (left (sk k') && !(sk k').sameKey (sk k)) = true then _ else _)
    rw [this]
    simpa using h3
def isNone (_ : Lit) (v : Value) : Bool := match v with | .slice _ n _ => n == 0 | _ => false
/-- All are swept, and the empty ones struck. -/
theorem Half.whole {t : Int} (h : Half w ok b N { s with over := t } bk bp ve fp) (hg : ShOk s) (ht : 0 ≤ t ∧ t ≤ 1125899906842624) {f : Lit → Option Value} {left : Lit → Bool} (hs : SwK w ok s.K t f left) (hl : ∀ q, left q = false) (hi : ∀ k, k ∈ keysK s.K → (f (sk k)).isSome = true)
    (hm : MapL Tryz.prog 9 w bk N (strikeF f isNone)) (hpt : ∀ r, r ∈ s.P → (fp (ik r.f1)).isSome = true) (okb : ok b) (okk : ok bk) (okp : ok bp) (ne : bk ≠ bp) : Parts w ok b N { s with over := t, K := sweepK s.K t } bk bp ve (strikeF f isNone) fp :=
  have hval : ∀ k v, f (sk k) = some v → Kd.R k43 43 w 0 ok v (sweepC (look s.K k) t) ∧ ∃ A c, v = .slice A (sweepC (look s.K k) t).length c := fun k v hv => by
    obtain ⟨k', h1, h2, h3⟩ := hs _ v hv
    have : k = k' := by
      unfold sk at h1
      injection h1
    subst this
    rw [hl, if_neg (by simp)] at h3
    obtain ⟨A, c, e, _, _⟩ := Kd.R_reads h3
    exact ⟨h3, A, c, e⟩
  have hok : KOk (sweepK s.K t) := hg.keys.sweep t
  ⟨h.box, hm, h.preps, h.ends, fun q v hq => by
    unfold strikeF at hq
    split at hq
    · rename_i v' hv'
      split at hq
      · cases hq
      · rename_i hn
        obtain rfl := Option.some.inj hq
        obtain ⟨k, rfl, _, _⟩ := hs q v' hv'
        obtain ⟨h1, A, c, h2⟩ := hval k v' hv'
        refine ⟨k, rfl, ?_, by show Kd.R k43 43 w 0 ok v' (look (sweepK s.K t) k); rw [look_sweep hg.keys.rise]; exact h1⟩
        show k ∈ keysK (sweepK s.K t)
        by_cases hk : k ∈ keysK (sweepK s.K t)
        · exact hk
        · have e := (hok.iff k).2 hk
          rw [look_sweep hg.keys.rise] at e
          rw [h2, e] at hn
          exact absurd rfl hn
    · exact absurd hq (by simp), fun k hk => by
    have hk : k ∈ keysK (sweepK s.K t) := hk
    have hne : look (sweepK s.K t) k ≠ [] := fun e => (hok.iff k).1 e hk
    rw [look_sweep hg.keys.rise] at hne
    have hks : k ∈ keysK s.K := by
      by_cases hks : k ∈ keysK s.K
      · exact hks
      · rw [look_none hks] at hne
        exact absurd (by unfold sweepC; simp) hne
    obtain ⟨v, hv⟩ := Option.isSome_iff_exists.1 (hi k hks)
    obtain ⟨_, A, c, h2⟩ := hval k v hv
    unfold strikeF
    rw [hv]
    simp only
    rw [if_neg (by rw [h2]; simp [isNone, hne])]
    rfl, h.pf, hpt, okb, okk, okp, ne, ⟨hok, hg.rise, hg.few, hg.recs, hg.ends, ht⟩⟩
end
set_option maxRecDepth 100000 in
theorem sweep1_walk (W : World) (key : Value) (A : Option Addr) (n c : Nat) :
    Calls Tryz.prog 79 #[key, .slice A n c] W fun e W' => e = .returned (.bool (n == 0)) ∧ W' = W := by
  have HV : Aside0 ((((n : Nat) : Int) == 0) = (n == 0)) := ⟨by rw [Bool.eq_iff_iff, beq_iff_eq, beq_iff_eq]; omega⟩
  generalize (n == 0) = q at *
  go_enter Tryz.func79, Tryz.ntmps79
  go_wp2
  go_ret
  exact ⟨by rw [← HV.out]; rfl, rfl⟩
set_option maxRecDepth 100000 in
set_option maxHeartbeats 8000000 in
theorem sweep_walk {w : World} {ok : Nat → Prop} {b N : Nat} {s : Sh} (h : ShAt w ok b N s) (hok : ∀ g, w.heap.size ≤ g → ok g) (hN : N < maxLen) (t : Int) (ht : t ≤ 1125899906842624) :
    Calls Tryz.prog 35 #[.pointer (some ⟨b, 0, none⟩), .int .i64 t] w fun e w' => e = .returned (.int .i64 (sweepV s t).1) ∧ ShAt w' ok b N (sweepV s t).2 ∧ Chg ok w w' := by
  obtain ⟨bk, bp, ve, fk, fp, hp⟩ := h
  have HP := Aside0.mk hp
  have HSV : Aside0 (sweepV s t = if t < s.over then (110, s) else (0, { s with over := t, K := sweepK s.K t })) := ⟨rfl⟩
  have HOK := Aside0.mk hok
  have HNN := Aside0.mk hN
  have HT := Aside0.mk ht
  obtain ⟨c0, c1, c2, c3⟩ := hp.cells
  have f3 := blk_frozen hp.box 3
  clear hp hok hN ht
  by_cases ho : t < s.over
  · have HS2 : Aside0 (sweepV s t = (110, s)) := ⟨by rw [HSV.out, if_pos ho]⟩
    go_enter Tryz.func35, Tryz.ntmps35
    go_wp2_with fail
    go_ret
    exact ⟨by rw [HS2.out]; rfl, by rw [HS2.out]; exact ⟨bk, bp, ve, fk, fp, HP.out⟩, Chg.of_below (Below.refl _ _)⟩
  · have HS2 : Aside0 (sweepV s t = (0, { s with over := t, K := sweepK s.K t })) := ⟨by rw [HSV.out, if_neg ho]⟩
    have HO : Aside0 (0 ≤ t) := ⟨by have := HP.out.good.over; omega⟩
    obtain ⟨h1, hk1, hr1⟩ := HP.out.set_over t
    have H1 := Aside0.mk h1
    have HK1 := Aside0.mk hk1
    have HSW : Aside0 (SwK (w.setCell ⟨b, 3, none⟩ (.int .i64 t)) ok s.K t fk (fun q => (fk q).isSome)) := ⟨fun q v hq => by
      obtain ⟨k, e1, e2, e3⟩ := HP.out.kf q v hq
      refine ⟨k, e1, e2, ?_⟩
      rw [if_pos (by show (fk (sk k)).isSome = true; rw [← e1, hq]; rfl)]
      exact hr1 v _ e3⟩
    have CH1 : Aside0 (Chg ok w (w.setCell ⟨b, 3, none⟩ (.int .i64 t))) := ⟨Chg.of_grown (grown_set w ⟨b, 3, none⟩ _) HP.out.okb⟩
    have e0 := (blk_cell h1.box 0).trans rfl
    clear HSV h1 hk1 hr1 c1 c2
    go_enter Tryz.func35, Tryz.ntmps35
    go_wp2_with (at_range; refine MapL.range HK1.out keyedS rfl _ 65 74 rfl Tryz.underlying65 rfl ?_; intro w2 cnt0 hrg0 hb0 hsz0)
    have hsz : (w.setCell ⟨b, 3, none⟩ (.int .i64 t)).heap.size = w.heap.size := by simp [World.setCell]
    rw [hsz] at hrg0
    have HRG0 := Aside0.mk hrg0
    have HF0 := Aside0.mk (H1.out.below hb0)
    have HSW0 := Aside0.mk (HSW.out.below hb0)
    have CH0 : Aside0 (Chg ok w w2) := ⟨CH1.out.trans (Chg.of_below hb0)⟩
    have NE : Aside0 (w.heap.size ≠ bp) := ⟨by have := HP.out.preps.lt; omega⟩
    have OKI : Aside0 (ok w.heap.size) := ⟨HOK.out _ (Nat.le_refl _)⟩
    clear hrg0 hb0 hsz0 hsz H1 HK1 HSW CH1 e0 c0 c3 f3
    go_loopw [22] (fun _ wz => ∃ f left cnt, Aside0 (RangeL Tryz.prog 9 wz bk w.heap.size N f left cnt) ∧ Aside0 (SwK wz ok s.K t f left) ∧ Aside0 (∀ q, (f q).isSome = (fk q).isSome) ∧ Aside0 (Half wz ok b N { s with over := t } bk bp ve fp) ∧ Aside0 (Chg ok w wz))
      (fun _ wz => wz.rangeLeft bk w.heap.size)
    case atStart => exact ⟨_, _, _, HRG0, HSW0, ⟨fun _ => rfl⟩, HF0, CH0⟩
    case round =>
      clear HRG0 HSW0 HF0 CH0
      obtain ⟨f, left, cnt, HRG, HSK, HIS, HH, HCH⟩ := hrel
      have e0 := (blk_cell HH.out.box 0).trans rfl
      have HLE := Aside0.mk HRG.out.left_eq
      go_wp2_with (at_next; refine RangeL.next HRG.out keyedS rfl _ rfl rfl ?_ ?_)
      · intro _ hl0
        have HL0 := Aside0.mk hl0
        clear hl0
        have hst := MapL.strike Tryz.delK keyedS HRG.out.map (fun v => ∃ A n c, v = .slice A n c) (fun q v hq => by
          obtain ⟨k, _, _, h3⟩ := HSK.out q v hq
          obtain ⟨A, c, e, _, _⟩ := Kd.R_reads h3
          exact ⟨A, _, c, e⟩) isNone 79 #[] (enters_of Tryz.func79 (by kernel_rfl) rfl) (fun W key val q hg hk hv => by
          obtain ⟨A, n, c, rfl⟩ := hv
          refine (sweep1_walk W key A n c).mono ?_
          rintro e w' ⟨h1, rfl⟩
          exact ⟨h1, ⟨rfl, rfl, rfl, Nat.le_refl _, fun _ _ _ => rfl⟩⟩)
        change Calls Tryz.prog 78 _ _ _ at hst
        have HST := Aside0.mk hst
        clear hst
        go_wp2_with fail
        refine HST.out.mono ?_
        rintro e w4 ⟨rfl, hm4, hg4⟩
        have HM4 := Aside0.mk hm4
        have HG4 := Aside0.mk hg4
        clear hm4 hg4 e0
        go_wp2_with fail
        go_ret
        have hb : ∀ cells q, wr.heap[bk]? ≠ some (.cells cells q (0, 0)) := fun cells q => HRG.out.map.not_cells
        exact ⟨by rw [HS2.out]; rfl, by rw [HS2.out]; exact ⟨bk, bp, ve, _, fp, (HH.out.grown HG4.out hb HP.out.ne).whole HP.out.good ⟨HO.out, HT.out⟩ (HSK.out.map HG4.out hb) HL0.out (fun k hk => by rw [HIS.out]; exact HP.out.kt k hk) HM4.out HP.out.pt HP.out.okb HP.out.okk HP.out.okp HP.out.ne⟩, HCH.out.trans (Chg.of_grown HG4.out HP.out.okk)⟩
      · intro key q v w3 cnt2 hkey hlq hfv hrg2 hlt hg2 hs2 hen
        obtain ⟨k, rfl, hk, hR⟩ := HSK.out q v hfv
        rw [if_pos hlq] at hR
        have hbi : ∀ cells q, wr.heap[w.heap.size]? ≠ some (.cells cells q (0, 0)) := fun cells q => HRG.out.not_cells
        have hR3 := R_map hR hg2 hbi
        have HSK3 := Aside0.mk (HSK.out.map hg2 hbi)
        have HH3 := Aside0.mk (HH.out.grown hg2 hbi NE.out)
        have CH3 : Aside0 (Chg ok w w3) := ⟨HCH.out.trans (Chg.of_grown hg2 OKI.out)⟩
        obtain ⟨A, c, rfl, hle, hC⟩ := Kd.R_reads hR3
        have hco := HP.out.good.keys.look k
        have HSWP : Aside0 (∀ W, Below w3.heap.size w3 W → Calls Tryz.prog 77 #[.slice A (look s.K k).length c, .int .i64 t] W fun e w' => ∃ v, e = .returned (.tuple #[v, .int .i64 0]) ∧ Kd.R k43 43 w' W.heap.size (fun _ => True) v (sweepC (look s.K k) t) ∧ Below W.heap.size W w') := ⟨fun W hW => sweepC_walk W A c (look s.K k) t (Kd.C_below hC hW) hle hco⟩
        have HKEY := Aside0.mk hkey
        have HRG3 := Aside0.mk hrg2
        have HLT := Aside0.mk hlt
        have HIQ : Aside0 ((f (sk k)).isSome = true) := ⟨by rw [hfv]; rfl⟩
        have HKK := Aside0.mk hk
        have HBX := Aside0.mk HH3.out.box
        clear hkey hlq hfv hrg2 hlt hg2 hs2 hR hR3 hle hC hco hbi hk e0
        have e0 := (blk_cell HBX.out 0).trans rfl
        generalize hch : look s.K k = ch at *
        have HCHQ := Aside0.mk hch
        clear hch
        go_wp2_with fail
        go_region_held3 (fun w' => w'.cell? ⟨b, 0, none⟩ = some (.map (some bk))) (first | exact e0 | exact d0 | exact g0)
          (first
            | (go_simp; go_at_call 77; refine (HSWP.out _ (by repeat (first | exact Below.refl _ _ | apply below_drew1))).mono ?_; rintro e w5 ⟨u, rfl, hu, hb5⟩; have HU := Aside0.mk hu; have HB5 := Aside0.mk hb5; have HR5 := Aside0.mk ((HRG3.out.below (below_drew1 (Below.refl _ _))).below hb5); obtain ⟨w6, hrun, hr6, hg6⟩ := RangeL.put_ HR5.out keyedS Tryz.underlying65 HNN.out HKEY.out u HIQ.out; have HR6 := Aside0.mk hr6; have HG6 := Aside0.mk hg6; have hb6 := blk_map (blk_below (blk_drew HBX.out) hb5) hg6 (fun _ _ => HR5.out.map.not_cells); have d0 := (blk_cell (blk_below (blk_drew HBX.out) hb5) 0).trans rfl; have g0 := (blk_cell hb6 0).trans rfl; clear hu hr6 hg6 hb6 hb5))
        all_goals (try go_wp2_with fail)
        have B5 : Aside0 (Below w3.heap.size w3 w5) := ⟨(below_drew1 (Below.refl w3.heap.size w3)).trans (HB5.out.mono (below_drew1 (Below.refl w3.heap.size w3)).size)⟩
        have hb : ∀ cells q, w5.heap[bk]? ≠ some (.cells cells q (0, 0)) := fun cells q => HR5.out.map.not_cells
        have hu5 := R_new (ok := ok) HU.out (fun g hg => HOK.out g (Nat.le_trans CH3.out.size (Nat.le_trans (below_drew1 (Below.refl w3.heap.size w3)).size hg)))
        rw [← HCHQ.out] at hu5
        have SK6 := Aside0.mk (((HSK3.out.below B5.out).put HKK.out hu5).map HG6.out hb)
        have H6 := Aside0.mk ((HH3.out.below B5.out).grown HG6.out hb HP.out.ne)
        have CH6 : Aside0 (Chg ok w w6) := ⟨(CH3.out.trans (Chg.of_below B5.out)).trans (Chg.of_grown HG6.out HP.out.okk)⟩
        have IS6 : Aside0 (∀ x, (lput f (sk k) u x).isSome = (fk x).isSome) := ⟨fun x => by
          rw [← HIS.out]
          unfold lput
          split
          · rename_i hs
            rw [WideAt.sameKey_eq hs, HIQ.out]
            rfl
          · rfl⟩
        clear hb hu5
        go_roundw
        case rel => exact ⟨_, _, _, HR6, SK6, IS6, H6, CH6⟩
        case measure => rw [HR6.out.left_eq, HLE.out]; exact HLT.out
end Go.Proofs.YtaldfbmjmpkmmaaGreat.PL
