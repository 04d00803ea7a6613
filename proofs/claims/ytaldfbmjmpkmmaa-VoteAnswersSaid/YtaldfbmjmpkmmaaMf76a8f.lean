/- Texts of this proof, one behind the other (merged by a program of this session). -/
import Derived.Test.YtaldfbmjmpkmmaaM91f659
import Derived.Test.YtaldfbmjmpkmmaaM65850b
import Derived.Test.YtaldfbmjmpkmmaaM01c97f
import Derived.Test.YtaldfbmjmpkmmaaHShP
namespace Go.Proofs.Ytaldfbmjmpkmmaa.PL
open Go.RowKit Go.Proofs.YtaldfbmjmpkmmaaW.PrintWords Go.Proofs.YtaldfbmjmpkmmaaW.PrintLast Go.Proofs.YtaldfbmjmpkmmaaW.PrintMore
attribute [local go_sem] Mk.str_leq Mk.str_gtr Mk.str_geq max2_int min2_int max_two min_two max_three min_three max_four min_four   -- for this text's walks alone
set_option linter.unusedVariables false
set_option linter.unusedSimpArgs false

/-! ### chain_Last: function 91 -/
def chain_Last.f (k : Nat) (l0 : List (S29)) : Option (Int × Int) := (chain_Check.f k l0).bind fun bt117 => (if bt117.2 = 0 then (if (l0.length : Int) = 0 then (some (0, bt117.2)) else (if 0 ≤ (wrap64 ((l0.length : Int) - 1)) then (if (wrap64 ((l0.length : Int) - 1)) < (l0.length : Int) then (some ((rd_T29 l0 (wrap64 ((l0.length : Int) - 1))).f0, 0)) else (none)) else (none))) else (some (0, bt117.2)))
theorem chain_Last.mono : ∀ a0 k, LeO (chain_Last.f k a0) (chain_Last.f (k + 1) a0) := by
 intro a0 k
 unfold chain_Last.f
 repeat' first
  | (with_reducible exact chain_Check.mono _ _)
  | (with_reducible exact LeO.refl _)
  | (with_reducible exact LeO.none _)
  | (with_reducible refine LeO.ite ?_ ?_)
  | (with_reducible refine LeO.bind ?_ (fun _ => ?_))
  | exact chain_Check.mono _ _
  | exact LeO.none _
  | refine LeO.ite ?_ ?_
  | refine LeO.bind ?_ (fun _ => ?_)
set_option maxHeartbeats 8000000 in
set_option maxRecDepth 100000 in
theorem chain_Last.calls (k : Nat) (A0 : Option Addr) (c0 : Nat) (l0 : List (S29)) (r1 : Int) (r2 : Int) (w : World) (hr0 : Kd.C k29 w A0 l0.length l0) (hc0 : l0.length ≤ c0) (h : chain_Last.f k l0 = some (r1, r2)) :
 Calls Try.prog 91 #[.slice A0 l0.length c0] w fun e w' => e = .returned (.tuple #[.int .i64 r1, .int .i64 r2]) ∧ Below w.heap.size w w' := by
 have HR0 := Aside0.mk hr0
 have HC0 := Aside0.mk hc0
 clear hr0 hc0
 have HB := Aside0.mk (Below.refl w.heap.size w)
 have H : ((chain_Check.f k l0).bind fun bt117 => (if bt117.2 = 0 then (if (l0.length : Int) = 0 then (some (0, bt117.2)) else (if 0 ≤ (wrap64 ((l0.length : Int) - 1)) then (if (wrap64 ((l0.length : Int) - 1)) < (l0.length : Int) then (some ((rd_T29 l0 (wrap64 ((l0.length : Int) - 1))).f0, 0)) else (none)) else (none))) else (some (0, bt117.2)))) = some (r1, r2) := h
 clear h
 replace H := Option.bind_eq_some_iff.mp H
 obtain ⟨⟨t117, t118⟩, A20, H⟩ := H
 replace H : (if t118 = 0 then (if (l0.length : Int) = 0 then (some (0, t118)) else (if 0 ≤ (wrap64 ((l0.length : Int) - 1)) then (if (wrap64 ((l0.length : Int) - 1)) < (l0.length : Int) then (some ((rd_T29 l0 (wrap64 ((l0.length : Int) - 1))).f0, 0)) else (none)) else (none))) else (some (0, t118))) = some (r1, r2) := H
 have A2 := Aside0.mk A20
 clear A20
 by_cases c3 : t118 = 0
 ·rw [if_pos c3] at H
  have c3b0 : (t118 == 0) = true := beq_iff_eq.mpr c3
  have c3b1 : (t118 != 0) = false := bne_eq_false_iff_eq.mpr c3
  clear c3
  by_cases c4 : (l0.length : Int) = 0
  ·rw [if_pos c4] at H
   have c4b0 : ((l0.length : Int) == 0) = true := beq_iff_eq.mpr c4
   have c4b1 : ((l0.length : Int) != 0) = false := bne_eq_false_iff_eq.mpr c4
   clear c4
   simp only [Option.some.injEq, Prod.mk.injEq] at H
   obtain ⟨rfl, rfl⟩ := H
   go_enter Try.func91, Try.ntmps91
   go_wp2_with (first | ((with_reducible refine gate_callee (f := 71) rfl ?_); refine goesL_ (some 8) rfl rfl Try.func71 (by kernel_rfl) rfl #[.slice A0 l0.length c0] rfl (by (try simp only [List.map_toArray, List.map_cons, List.map_nil]); first | done | rfl | (simp only [List.length_drop, List.length_take]; rfl)) ?_; (with_reducible refine (chain_Check.calls k _ _ l0 t117 t118 _ ?side1 ?side2 A2.out).mono ?_); (case side1 => repeat (first | exact HR0.out | (with_reducible refine Kd.C_alloc ?_ _) | (with_reducible refine Kd.C_drewN ?_ _) | (with_reducible refine Kd.C_drew ?_))); (case side2 => exact HC0.out); rintro e w5 ⟨rfl, hb⟩; refine ⟨_, rfl, ?_⟩; have n0_ := Aside0.mk (below_step (by repeat (first | (with_reducible first | exact HB.out | apply below_alloc | apply pw_below_drewN | apply below_drew1) | exact HB.out)) hb); clear HB; have HB := n0_; clear n0_; (try clear hb); (try clear hb2); (try clear hk); (try clear hi)))
   go_ret2
   exact ⟨by first | rfl | (simp [errW_none, errW_some] <;> rfl) | (simp [*, errW_none, errW_some] <;> rfl), by repeat (first | (with_reducible first | exact HB.out | apply below_alloc | apply pw_below_drewN | apply below_drew1) | exact HB.out)⟩
  ·rw [if_neg c4] at H
   have c4b0 : ((l0.length : Int) == 0) = false := beq_eq_false_iff_ne.mpr c4
   have c4b1 : ((l0.length : Int) != 0) = true := bne_iff_ne.mpr c4
   have c4b2 : ¬ (l0 = []) := fun h_ => c4 (by rw [h_]; rfl)
   obtain ⟨ji6, hji6⟩ : ∃ j_ : Int, (wrap64 ((l0.length : Int) - 1)) = j_ := ⟨_, rfl⟩
   replace H : (if 0 ≤ (ji6) then (if (ji6) < (l0.length : Int) then (some ((rd_T29 l0 (ji6)).f0, 0)) else (none)) else (none)) = some (r1, r2) := by first | (rw [hji6] at H; exact H) | (simp only [hji6] at H ⊢; exact H)
   (try rw [hji6] at A2)
   have hji6w : (IntKind.i64.wrap ((l0.length : Int) - 1)) = ji6 := (i64_w _).trans hji6
   by_cases c7 : 0 ≤ (ji6)
   ·rw [if_pos c7] at H
    have c7b0 : decide (0 ≤ (ji6)) = true := decide_eq_true c7
    clear c7
    by_cases c8 : (ji6) < (l0.length : Int)
    ·rw [if_pos c8] at H
     have c8b0 : decide ((ji6) < (l0.length : Int)) = true := decide_eq_true c8
     clear c8
     simp only [Option.some.injEq, Prod.mk.injEq] at H
     obtain ⟨rfl, rfl⟩ := H
     go_enter Try.func91, Try.ntmps91
     go_wp2_with (first | ((with_reducible refine gate_callee (f := 71) rfl ?_); refine goesL_ (some 8) rfl rfl Try.func71 (by kernel_rfl) rfl #[.slice A0 l0.length c0] rfl (by (try simp only [List.map_toArray, List.map_cons, List.map_nil]); first | done | rfl | (simp only [List.length_drop, List.length_take]; rfl)) ?_; (with_reducible refine (chain_Check.calls k _ _ l0 t117 t118 _ ?side1 ?side2 A2.out).mono ?_); (case side1 => repeat (first | exact HR0.out | (with_reducible refine Kd.C_alloc ?_ _) | (with_reducible refine Kd.C_drewN ?_ _) | (with_reducible refine Kd.C_drew ?_))); (case side2 => exact HC0.out); rintro e w9 ⟨rfl, hb⟩; refine ⟨_, rfl, ?_⟩; have n0_ := Aside0.mk (below_step (by repeat (first | (with_reducible first | exact HB.out | apply below_alloc | apply pw_below_drewN | apply below_drew1) | exact HB.out)) hb); clear HB; have HB := n0_; clear n0_; (try clear hb); (try clear hb2); (try clear hk); (try clear hi); have p119 : 0 ≤ ((ji6) : Int) := of_decide_eq_true (by first | (with_reducible assumption) | assumption); have q119 : (ji6) < (l0.length : Int) := of_decide_eq_true (by first | (with_reducible assumption) | assumption); obtain ⟨ad119, e119, hx119_0, hx119_1, hx119_2⟩ := at_T29 HR0.out (ji6) p119 q119; cases e119; replace hx119_0 := (HB.out.cell (World.block_lt_of_cell? w _ hx119_0)).trans hx119_0; replace hx119_1 := (HB.out.cell (World.block_lt_of_cell? w _ hx119_1)).trans hx119_1; replace hx119_2 := (HB.out.cell (World.block_lt_of_cell? w _ hx119_2)).trans hx119_2; replace p119 := eq_true p119; replace q119 := eq_true q119))
     go_ret2
     exact ⟨by first | rfl | (simp [errW_none, errW_some] <;> rfl) | (simp only [← hji6]; first | rfl | (simp [errW_none, errW_some] <;> rfl)) | (simp [*, errW_none, errW_some] <;> rfl), by repeat (first | (with_reducible first | exact HB.out | apply below_alloc | apply pw_below_drewN | apply below_drew1) | exact HB.out)⟩
    ·rw [if_neg c8] at H
     exact absurd H (by simp)
   ·rw [if_neg c7] at H
    exact absurd H (by simp)
 ·rw [if_neg c3] at H
  have c3b0 : (t118 == 0) = false := beq_eq_false_iff_ne.mpr c3
  have c3b1 : (t118 != 0) = true := bne_iff_ne.mpr c3
  simp only [Option.some.injEq, Prod.mk.injEq] at H
  obtain ⟨rfl, rfl⟩ := H
  go_enter Try.func91, Try.ntmps91
  go_wp2_with (first | ((with_reducible refine gate_callee (f := 71) rfl ?_); refine goesL_ (some 8) rfl rfl Try.func71 (by kernel_rfl) rfl #[.slice A0 l0.length c0] rfl (by (try simp only [List.map_toArray, List.map_cons, List.map_nil]); first | done | rfl | (simp only [List.length_drop, List.length_take]; rfl)) ?_; (with_reducible refine (chain_Check.calls k _ _ l0 t117 t118 _ ?side1 ?side2 A2.out).mono ?_); (case side1 => repeat (first | exact HR0.out | (with_reducible refine Kd.C_alloc ?_ _) | (with_reducible refine Kd.C_drewN ?_ _) | (with_reducible refine Kd.C_drew ?_))); (case side2 => exact HC0.out); rintro e w10 ⟨rfl, hb⟩; refine ⟨_, rfl, ?_⟩; have n0_ := Aside0.mk (below_step (by repeat (first | (with_reducible first | exact HB.out | apply below_alloc | apply pw_below_drewN | apply below_drew1) | exact HB.out)) hb); clear HB; have HB := n0_; clear n0_; (try clear hb); (try clear hb2); (try clear hk); (try clear hi)))
  go_ret2
  exact ⟨by first | rfl | (simp [errW_none, errW_some] <;> rfl) | (simp [*, errW_none, errW_some] <;> rfl), by repeat (first | (with_reducible first | exact HB.out | apply below_alloc | apply pw_below_drewN | apply below_drew1) | exact HB.out)⟩

end Go.Proofs.Ytaldfbmjmpkmmaa.PL
namespace Go.Proofs.Ytaldfbmjmpkmmaa.PL
open Go.RowKit Go.Proofs.YtaldfbmjmpkmmaaW.PrintWords Go.Proofs.YtaldfbmjmpkmmaaW.PrintLast Go.Proofs.YtaldfbmjmpkmmaaW.PrintMore Go.Shelf Go.Sort
set_option linter.unusedVariables false
set_option linter.unusedSimpArgs false
theorem rdV_nat (l : Chain) (i : Nat) (h : i < l.length) : rd_T29 l (i : Int) = l[i] := by
 unfold rd_T29; simp [List.getElem?_eq_getElem h]
theorem rdV_getD (l : Chain) (i : Nat) (h : i < l.length) : rd_T29 l (i : Int) = l.getD i zVer := by
 rw [rdV_nat l i h]; simp [List.getElem?_eq_getElem h]
theorem chk_from (l : Chain) (hv : ∀ v ∈ l, VerOk v) (hl : l.length ≤ 1024) (hr : l.Pairwise (fun x y => x.f0 < y.f0)) (d : Nat) : ∀ (k i : Nat) (last : Int), i + d = l.length → 3 * d < k → (∀ v ∈ l.drop i, last < v.f0) →
 chain_Check.l0 k last l (l.length : Int) (i : Int) = some (0, 0) := by
 induction d with
 | zero =>
  intro k i last hd hk _
  obtain ⟨k, rfl⟩ : ∃ m, k = m + 1 := ⟨k - 1, by omega⟩
  simp only [chain_Check.l0]
  rw [if_neg (by omega)]
 | succ d ih =>
  intro k i last hd hk hlast
  obtain ⟨k, rfl⟩ : ∃ m, k = m + 1 + 1 + 1 := ⟨k - 3, by omega⟩
  have hi : i < l.length := by omega
  obtain ⟨v1, v2, v3, v4⟩ := hv l[i] (List.getElem_mem hi)
  have hd2 : l.drop i = l[i] :: l.drop (i + 1) := List.drop_eq_getElem_cons hi
  have h0 : last < l[i].f0 := hlast l[i] (by rw [hd2]; exact List.mem_cons_self)
  have e3 : wrap64 ((i : Int) + 1) = ((i + 1 : Nat) : Int) := by rw [w64 _ (by omega) (by omega)]; omega
  have hnext : ∀ v ∈ l.drop (i + 1), l[i].f0 < v.f0 := fun v hv => by
   have := hr.sublist (List.drop_sublist i l)
   rw [hd2] at this
   exact (List.pairwise_cons.1 this).1 v hv
  have ih2 := ih k (i + 1) l[i].f0 (by omega) (by omega) hnext
  simp only [chain_Check.l0]
  rw [if_pos (by omega), if_pos (by omega), if_pos (by omega), rdV_nat l i hi, if_neg (by omega)]
  simp only [chain_Check.j1]
  rw [if_neg (by simp; omega), if_neg (by omega)]
  cases hdd : l[i].f2 with
  | true =>
   have hs : (l[i].f1.toList != ([] : List UInt8)) = false := by rw [v4 hdd]; rfl
   rw [if_pos rfl, hs]
   simp only [chain_Check.j2]
   rw [if_neg (by simp), if_neg (by omega), e3]
   exact ih2
  | false =>
   rw [if_neg (by simp)]
   simp only [chain_Check.j2]
   rw [if_neg (by simp), if_neg (by omega), e3]
   exact ih2
theorem chk_f {l : Chain} (h : ChainOk l) : chain_Check.f 4000 l = some (0, 0) := by
 have hl := h.len
 unfold chain_Check.f
 rw [if_neg (by omega)]
 exact chk_from l h.ver h.len h.rise l.length 4000 0 0 (by omega) (by omega) (fun v hv => by
  have := (h.ver v (List.mem_of_mem_drop hv)).1
  omega)
theorem last_f {l : Chain} (h : ChainOk l) : chain_Last.f 4000 l = some (lastV l, 0) := by
 have hl := h.len
 unfold chain_Last.f
 rw [chk_f h, Option.bind_some]
 simp only
 rw [if_pos trivial]
 by_cases h0 : l.length = 0
 ·obtain rfl := List.eq_nil_of_length_eq_zero h0
  rw [if_pos (by simp)]
  rfl
 ·have e : wrap64 ((l.length : Int) - 1) = ((l.length - 1 : Nat) : Int) := by rw [w64 _ (by omega) (by omega)]; omega
  rw [if_neg (by omega), e, if_pos (by omega), if_pos (by omega), rdV_nat l _ (by omega)]
  unfold lastV
  rw [List.getLast?_eq_getElem?, List.getElem?_eq_getElem (by omega)]
  rfl
theorem cnt_until (t : Int) : ∀ (l : Chain), l.Pairwise (fun x y => x.f0 < y.f0) → (List.range l.length).countP (fun i => !decide (t < (l.getD i zVer).f0)) = untilV l t
 | [], _ => rfl
 | v :: r, h => by
  obtain ⟨h1, h2⟩ := List.pairwise_cons.1 h
  rw [List.length_cons, List.range_succ_eq_map, List.countP_cons, List.countP_map, until_cons]
  have e : ((fun i => !decide (t < ((v :: r).getD i zVer).f0)) ∘ Nat.succ) = (fun i => !decide (t < (r.getD i zVer).f0)) := by
   funext i
   simp
  rw [e, cnt_until t r h2]
  by_cases hv : v.f0 ≤ t
  ·rw [if_pos hv, if_pos (by simpa using hv)]
  ·rw [if_neg hv, if_neg (by simpa using hv)]
   have : untilV r t = 0 := by
    cases r with
    | nil => rfl
    | cons u r =>
     have := h1 u List.mem_cons_self
     rw [until_cons, if_neg (by omega)]
   omega
set_option maxRecDepth 100000 in
theorem until1_walk (W : World) (bl bt : Nat) (A : Option Addr) (c : Nat) (l : Chain) (t : Int) (i : Nat) (hi : i < l.length) (hl : W.cell? ⟨bl, 0, none⟩ = some (.slice A l.length c)) (ht : W.cell? ⟨bt, 0, none⟩ = some (.int .i64 t)) (hc : Kd.C k29 W A l.length l) :
 Calls Try.prog 111 (#[.int .i64 (i : Int)] ++ #[.pointer (some ⟨bl, 0, none⟩), .pointer (some ⟨bt, 0, none⟩)]) W fun e w' => e = .returned (.bool (decide (t < (l.getD i zVer).f0))) ∧ ∃ q, w' = W.drewN q := by
 obtain ⟨ad, rfl, c0, c1, c2⟩ := at_T29 hc (i : Int) (by omega) (by omega)
 have hm := Kd.C_max hc
 rw [rdV_getD l i hi, Int.toNat_natCast] at c0
 have hu := Try.underlying29
 generalize l.getD i zVer = v at *
 clear c1 c2 hc
 show Calls Try.prog 111 #[.int .i64 (i : Int), .pointer (some ⟨bl, 0, none⟩), .pointer (some ⟨bt, 0, none⟩)] W _
 go_enter Try.func111, Try.ntmps111
 go_wp2_with fail
 go_quiet (fail)
 all_goals (try go_wp2)
 go_ret
 exact ⟨rfl, _, rfl⟩
theorem last_walk (w : World) (A : Option Addr) (c : Nat) (l : Chain) (hr : Kd.C k29 w A l.length l) (hc : l.length ≤ c) (h : ChainOk l) :
 Calls Try.prog 91 #[.slice A l.length c] w fun e w' => e = .returned (.tuple #[.int .i64 (lastV l), .int .i64 0]) ∧ Below w.heap.size w w' := chain_Last.calls 4000 A c l _ _ w hr hc (last_f h)
theorem check_walk (w : World) (A : Option Addr) (c : Nat) (l : Chain) (hr : Kd.C k29 w A l.length l) (hc : l.length ≤ c) (h : ChainOk l) :
 Calls Try.prog 71 #[.slice A l.length c] w fun e w' => e = .returned (.tuple #[.int .i64 0, .int .i64 0]) ∧ Below w.heap.size w w' := chain_Check.calls 4000 A c l _ _ w hr hc (chk_f h)
theorem until_mono2 (l : Chain) (t : Int) (h : l.Pairwise (fun x y => x.f0 < y.f0)) (a b : Nat) (hab : a ≤ b) (hb : b < l.length) (ha : decide (t < (l.getD a zVer).f0) = true) : decide (t < (l.getD b zVer).f0) = true := by
 rcases Nat.eq_or_lt_of_le hab with rfl | hlt
 ·exact ha
 ·have h1 : l.getD a zVer = l[a] := by simp [List.getElem?_eq_getElem (show a < l.length by omega)]
  have h2 : l.getD b zVer = l[b] := by simp [List.getElem?_eq_getElem hb]
  rw [h1] at ha
  rw [h2]
  have h3 := List.pairwise_iff_getElem.1 h a b (by omega) hb hlt
  have h4 := of_decide_eq_true ha
  exact decide_eq_true (by omega)
set_option maxRecDepth 100000 in
theorem until_walk (w : World) (A : Option Addr) (c : Nat) (l : Chain) (t : Int) (hr : Kd.C k29 w A l.length l) (h : ChainOk l) :
 Calls Try.prog 72 #[.slice A l.length c, .int .i64 t] w fun e w' => e = .returned (.int .i64 ((untilV l t : Nat) : Int)) ∧ Below w.heap.size w w' := by
 obtain ⟨w2, hw2⟩ : ∃ w2, w2 = (w.alloc (.cells #[.slice A l.length c] 81)).alloc (.cells #[.int .i64 t] 3) := ⟨_, rfl⟩
 have hB : Below w.heap.size w w2 := by rw [hw2]; exact below_alloc (below_alloc (Below.refl _ w) _) _
 have hs2 : w2.heap.size = w.heap.size + 2 := by rw [hw2]; simp
 have b1 : w2.heap[w.heap.size]? = some (.cells #[.slice A l.length c] 81 (0, 0)) := by rw [hw2]; exact blk_alloc (blk_new _ _) _
 have b2 : w2.heap[w.heap.size + 1]? = some (.cells #[.int .i64 t] 3 (0, 0)) := by
  rw [hw2]
  have := blk_new (w.alloc (.cells #[.slice A l.length c] 81)) (.cells #[.int .i64 t] 3)
  simpa using this
 have hl := h.len
 have hcon := Any.sort_Search Try.search 111 #[.pointer (some ⟨w.heap.size, 0, none⟩), .pointer (some ⟨w.heap.size + 1, 0, none⟩)] l.length (fun i => decide (t < (l.getD i zVer).f0)) w2
  (enters_of Try.func111 (by kernel_rfl) rfl) (by omega) (fun m os i hi => by
   have hG := below_grown_sl w2.heap.size w2 m os (Nat.le_refl _)
   refine (until1_walk (grow (w2.drewN m) os) w.heap.size (w.heap.size + 1) A c l t i hi ?_ ?_ ?_).mono ?_
   ·rw [blk_cell (blk_below b1 hG) 0]; rfl
   ·rw [blk_cell (blk_below b2 hG) 0]; rfl
   ·exact Kd.C_below (Kd.C_below hr hB) hG
   ·rintro e w' ⟨he, q, rfl⟩
    exact ⟨he, q, #[], by rw [grow_empty]⟩) (until_mono2 l t h.rise)
 rw [cnt_until t l h.rise] at hcon
 change Calls Try.prog 110 _ _ _ at hcon
 have HC := Aside0.mk hcon
 have HB := Aside0.mk hB
 have HW := Aside0.mk hw2
 clear hcon hB hw2 b1 b2 hr h hs2
 generalize untilV l t = n at *
 go_enter Try.func72, Try.ntmps72
 go_wp2_with fail
 rw [← HW.out]
 refine HC.out.mono ?_
 rintro e w' ⟨rfl, q, os, rfl⟩
 have HB2 : Aside0 (Below w.heap.size w (grow (w2.drewN q) os)) := ⟨HB.out.trans (below_grown_sl w.heap.size w2 q os HB.out.size)⟩
 go_wp2_with fail
 go_ret
 exact ⟨rfl, HB2.out⟩
end Go.Proofs.Ytaldfbmjmpkmmaa.PL
namespace Go.Proofs.Ytaldfbmjmpkmmaa.PL
open Go.RowKit Go.Proofs.YtaldfbmjmpkmmaaW.PrintWords Go.Proofs.YtaldfbmjmpkmmaaW.PrintLast Go.Proofs.YtaldfbmjmpkmmaaW.PrintMore Go.Shelf Go.Sort
set_option linter.unusedVariables false
set_option linter.unusedSimpArgs false
def verV (v : Ver) : Value := .agg #[.int .i64 v.f0, .string v.f1, .bool v.f2]
set_option maxRecDepth 100000 in
set_option maxHeartbeats 1000000 in
theorem at_walk (w : World) (A : Option Addr) (c : Nat) (l : Chain) (t : Int) (hr : Kd.C k29 w A l.length l) (hc : l.length ≤ c) (h : ChainOk l) :
 Calls Try.prog 34 #[.slice A l.length c, .int .i64 t] w fun e w' => e = .returned (.tuple #[.agg #[.int .i64 (atV l t).1.f0, .string (atV l t).1.f1, .bool (atV l t).1.f2], .bool (atV l t).2, .int .i64 0]) ∧ Below w.heap.size w w' := by
 have HR := Aside0.mk hr
 have HC := Aside0.mk hc
 have HO := Aside0.mk h
 have hl := h.len
 have hul := until_le l t
 have hu := Try.underlying29
 have HA : Aside0 (atV l t = if untilV l t = 0 then (zVer, false) else (l.getD (untilV l t - 1) zVer, true)) := ⟨rfl⟩
 have HUN : Aside0 (∀ W, Below w.heap.size w W → Calls Try.prog 72 #[.slice A l.length c, .int .i64 t] W fun e w' => e = .returned (.int .i64 ((untilV l t : Nat) : Int)) ∧ Below W.heap.size W w') := ⟨fun W hW => until_walk W A c l t (Kd.C_below hr hW) h⟩
 have HCH : Aside0 (∀ W, Below w.heap.size w W → Calls Try.prog 71 #[.slice A l.length c] W fun e w' => e = .returned (.tuple #[.int .i64 0, .int .i64 0]) ∧ Below W.heap.size W w') := ⟨fun W hW => check_walk W A c l (Kd.C_below hr hW) hc h⟩
 generalize atV l t = r at *
 generalize untilV l t = n at *
 clear hr hc h
 go_enter Try.func34, Try.ntmps34
 have hbx : (w.alloc (.cells #[.int .i64 0, .string ⟨#[]⟩, .bool false] 29)).heap[w.heap.size]? = some (.cells #[.int .i64 0, .string ⟨#[]⟩, .bool false] 29 (0, 0)) := blk_new _ _
 have hb0 := below_alloc (Below.refl _ w) (.cells #[.int .i64 0, .string ⟨#[]⟩, .bool false] 29)
 go_wp2_with fail
 refine (HCH.out _ hb0).mono ?_
 rintro e w1 ⟨rfl, hb1⟩
 have HB1 : Aside0 (Below w.heap.size w w1) := ⟨hb0.trans (hb1.mono hb0.size)⟩
 have BX1 := Aside0.mk (blk_below hbx hb1)
 clear hb1 hbx hb0
 go_wp2_with fail
 refine (HUN.out w1 HB1.out).mono ?_
 rintro e w2 ⟨rfl, hb2⟩
 have HB2 : Aside0 (Below w.heap.size w w2) := ⟨HB1.out.trans (hb2.mono HB1.out.size)⟩
 have BX2 := Aside0.mk (blk_below BX1.out hb2)
 clear hb2 BX1 HB1
 have y0 := blk_cell BX2.out 0
 have y1 := blk_cell BX2.out 1
 have y2 := blk_cell BX2.out 2
 have f0 := blk_frozen BX2.out 0
 have f1 := blk_frozen BX2.out 1
 have f2 := blk_frozen BX2.out 2
 by_cases hn : n = 0
 ·subst hn
  rw [if_pos rfl] at HA
  go_wp2_with fail
  (try simp only [Exit.inBlock, Exit.then])
  refine bodyPost_ret (results_list (rs := [.cell 4 29, .tmp 5, .tmp 6]) rfl (by simp) (Vals.cell w.heap.size 29 _ (0, 0) _ rfl (blk_put (blk_put (blk_put BX2.out 0 _ rfl) 1 _ rfl) 2 _ rfl) Try.underlying29 rfl (by kernel_rfl) (Vals.tmp (Vals.tmp Vals.nil)))) rfl ?_
  exact ⟨by rw [HA.out]; rfl, ((HB2.out.setCell (Nat.le_refl _) _).setCell (Nat.le_refl _) _).setCell (Nat.le_refl _) _⟩
 ·rw [if_neg hn] at HA
  obtain ⟨m, rfl⟩ : ∃ m, n = m + 1 := ⟨n - 1, by omega⟩
  obtain ⟨ad, rfl, c0, c1, c2⟩ := at_T29 (Kd.C_below HR.out HB2.out) (m : Int) (by omega) (by omega)
  rw [rdV_getD l m (by omega), Int.toNat_natCast] at c0 c1 c2
  have hm1 : ((m + 1 : Nat) : Int) - 1 = (m : Int) := by omega
  rw [Nat.add_sub_cancel] at HA
  generalize l.getD m zVer = v at *
  go_wp2_with fail
  (try simp only [Exit.inBlock, Exit.then])
  refine bodyPost_ret (results_list (rs := [.cell 4 29, .tmp 5, .tmp 6]) rfl (by simp) (Vals.cell w.heap.size 29 _ (0, 0) _ rfl (blk_put (blk_put (blk_put BX2.out 0 _ rfl) 1 _ rfl) 2 _ rfl) Try.underlying29 rfl (by kernel_rfl) (Vals.tmp (Vals.tmp Vals.nil)))) rfl ?_
  exact ⟨by rw [HA.out]; rfl, ((HB2.out.setCell (Nat.le_refl _) _).setCell (Nat.le_refl _) _).setCell (Nat.le_refl _) _⟩
set_option maxRecDepth 100000 in
set_option maxHeartbeats 1000000 in
theorem sweepC_walk (w : World) (A : Option Addr) (c : Nat) (l : Chain) (t : Int) (hr : Kd.C k29 w A l.length l) (hc : l.length ≤ c) (h : ChainOk l) :
 Calls Try.prog 80 #[.slice A l.length c, .int .i64 t] w fun e w' => ∃ v, e = .returned (.tuple #[v, .int .i64 0]) ∧ Kd.R k29 29 w' w.heap.size (fun _ => True) v (sweepC l t) ∧ Below w.heap.size w w' := by
 have HR := Aside0.mk hr
 have HC := Aside0.mk hc
 have hl := h.len
 have hul := until_le l t
 have hu := Try.underlying29
 have HUN : Aside0 (∀ W, Below w.heap.size w W → Calls Try.prog 72 #[.slice A l.length c, .int .i64 t] W fun e w' => e = .returned (.int .i64 ((untilV l t : Nat) : Int)) ∧ Below W.heap.size W w') := ⟨fun W hW => until_walk W A c l t (Kd.C_below hr hW) h⟩
 have HCH : Aside0 (∀ W, Below w.heap.size w W → Calls Try.prog 71 #[.slice A l.length c] W fun e w' => e = .returned (.tuple #[.int .i64 0, .int .i64 0]) ∧ Below W.heap.size W w') := ⟨fun W hW => check_walk W A c l (Kd.C_below hr hW) hc h⟩
 have hfr : sweepFrom l t ≤ l.length := by unfold sweepFrom; split <;> omega
 obtain ⟨i0, hi0, _, hsz, _⟩ := info_parts infoV
 have HCL : Aside0 (∀ W, Below w.heap.size w W → Calls Try.prog 114 #[.slice (if c = sweepFrom l t then A else A.map (·.add (sweepFrom l t * 3))) (l.length - sweepFrom l t) (c - sweepFrom l t)] W fun e w' => ∃ v, e = .returned v ∧ Kd.R k29 29 w' W.heap.size (fun _ => True) v (sweepC l t) ∧ Below W.heap.size W w') := ⟨fun W hW => by
  have h1 := Kd.C_drop (Kd.C_below hr hW) hfr hc
  have h2 := clone_ver W _ (c - sweepFrom l t) (l.drop (sweepFrom l t)) h1 (by rw [List.length_drop]; omega)
  rw [List.length_drop] at h2
  exact h2⟩
 have hcut := cut_from (P := Try.prog) 81 29 .i64 Try.underlying81 hi0 3 hsz A l.length c (sweepFrom l t : Int) (by omega) (by omega)
 rw [Int.toNat_natCast] at hcut
 generalize (if c = sweepFrom l t then A else A.map (·.add (sweepFrom l t * 3))) = A2 at hcut HCL
 have HS : Aside0 (sweepFrom l t = if 0 < untilV l t ∧ (l.getD (untilV l t - 1) zVer).f2 = false then untilV l t - 1 else untilV l t) := ⟨rfl⟩
 generalize sweepC l t = r at *
 generalize sweepFrom l t = m at *
 generalize untilV l t = n at *
 clear hr hc h
 go_enter Try.func80, Try.ntmps80
 go_wp2_with fail
 refine (HCH.out _ (Below.refl _ _)).mono ?_
 rintro e w1 ⟨rfl, hb1⟩
 have HB1 := Aside0.mk hb1
 clear hb1
 go_wp2_with fail
 refine (HUN.out w1 HB1.out).mono ?_
 rintro e w2 ⟨rfl, hb2⟩
 have HB2 : Aside0 (Below w.heap.size w w2) := ⟨HB1.out.trans (hb2.mono HB1.out.size)⟩
 clear hb2 HB1
 by_cases hn : n = 0
 ·subst hn
  rw [if_neg (by omega)] at HS
  have hm0 : m = 0 := HS.out
  subst hm0
  clear HS
  have hcut0 : ∀ W, (Instr.slice 81 (.slice A l.length c) (some (.int .i64 0)) none none).run Try.prog W = .ok (.slice A2 (l.length - 0) (c - 0)) W := hcut
  clear hcut
  rw [Nat.sub_zero, Nat.sub_zero] at hcut0 HCL
  go_wp2_with fail
  refine (HCL.out _ HB2.out).mono ?_
  rintro e w3 ⟨vr, rfl, hvr, hb3⟩
  have HV3 := Aside0.mk (Kd.R_lower hvr HB2.out.size)
  have HB3 : Aside0 (Below w.heap.size w w3) := ⟨HB2.out.trans (hb3.mono HB2.out.size)⟩
  clear hvr hb3
  go_wp2_with fail
  go_ret2
  exact ⟨_, rfl, HV3.out, HB3.out⟩
 ·obtain ⟨k, rfl⟩ : ∃ k, n = k + 1 := ⟨n - 1, by omega⟩
  rw [Nat.add_sub_cancel] at HS
  obtain ⟨ad, rfl, c0, c1, c2⟩ := at_T29 (Kd.C_below HR.out HB2.out) (k : Int) (by omega) (by omega)
  rw [rdV_getD l k (by omega), Int.toNat_natCast] at c2
  have hk1 : ((k + 1 : Nat) : Int) - 1 = (k : Int) := by omega
  clear c0 c1
  generalize l.getD k zVer = v at *
  cases hd : v.f2 with
  | true =>
   rw [hd] at c2 HS
   rw [if_neg (by simp)] at HS
   have hm : m = k + 1 := HS.out
   subst hm
   clear HS
   rw [show ((k + 1 : Nat) : Int) = (k : Int) + 1 by omega] at hcut
   go_wp2_with fail
   refine (HCL.out _ HB2.out).mono ?_
   rintro e w3 ⟨vr, rfl, hvr, hb3⟩
   have HV3 := Aside0.mk (Kd.R_lower hvr HB2.out.size)
   have HB3 : Aside0 (Below w.heap.size w w3) := ⟨HB2.out.trans (hb3.mono HB2.out.size)⟩
   clear hvr hb3
   go_wp2_with fail
   go_ret2
   exact ⟨_, rfl, HV3.out, HB3.out⟩
  | false =>
   rw [hd] at c2 HS
   rw [if_pos (by simp)] at HS
   have hm : m = k := HS.out
   subst hm
   clear HS
   go_wp2_with fail
   refine (HCL.out _ HB2.out).mono ?_
   rintro e w3 ⟨vr, rfl, hvr, hb3⟩
   have HV3 := Aside0.mk (Kd.R_lower hvr HB2.out.size)
   have HB3 : Aside0 (Below w.heap.size w w3) := ⟨HB2.out.trans (hb3.mono HB2.out.size)⟩
   clear hvr hb3
   go_wp2_with fail
   go_ret2
   exact ⟨_, rfl, HV3.out, HB3.out⟩
end Go.Proofs.Ytaldfbmjmpkmmaa.PL
