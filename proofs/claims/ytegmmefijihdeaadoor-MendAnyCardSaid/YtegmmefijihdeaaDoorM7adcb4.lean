/- Texts of this proof, one behind the other (merged by a program of this session). -/
import Derived.Test.YtegmmefijihdeaaDoorM242456
import Derived.Test.YtegmmefijihdeaaDoorM1ee7bc
import Derived.Test.YtegmmefijihdeaaDoorMda869c
import Derived.Test.YtegmmefijihdeaaDoorMc26e73
namespace Go.Proofs.YtegmmefijihdeaaDoor.PS
open Go.RowKit Go.Proofs.YtegmmefijihdeaaDoorW.PrintWords Go.Proofs.YtegmmefijihdeaaDoorW.PrintLast Go.Proofs.YtegmmefijihdeaaDoorW.PrintMore Go.Proofs.YtegmmefijihdeaaDoor.Gf Go.Proofs.YtegmmefijihdeaaDoor.Fld Go.Proofs.YtegmmefijihdeaaDoor.Grd Go.Proofs.YtegmmefijihdeaaDoor.Rowb
set_option linter.unusedVariables false
set_option linter.unusedSimpArgs false
theorem pieces_flat (s : List UInt8) (n : Nat) : ∀ K, K * n ≤ s.length → ((List.range K).map fun i => (s.drop (i * n)).take n).flatten = s.take (K * n)
  | 0, _ => by simp
  | K + 1, h => by
    have hk : K * n ≤ s.length := by rw [Nat.succ_mul] at h; omega
    rw [List.range_succ, List.map_append, List.flatten_append, pieces_flat s n K hk, Nat.succ_mul, List.take_add]
    simp
theorem flat_split (K : Nat) (o : ByteArray) (h1 : 1 ≤ K) : flat (splitL K o) = plainL K o := by
  have hl := plain_len K o h1
  have h := pieces_flat (plainL K o) (sizeN K o.size) K (by rw [hl, Nat.mul_comm]; exact Nat.le_refl _)
  rw [List.take_of_length_le (by rw [hl, Nat.mul_comm]; exact Nat.le_refl _)] at h
  rw [← h]
  unfold flat splitL
  rw [List.map_map]
  congr 1
theorem long_plain (K : Nat) (o : ByteArray) (ho : o.size ≤ 2048) : longOf (plainL K o) = o.size := by
  have e : ∀ j, j < 4 → (plainL K o).getD j 0 = (be4 o.size).getD j 0 := fun j hj => by
    unfold plainL
    rw [List.getD_eq_getElem?_getD, List.append_assoc, List.getElem?_append_left (by show j < 4; exact hj), ← List.getD_eq_getElem?_getD]
  unfold longOf
  rw [e 0 (by decide), e 1 (by decide), e 2 (by decide), e 3 (by decide)]
  have e3 : ((be4 o.size).getD 2 0).toNat = o.size / 256 := by
    show (UInt8.ofNat (o.size / 256)).toNat = _
    rw [UInt8.toNat_ofNat', Nat.mod_eq_of_lt (by omega)]
  have e4 : ((be4 o.size).getD 3 0).toNat = o.size % 256 := by
    show (UInt8.ofNat (o.size % 256)).toNat = _
    rw [UInt8.toNat_ofNat', Nat.mod_eq_of_lt (by omega)]
  have e1 : ((be4 o.size).getD 0 0).toNat = 0 := rfl
  have e2 : ((be4 o.size).getD 1 0).toNat = 0 := rfl
  rw [e1, e2, e3, e4]
  omega
theorem txt_data (o : ByteArray) : txt o.data.toList = o := by
  unfold txt
  rfl
theorem joinS_plain (K : Nat) (o : ByteArray) (h1 : 1 ≤ K) (ho : o.size ≤ 2048) : joinS K (plainL K o) = (o, 0) := by
  have hl := plain_len K o h1
  have hg := sizeN_ge K o.size h1
  have hol : o.data.toList.length = o.size := Array.length_toList
  have h4 : (be4 o.size).length = 4 := rfl
  unfold joinS
  rw [if_neg (by omega), long_plain K o ho, if_pos ⟨ho, hl.symm⟩]
  have e1 : (plainL K o).drop (4 + o.size) = zeros (sizeN K o.size * K - (4 + o.size)) := by
    unfold plainL
    rw [List.drop_append_of_le_length (by rw [List.length_append, h4, hol]; omega), List.drop_of_length_le (by rw [List.length_append, h4, hol]; omega), List.nil_append]
  have e2 : ((plainL K o).drop 4).take o.size = o.data.toList := by
    unfold plainL
    rw [List.append_assoc, List.drop_append_of_le_length (by omega), List.drop_of_length_le (by omega), List.nil_append, List.take_append_of_le_length (by omega), List.take_of_length_le (by omega)]
  rw [e1, e2, txt_data, if_pos (by unfold zeros; simp)]
theorem join_split (K : Nat) (o : ByteArray) (h1 : 1 ≤ K) (h2 : K ≤ 255) (ho : o.size ≤ 2048) : stripe_Join.f (splitL K o) = some (o, 0) := by
  have hs := sizeN_small K o.size h1 h2 ho
  have hm : sizeN K o.size * K ≤ 2052 * 255 := Nat.mul_le_mul hs h2
  unfold stripe_Join.f joinFits joinV
  rw [flat_split K o h1, plain_len K o h1, if_pos (decide_eq_true (fun _ => by omega)), splitL_len, if_pos ⟨h1, h2⟩, if_pos (splitL_even K o h1), joinS_plain K o h1 ho]
theorem parL_size (k n : Nat) (data : List ByteArray) (r : Nat) : ∀ s, s ∈ parL k n data r → s.size = n := fun s hs => by
  obtain ⟨i, hi, rfl⟩ := List.mem_map.1 hs
  rw [txt_size, acc_len]
theorem encL_len (K M : Nat) (o : ByteArray) : (encL K M o).length = K + M := by unfold encL; rw [List.length_append, splitL_len, parL_len]
theorem encL_size (K M : Nat) (o : ByteArray) (h1 : 1 ≤ K) : ∀ s, s ∈ encL K M o → s.size = sizeN K o.size := fun s hs => by
  rcases List.mem_append.1 hs with hs | hs
  · exact splitL_size K o h1 s hs
  · exact parL_size _ _ _ _ s hs
end Go.Proofs.YtegmmefijihdeaaDoor.PS
namespace Go.Proofs.YtegmmefijihdeaaDoor.PS
open Go.RowKit Go.Proofs.YtegmmefijihdeaaDoorW.PrintWords Go.Proofs.YtegmmefijihdeaaDoorW.PrintLast Go.Proofs.YtegmmefijihdeaaDoorW.PrintMore
attribute [local go_sem] Mk.str_leq Mk.str_gtr Mk.str_geq max2_int min2_int max_two min_two max_three min_three max_four min_four   -- for this text's walks alone
set_option linter.unusedVariables false
set_option linter.unusedSimpArgs false

/-! ### mend_One: function 43 -/
def mend_One.f (k : Nat) (a0 : Int) (a1 : Int) (l2 : List (S62)) (a3 : Int) : Option (ByteArray × Int) := (mend_all.f k a0 a1 l2).bind fun bt537 => (if bt537.2 = 0 then (if a3 < 0 then (some ((⟨#[]⟩ : ByteArray), 1)) else (if a3 ≥ (bt537.1.length : Int) then (some ((⟨#[]⟩ : ByteArray), 1)) else (if 0 ≤ a3 then (if a3 < (bt537.1.length : Int) then (some (rdOf ByteArray.empty bt537.1 a3, 0)) else (none)) else (none)))) else (some ((⟨#[]⟩ : ByteArray), bt537.2)))
theorem mend_One.mono : ∀ a0 a1 a2 a3 k, LeO (mend_One.f k a0 a1 a2 a3) (mend_One.f (k + 1) a0 a1 a2 a3) := by
 intro a0 a1 a2 a3 k
 unfold mend_One.f
 repeat' first
   | (with_reducible exact mend_all.mono _ _ _ _)
   | (with_reducible exact LeO.refl _)
   | (with_reducible exact LeO.none _)
   | (with_reducible refine LeO.ite ?_ ?_)
   | (with_reducible refine LeO.bind ?_ (fun _ => ?_))
   | exact mend_all.mono _ _ _ _
   | exact LeO.none _
   | refine LeO.ite ?_ ?_
   | refine LeO.bind ?_ (fun _ => ?_)
set_option maxHeartbeats 8000000 in
set_option maxRecDepth 100000 in
theorem mend_One.calls (k : Nat) (a0 : Int) (a1 : Int) (A2 : Option Addr) (c2 : Nat) (l2 : List (S62)) (a3 : Int) (r1 : ByteArray) (r2 : Int) (w : World) (hr2 : Kd.C k62 w A2 l2.length l2) (hc2 : l2.length ≤ c2) (h : mend_One.f k a0 a1 l2 a3 = some (r1, r2)) :
  Calls Tryd.prog 43 #[.int .i64 a0, .int .i64 a1, .slice A2 l2.length c2, .int .i64 a3] w fun e w' => e = .returned (.tuple #[.string r1, .int .i64 r2]) ∧ Below w.heap.size w w' := by
 have HR2 := Aside0.mk hr2
 have HC2 := Aside0.mk hc2
 clear hr2 hc2
 have HB := Aside0.mk (Below.refl w.heap.size w)
 have H : ((mend_all.f k a0 a1 l2).bind fun bt537 => (if bt537.2 = 0 then (if a3 < 0 then (some ((⟨#[]⟩ : ByteArray), 1)) else (if a3 ≥ (bt537.1.length : Int) then (some ((⟨#[]⟩ : ByteArray), 1)) else (if 0 ≤ a3 then (if a3 < (bt537.1.length : Int) then (some (rdOf ByteArray.empty bt537.1 a3, 0)) else (none)) else (none)))) else (some ((⟨#[]⟩ : ByteArray), bt537.2)))) = some (r1, r2) := h
 clear h
 replace H := Option.bind_eq_some_iff.mp H
 obtain ⟨⟨t537, t538⟩, A50, H⟩ := H
 replace H : (if t538 = 0 then (if a3 < 0 then (some ((⟨#[]⟩ : ByteArray), 1)) else (if a3 ≥ (t537.length : Int) then (some ((⟨#[]⟩ : ByteArray), 1)) else (if 0 ≤ a3 then (if a3 < (t537.length : Int) then (some (rdOf ByteArray.empty t537 a3, 0)) else (none)) else (none)))) else (some ((⟨#[]⟩ : ByteArray), t538))) = some (r1, r2) := H
 have A5 := Aside0.mk A50
 clear A50
 by_cases c6 : t538 = 0
 ·rw [if_pos c6] at H
  have c6b0 : (t538 == 0) = true := beq_iff_eq.mpr c6
  have c6b1 : (t538 != 0) = false := bne_eq_false_iff_eq.mpr c6
  clear c6
  by_cases c7 : a3 < 0
  ·rw [if_pos c7] at H
   have c7b0 : decide (a3 < 0) = true := decide_eq_true c7
   clear c7
   simp only [Option.some.injEq, Prod.mk.injEq] at H
   obtain ⟨rfl, rfl⟩ := H
   go_enter Tryd.func43, Tryd.ntmps43
   go_wp2_with (first | ((with_reducible refine gate_callee (f := 65) rfl ?_); refine goesL_ (some 16) rfl rfl Tryd.func65 (by kernel_rfl) rfl #[.int .i64 a0, .int .i64 a1, .slice A2 l2.length c2] rfl (by (try simp only [List.map_toArray, List.map_cons, List.map_nil]); first | done | rfl | (simp only [List.length_drop, List.length_take]; rfl)) ?_; (with_reducible refine (mend_all.calls k a0 a1 _ _ l2 t537 t538 _ ?side1 ?side2 A5.out).mono ?_); (case side1 => repeat (first | exact HR2.out | (with_reducible refine Kd.C_alloc ?_ _) | (with_reducible refine Kd.C_drewN ?_ _) | (with_reducible refine Kd.C_drew ?_))); (case side2 => exact HC2.out); rintro e w8 ⟨v539, rfl, ho0, hb⟩; refine ⟨_, rfl, ?_⟩; have n0_ := Aside0.mk (Kd.R_lower ho0 (below_size (by repeat (first | (with_reducible first | exact HB.out | apply below_alloc | apply pw_below_drewN | apply below_drew1) | exact HB.out)))); have n1_ := Aside0.mk (below_step (by repeat (first | (with_reducible first | exact HB.out | apply below_alloc | apply pw_below_drewN | apply below_drew1) | exact HB.out)) hb); clear HB; have HO540 := n0_; have HB := n1_; clear n0_ n1_; (try clear hb); (try clear hb2); (try clear hk); (try clear hi); (try clear ho0)))
   go_ret2
   exact ⟨by first | rfl | (simp [errW_none, errW_some] <;> rfl) | (simp [*, errW_none, errW_some] <;> rfl), by repeat (first | (with_reducible first | exact HB.out | apply below_alloc | apply pw_below_drewN | apply below_drew1) | exact HB.out)⟩
  ·rw [if_neg c7] at H
   have c7b0 : decide (a3 < 0) = false := decide_eq_false c7
   clear c7
   by_cases c9 : a3 ≥ (t537.length : Int)
   ·rw [if_pos c9] at H
    have c9b0 : decide ((t537.length : Int) ≤ a3) = true := decide_eq_true c9
    clear c9
    simp only [Option.some.injEq, Prod.mk.injEq] at H
    obtain ⟨rfl, rfl⟩ := H
    go_enter Tryd.func43, Tryd.ntmps43
    go_wp2_with (first | ((with_reducible refine gate_callee (f := 65) rfl ?_); refine goesL_ (some 16) rfl rfl Tryd.func65 (by kernel_rfl) rfl #[.int .i64 a0, .int .i64 a1, .slice A2 l2.length c2] rfl (by (try simp only [List.map_toArray, List.map_cons, List.map_nil]); first | done | rfl | (simp only [List.length_drop, List.length_take]; rfl)) ?_; (with_reducible refine (mend_all.calls k a0 a1 _ _ l2 t537 t538 _ ?side1 ?side2 A5.out).mono ?_); (case side1 => repeat (first | exact HR2.out | (with_reducible refine Kd.C_alloc ?_ _) | (with_reducible refine Kd.C_drewN ?_ _) | (with_reducible refine Kd.C_drew ?_))); (case side2 => exact HC2.out); rintro e w10 ⟨v539, rfl, ho0, hb⟩; refine ⟨_, rfl, ?_⟩; have n0_ := Aside0.mk (Kd.R_lower ho0 (below_size (by repeat (first | (with_reducible first | exact HB.out | apply below_alloc | apply pw_below_drewN | apply below_drew1) | exact HB.out)))); have n1_ := Aside0.mk (below_step (by repeat (first | (with_reducible first | exact HB.out | apply below_alloc | apply pw_below_drewN | apply below_drew1) | exact HB.out)) hb); clear HB; have HO540 := n0_; have HB := n1_; clear n0_ n1_; (try clear hb); (try clear hb2); (try clear hk); (try clear hi); (try clear ho0); obtain ⟨Ao11, co11, eo11⟩ := Kd.R_slice HO540.out; subst eo11))
    go_ret2
    exact ⟨by first | rfl | (simp [errW_none, errW_some] <;> rfl) | (simp [*, errW_none, errW_some] <;> rfl), by repeat (first | (with_reducible first | exact HB.out | apply below_alloc | apply pw_below_drewN | apply below_drew1) | exact HB.out)⟩
   ·rw [if_neg c9] at H
    have c9b0 : decide ((t537.length : Int) ≤ a3) = false := decide_eq_false c9
    clear c9
    by_cases c12 : 0 ≤ a3
    ·rw [if_pos c12] at H
     have c12b0 : decide (0 ≤ a3) = true := decide_eq_true c12
     clear c12
     by_cases c13 : a3 < (t537.length : Int)
     ·rw [if_pos c13] at H
      have c13b0 : decide (a3 < (t537.length : Int)) = true := decide_eq_true c13
      clear c13
      simp only [Option.some.injEq, Prod.mk.injEq] at H
      obtain ⟨rfl, rfl⟩ := H
      go_enter Tryd.func43, Tryd.ntmps43
      go_wp2_with (first | ((with_reducible refine gate_callee (f := 65) rfl ?_); refine goesL_ (some 16) rfl rfl Tryd.func65 (by kernel_rfl) rfl #[.int .i64 a0, .int .i64 a1, .slice A2 l2.length c2] rfl (by (try simp only [List.map_toArray, List.map_cons, List.map_nil]); first | done | rfl | (simp only [List.length_drop, List.length_take]; rfl)) ?_; (with_reducible refine (mend_all.calls k a0 a1 _ _ l2 t537 t538 _ ?side1 ?side2 A5.out).mono ?_); (case side1 => repeat (first | exact HR2.out | (with_reducible refine Kd.C_alloc ?_ _) | (with_reducible refine Kd.C_drewN ?_ _) | (with_reducible refine Kd.C_drew ?_))); (case side2 => exact HC2.out); rintro e w14 ⟨v539, rfl, ho0, hb⟩; refine ⟨_, rfl, ?_⟩; have n0_ := Aside0.mk (Kd.R_lower ho0 (below_size (by repeat (first | (with_reducible first | exact HB.out | apply below_alloc | apply pw_below_drewN | apply below_drew1) | exact HB.out)))); have n1_ := Aside0.mk (below_step (by repeat (first | (with_reducible first | exact HB.out | apply below_alloc | apply pw_below_drewN | apply below_drew1) | exact HB.out)) hb); clear HB; have HO540 := n0_; have HB := n1_; clear n0_ n1_; (try clear hb); (try clear hb2); (try clear hk); (try clear hi); (try clear ho0); obtain ⟨Ao15, co15, eo15⟩ := Kd.R_slice HO540.out; subst eo15; have p541 : 0 ≤ (a3 : Int) := of_decide_eq_true (by first | (with_reducible assumption) | assumption); have q541 : a3 < (t537.length : Int) := of_decide_eq_true (by first | (with_reducible assumption) | assumption); obtain ⟨ad541, e541, hx541_0⟩ := Kd.at_string (Kd.R_reads' HO540.out).2.2 a3 p541 q541; cases e541; replace p541 := eq_true p541; replace q541 := eq_true q541))
      go_ret2
      exact ⟨by first | rfl | (simp [errW_none, errW_some] <;> rfl) | (simp [*, errW_none, errW_some] <;> rfl), by repeat (first | (with_reducible first | exact HB.out | apply below_alloc | apply pw_below_drewN | apply below_drew1) | exact HB.out)⟩
     ·rw [if_neg c13] at H
      exact absurd H (by simp)
    ·rw [if_neg c12] at H
     exact absurd H (by simp)
 ·rw [if_neg c6] at H
  have c6b0 : (t538 == 0) = false := beq_eq_false_iff_ne.mpr c6
  have c6b1 : (t538 != 0) = true := bne_iff_ne.mpr c6
  simp only [Option.some.injEq, Prod.mk.injEq] at H
  obtain ⟨rfl, rfl⟩ := H
  go_enter Tryd.func43, Tryd.ntmps43
  go_wp2_with (first | ((with_reducible refine gate_callee (f := 65) rfl ?_); refine goesL_ (some 16) rfl rfl Tryd.func65 (by kernel_rfl) rfl #[.int .i64 a0, .int .i64 a1, .slice A2 l2.length c2] rfl (by (try simp only [List.map_toArray, List.map_cons, List.map_nil]); first | done | rfl | (simp only [List.length_drop, List.length_take]; rfl)) ?_; (with_reducible refine (mend_all.calls k a0 a1 _ _ l2 t537 t538 _ ?side1 ?side2 A5.out).mono ?_); (case side1 => repeat (first | exact HR2.out | (with_reducible refine Kd.C_alloc ?_ _) | (with_reducible refine Kd.C_drewN ?_ _) | (with_reducible refine Kd.C_drew ?_))); (case side2 => exact HC2.out); rintro e w16 ⟨v539, rfl, ho0, hb⟩; refine ⟨_, rfl, ?_⟩; have n0_ := Aside0.mk (Kd.R_lower ho0 (below_size (by repeat (first | (with_reducible first | exact HB.out | apply below_alloc | apply pw_below_drewN | apply below_drew1) | exact HB.out)))); have n1_ := Aside0.mk (below_step (by repeat (first | (with_reducible first | exact HB.out | apply below_alloc | apply pw_below_drewN | apply below_drew1) | exact HB.out)) hb); clear HB; have HO540 := n0_; have HB := n1_; clear n0_ n1_; (try clear hb); (try clear hb2); (try clear hk); (try clear hi); (try clear ho0)))
  go_ret2
  exact ⟨by first | rfl | (simp [errW_none, errW_some] <;> rfl) | (simp [*, errW_none, errW_some] <;> rfl), by repeat (first | (with_reducible first | exact HB.out | apply below_alloc | apply pw_below_drewN | apply below_drew1) | exact HB.out)⟩

end Go.Proofs.YtegmmefijihdeaaDoor.PS
namespace Go.Proofs.YtegmmefijihdeaaDoor.PS
open Go.RowKit Go.Proofs.YtegmmefijihdeaaDoorW.PrintWords Go.Proofs.YtegmmefijihdeaaDoorW.PrintLast Go.Proofs.YtegmmefijihdeaaDoorW.PrintMore
attribute [local go_sem] Mk.str_leq Mk.str_gtr Mk.str_geq max2_int min2_int max_two min_two max_three min_three max_four min_four   -- for this text's walks alone
set_option linter.unusedVariables false
set_option linter.unusedSimpArgs false

/-! ### mend_Agree: function 45 -/
def mend_Agree.l0 : Nat → List ByteArray → List (S62) → Int → Int → Option (Bool × Int)
 | 0, _, _, _, _ => none
 | k + 1, x8, x22, x23, x24 => if x24 < x23 then (if 0 ≤ x24 then (if x24 < (x22.length : Int) then (if 0 ≤ ((rd_T62 x22 x24).f0) then (if ((rd_T62 x22 x24).f0) < (x8.length : Int) then (if (rdOf ByteArray.empty x8 ((rd_T62 x22 x24).f0)).toList = ((rd_T62 x22 x24).f1).toList then (mend_Agree.l0 k x8 x22 x23 (wrap64 (x24 + 1))) else (some (false, 0))) else (none)) else (none)) else (none)) else (none)) else (some (true, 0))
def mend_Agree.f (k : Nat) (a0 : Int) (a1 : Int) (l2 : List (S62)) : Option (Bool × Int) := (mend_all.f k a0 a1 l2).bind fun bt579 => (if bt579.2 = 0 then (mend_Agree.l0 k bt579.1 l2 (l2.length : Int) 0) else (some (false, bt579.2)))
theorem mend_Agree.mono_l : ∀ k, (∀ y0 y1 y2 y3, LeO (mend_Agree.l0 k y0 y1 y2 y3) (mend_Agree.l0 (k + 1) y0 y1 y2 y3))
 | 0 => fun _ _ _ _ r h => by simp [mend_Agree.l0] at h
 | k + 1 => by
  have ih0 := mend_Agree.mono_l k
  ·intro y0 y1 y2 y3
   unfold mend_Agree.l0
   repeat' first
   | (with_reducible exact ih0 _ _ _ _)
   | (with_reducible exact mend_all.mono _ _ _ _)
   | (with_reducible exact LeO.refl _)
   | (with_reducible exact LeO.none _)
   | (with_reducible refine LeO.ite ?_ ?_)
   | (with_reducible refine LeO.bind ?_ (fun _ => ?_))
   | exact ih0 _ _ _ _
   | exact mend_all.mono _ _ _ _
   | exact LeO.none _
   | refine LeO.ite ?_ ?_
   | refine LeO.bind ?_ (fun _ => ?_)
theorem mend_Agree.mono : ∀ a0 a1 a2 k, LeO (mend_Agree.f k a0 a1 a2) (mend_Agree.f (k + 1) a0 a1 a2) := by
 intro a0 a1 a2 k
 have ih0 := mend_Agree.mono_l k
 unfold mend_Agree.f
 repeat' first
   | (with_reducible exact ih0 _ _ _ _)
   | (with_reducible exact mend_all.mono _ _ _ _)
   | (with_reducible exact LeO.refl _)
   | (with_reducible exact LeO.none _)
   | (with_reducible refine LeO.ite ?_ ?_)
   | (with_reducible refine LeO.bind ?_ (fun _ => ?_))
   | exact ih0 _ _ _ _
   | exact mend_all.mono _ _ _ _
   | exact LeO.none _
   | refine LeO.ite ?_ ?_
   | refine LeO.bind ?_ (fun _ => ?_)
set_option maxHeartbeats 8000000 in
set_option maxRecDepth 100000 in
theorem mend_Agree.calls (k : Nat) (a0 : Int) (a1 : Int) (A2 : Option Addr) (c2 : Nat) (l2 : List (S62)) (r1 : Bool) (r2 : Int) (w : World) (hr2 : Kd.C k62 w A2 l2.length l2) (hc2 : l2.length ≤ c2) (h : mend_Agree.f k a0 a1 l2 = some (r1, r2)) :
  Calls Tryd.prog 45 #[.int .i64 a0, .int .i64 a1, .slice A2 l2.length c2] w fun e w' => e = .returned (.tuple #[.bool r1, .int .i64 r2]) ∧ Below w.heap.size w w' := by
 have hu62 := Tryd.underlying62
 have HR2 := Aside0.mk hr2
 have HC2 := Aside0.mk hc2
 clear hr2 hc2
 have HB := Aside0.mk (Below.refl w.heap.size w)
 have H : ((mend_all.f k a0 a1 l2).bind fun bt579 => (if bt579.2 = 0 then (mend_Agree.l0 k bt579.1 l2 (l2.length : Int) 0) else (some (false, bt579.2)))) = some (r1, r2) := h
 clear h
 replace H := Option.bind_eq_some_iff.mp H
 obtain ⟨⟨t579, t580⟩, A40, H⟩ := H
 replace H : (if t580 = 0 then (mend_Agree.l0 k t579 l2 (l2.length : Int) 0) else (some (false, t580))) = some (r1, r2) := H
 have A4 := Aside0.mk A40
 clear A40
 by_cases c5 : t580 = 0
 ·rw [if_pos c5] at H
  have c5b0 : (t580 == 0) = true := beq_iff_eq.mpr c5
  have c5b1 : (t580 != 0) = false := bne_eq_false_iff_eq.mpr c5
  clear c5
  have H' := Aside0.mk H
  clear H
  go_enter Tryd.func45, Tryd.ntmps45
  go_wp2_with (first | (go_at_call 65; (with_reducible refine (mend_all.calls k a0 a1 _ _ l2 t579 t580 _ ?side1 ?side2 A4.out).mono ?_); (case side1 => repeat (first | exact HR2.out | (with_reducible refine Kd.C_alloc ?_ _) | (with_reducible refine Kd.C_drewN ?_ _) | (with_reducible refine Kd.C_drew ?_))); (case side2 => exact HC2.out); rintro e w6 ⟨v581, rfl, ho0, hb⟩; have n0_ := Aside0.mk (Kd.R_lower ho0 (below_size (by repeat (first | (with_reducible first | exact HB.out | apply below_alloc | apply pw_below_drewN | apply below_drew1) | exact HB.out)))); have n1_ := Aside0.mk (below_step (by repeat (first | (with_reducible first | exact HB.out | apply below_alloc | apply pw_below_drewN | apply below_drew1) | exact HB.out)) hb); clear HB; have HO582 := n0_; have HB := n1_; clear n0_ n1_; (try clear hb); (try clear hb2); (try clear hk); (try clear hi); (try clear ho0)))
  repeat (go_quiet (first | (go_at_call 65; (with_reducible refine (mend_all.calls k a0 a1 _ _ l2 t579 t580 _ ?side1 ?side2 A4.out).mono ?_); (case side1 => repeat (first | exact HR2.out | (with_reducible refine Kd.C_alloc ?_ _) | (with_reducible refine Kd.C_drewN ?_ _) | (with_reducible refine Kd.C_drew ?_))); (case side2 => exact HC2.out); rintro e w6 ⟨v581, rfl, ho0, hb⟩; have n0_ := Aside0.mk (Kd.R_lower ho0 (below_size (by repeat (first | (with_reducible first | exact HB.out | apply below_alloc | apply pw_below_drewN | apply below_drew1) | exact HB.out)))); have n1_ := Aside0.mk (below_step (by repeat (first | (with_reducible first | exact HB.out | apply below_alloc | apply pw_below_drewN | apply below_drew1) | exact HB.out)) hb); clear HB; have HO582 := n0_; have HB := n1_; clear n0_ n1_; (try clear hb); (try clear hb2); (try clear hk); (try clear hi); (try clear ho0))); try go_wp2_with (first | (go_at_call 65; (with_reducible refine (mend_all.calls k a0 a1 _ _ l2 t579 t580 _ ?side1 ?side2 A4.out).mono ?_); (case side1 => repeat (first | exact HR2.out | (with_reducible refine Kd.C_alloc ?_ _) | (with_reducible refine Kd.C_drewN ?_ _) | (with_reducible refine Kd.C_drew ?_))); (case side2 => exact HC2.out); rintro e w6 ⟨v581, rfl, ho0, hb⟩; have n0_ := Aside0.mk (Kd.R_lower ho0 (below_size (by repeat (first | (with_reducible first | exact HB.out | apply below_alloc | apply pw_below_drewN | apply below_drew1) | exact HB.out)))); have n1_ := Aside0.mk (below_step (by repeat (first | (with_reducible first | exact HB.out | apply below_alloc | apply pw_below_drewN | apply below_drew1) | exact HB.out)) hb); clear HB; have HO582 := n0_; have HB := n1_; clear n0_ n1_; (try clear hb); (try clear hb2); (try clear hk); (try clear hi); (try clear ho0))))
  go_loopg [24] k (fun kq v24 w' => ∃ (x24_1 : Int), v24 = .int .i64 x24_1 ∧ Aside0 (mend_Agree.l0 kq t579 l2 (l2.length : Int) x24_1 = some (r1, r2)) ∧ Aside0 (kq ≤ k) ∧ Aside0 (Kd.R Kd.string 9 w' w.heap.size (fun _ => True) v581 t579) ∧ Aside0 (Below w.heap.size w w'))
  case atStart => exact ⟨(0), (by first | rfl | (simp; done) | (simp [*]; done)), H', ⟨Nat.le_refl _⟩, ⟨by (with_reducible repeat (first | apply Kd.R_alloc | apply Kd.R_drewN | apply Kd.R_drew)); exact HO582.out⟩, ⟨by repeat (first | (with_reducible first | exact HB.out | apply below_alloc | apply pw_below_drewN | apply below_drew1) | exact HB.out)⟩⟩
  case round =>
   clear H'
   try clear c2
   try clear p2
   try clear c4
   try clear c5
   try clear c5b0
   try clear c5b1
   obtain ⟨x24_1, rfl, HA, HK1, HO_8, HB⟩ := hrel
   cases gk with
   | zero => exact absurd HA.out (by simp [mend_Agree.l0])
   | succ k1 =>
    have H := HA.out
    clear HA
    simp only [mend_Agree.l0] at H
    by_cases c7 : x24_1 < (l2.length : Int)
    ·rw [if_pos c7] at H
     have c7b0 : decide (x24_1 < (l2.length : Int)) = true := decide_eq_true c7
     clear c7
     by_cases c8 : 0 ≤ x24_1
     ·rw [if_pos c8] at H
      have c8b0 : decide (0 ≤ x24_1) = true := decide_eq_true c8
      clear c8
      by_cases c9 : x24_1 < (l2.length : Int)
      ·rw [if_pos c9] at H
       have c9b0 : decide (x24_1 < (l2.length : Int)) = true := decide_eq_true c9
       clear c9
       by_cases c10 : 0 ≤ ((rd_T62 l2 x24_1).f0)
       ·rw [if_pos c10] at H
        have c10b0 : decide (0 ≤ ((rd_T62 l2 x24_1).f0)) = true := decide_eq_true c10
        clear c10
        by_cases c11 : ((rd_T62 l2 x24_1).f0) < (t579.length : Int)
        ·rw [if_pos c11] at H
         have c11b0 : decide (((rd_T62 l2 x24_1).f0) < (t579.length : Int)) = true := decide_eq_true c11
         clear c11
         by_cases c12 : (rdOf ByteArray.empty t579 ((rd_T62 l2 x24_1).f0)).toList = ((rd_T62 l2 x24_1).f1).toList
         ·rw [if_pos c12] at H
          have c12b0 : ((rdOf ByteArray.empty t579 ((rd_T62 l2 x24_1).f0)).toList == ((rd_T62 l2 x24_1).f1).toList) = true := beq_iff_eq.mpr c12
          have c12b1 : ((rdOf ByteArray.empty t579 ((rd_T62 l2 x24_1).f0)).toList != ((rd_T62 l2 x24_1).f1).toList) = false := bne_eq_false_iff_eq.mpr c12
          clear c12
          have H' := Aside0.mk H
          clear H
          have p583 : 0 ≤ (x24_1 : Int) := of_decide_eq_true (by first | (with_reducible assumption) | assumption)
          have q583 : x24_1 < (l2.length : Int) := of_decide_eq_true (by first | (with_reducible assumption) | assumption)
          obtain ⟨ad583, e583, hx583_0, hx583_1⟩ := at_T62 HR2.out x24_1 p583 q583
          cases e583
          replace hx583_0 := (HB.out.cell (World.block_lt_of_cell? w _ hx583_0)).trans hx583_0
          replace hx583_1 := (HB.out.cell (World.block_lt_of_cell? w _ hx583_1)).trans hx583_1
          replace p583 := eq_true p583
          replace q583 := eq_true q583
          go_wp2_with (first | ((with_reducible refine gate_dst (N := 11) rfl ?_); refine box_event ?hg (N := 11) ?hd (cs := #[.int .i64 0, .string (⟨#[]⟩ : ByteArray)]) (t := 62) ?hr ?_; (case hd => rfl); (case hg => rfl); (case hr => first | (go_simp; done) | (go_simp; rfl)); intro gb584 hg w13 hbox hb; have n0_ := Aside0.mk (Kd.R_below (by (with_reducible repeat (first | apply Kd.R_alloc | apply Kd.R_drewN | apply Kd.R_drew)); exact HO_8.out) hb); have n1_ := Aside0.mk (below_step (by repeat (first | (with_reducible first | exact HB.out | apply below_alloc | apply pw_below_drewN | apply below_drew1) | exact HB.out)) hb); have n2_ := Aside0.mk (hbox); have n3_ := Aside0.mk ((by rw [hg]; exact (below_size (by repeat (first | (with_reducible first | exact HB.out | apply below_alloc | apply pw_below_drewN | apply below_drew1) | exact HB.out))) : w.heap.size ≤ gb584)); have n4_ := Aside0.mk ((by rw [hg]; exact (below_size (by repeat (first | (with_reducible first | exact HB.out | apply below_alloc | apply pw_below_drewN | apply below_drew1) | exact HB.out))) : w.heap.size ≤ gb584)); clear HO_8; clear HB; have HO_8 := n0_; have HB := n1_; have BK584 := n2_; have GW584 := n3_; have GE584 := n4_; clear n0_ n1_ n2_ n3_ n4_; clear hb hbox hg; have hcz14_0 : w13.cell? ⟨gb584, 0, none⟩ = some (.int .i64 0) := (blk_cell BK584.out 0).trans rfl; have hcz14_1 : w13.cell? ⟨gb584, 1, none⟩ = some (.string (⟨#[]⟩ : ByteArray)) := (blk_cell BK584.out 1).trans rfl; have hfz14_0 := blk_frozen BK584.out 0; have hfz14_1 := blk_frozen BK584.out 1; obtain ⟨Ao15, co15, eo15⟩ := Kd.R_slice HO_8.out; subst eo15; have p585 : 0 ≤ (((rd_T62 l2 x24_1).f0) : Int) := of_decide_eq_true (by first | (with_reducible assumption) | assumption); have q585 : ((rd_T62 l2 x24_1).f0) < (t579.length : Int) := of_decide_eq_true (by first | (with_reducible assumption) | assumption); obtain ⟨ad585, e585, hx585_0⟩ := Kd.at_string (Kd.R_reads' HO_8.out).2.2 ((rd_T62 l2 x24_1).f0) p585 q585; cases e585; have hn585_0 : ad585.block ≠ gb584 := Kd.own_blk (Kd.R_ne HO_8.out BK584.out (by decide)); have hn585_1 : ad585.block ≠ gb584 := Kd.own_blk (Kd.R_ne HO_8.out BK584.out (by decide)); replace hx585_0 := (cell_far (p := ⟨gb584, 0, none⟩) (by first | (rw [add_block]; exact hn585_0) | (show (Addr.add _ _).block ≠ _; rw [add_block]; exact hn585_0) | exact hn585_0) (.int .i64 ((rd_T62 l2 x24_1).f0))).trans hx585_0; replace hx585_0 := (cell_far (p := ⟨gb584, 1, none⟩) (by first | (rw [add_block]; exact hn585_1) | (show (Addr.add _ _).block ≠ _; rw [add_block]; exact hn585_1) | exact hn585_1) (.string ((rd_T62 l2 x24_1).f1))).trans hx585_0; (try have hy585_0 := fun (n_ : Nat) => (show ((((w13.drewN n_).setCell ⟨gb584, 0, none⟩ (.int .i64 ((rd_T62 l2 x24_1).f0))).setCell ⟨gb584, 1, none⟩ (.string ((rd_T62 l2 x24_1).f1)))).cell? _ = some _ from hx585_0)); clear hn585_0; clear hn585_1; replace p585 := eq_true p585; replace q585 := eq_true q585))
          repeat (go_quiet (first | ((with_reducible refine gate_dst (N := 11) rfl ?_); refine box_event ?hg (N := 11) ?hd (cs := #[.int .i64 0, .string (⟨#[]⟩ : ByteArray)]) (t := 62) ?hr ?_; (case hd => rfl); (case hg => rfl); (case hr => first | (go_simp; done) | (go_simp; rfl)); intro gb584 hg w13 hbox hb; have n0_ := Aside0.mk (Kd.R_below (by (with_reducible repeat (first | apply Kd.R_alloc | apply Kd.R_drewN | apply Kd.R_drew)); exact HO_8.out) hb); have n1_ := Aside0.mk (below_step (by repeat (first | (with_reducible first | exact HB.out | apply below_alloc | apply pw_below_drewN | apply below_drew1) | exact HB.out)) hb); have n2_ := Aside0.mk (hbox); have n3_ := Aside0.mk ((by rw [hg]; exact (below_size (by repeat (first | (with_reducible first | exact HB.out | apply below_alloc | apply pw_below_drewN | apply below_drew1) | exact HB.out))) : w.heap.size ≤ gb584)); have n4_ := Aside0.mk ((by rw [hg]; exact (below_size (by repeat (first | (with_reducible first | exact HB.out | apply below_alloc | apply pw_below_drewN | apply below_drew1) | exact HB.out))) : w.heap.size ≤ gb584)); clear HO_8; clear HB; have HO_8 := n0_; have HB := n1_; have BK584 := n2_; have GW584 := n3_; have GE584 := n4_; clear n0_ n1_ n2_ n3_ n4_; clear hb hbox hg; have hcz14_0 : w13.cell? ⟨gb584, 0, none⟩ = some (.int .i64 0) := (blk_cell BK584.out 0).trans rfl; have hcz14_1 : w13.cell? ⟨gb584, 1, none⟩ = some (.string (⟨#[]⟩ : ByteArray)) := (blk_cell BK584.out 1).trans rfl; have hfz14_0 := blk_frozen BK584.out 0; have hfz14_1 := blk_frozen BK584.out 1; obtain ⟨Ao15, co15, eo15⟩ := Kd.R_slice HO_8.out; subst eo15; have p585 : 0 ≤ (((rd_T62 l2 x24_1).f0) : Int) := of_decide_eq_true (by first | (with_reducible assumption) | assumption); have q585 : ((rd_T62 l2 x24_1).f0) < (t579.length : Int) := of_decide_eq_true (by first | (with_reducible assumption) | assumption); obtain ⟨ad585, e585, hx585_0⟩ := Kd.at_string (Kd.R_reads' HO_8.out).2.2 ((rd_T62 l2 x24_1).f0) p585 q585; cases e585; have hn585_0 : ad585.block ≠ gb584 := Kd.own_blk (Kd.R_ne HO_8.out BK584.out (by decide)); have hn585_1 : ad585.block ≠ gb584 := Kd.own_blk (Kd.R_ne HO_8.out BK584.out (by decide)); replace hx585_0 := (cell_far (p := ⟨gb584, 0, none⟩) (by first | (rw [add_block]; exact hn585_0) | (show (Addr.add _ _).block ≠ _; rw [add_block]; exact hn585_0) | exact hn585_0) (.int .i64 ((rd_T62 l2 x24_1).f0))).trans hx585_0; replace hx585_0 := (cell_far (p := ⟨gb584, 1, none⟩) (by first | (rw [add_block]; exact hn585_1) | (show (Addr.add _ _).block ≠ _; rw [add_block]; exact hn585_1) | exact hn585_1) (.string ((rd_T62 l2 x24_1).f1))).trans hx585_0; (try have hy585_0 := fun (n_ : Nat) => (show ((((w13.drewN n_).setCell ⟨gb584, 0, none⟩ (.int .i64 ((rd_T62 l2 x24_1).f0))).setCell ⟨gb584, 1, none⟩ (.string ((rd_T62 l2 x24_1).f1)))).cell? _ = some _ from hx585_0)); clear hn585_0; clear hn585_1; replace p585 := eq_true p585; replace q585 := eq_true q585)); try go_wp2_with (first | ((with_reducible refine gate_dst (N := 11) rfl ?_); refine box_event ?hg (N := 11) ?hd (cs := #[.int .i64 0, .string (⟨#[]⟩ : ByteArray)]) (t := 62) ?hr ?_; (case hd => rfl); (case hg => rfl); (case hr => first | (go_simp; done) | (go_simp; rfl)); intro gb584 hg w13 hbox hb; have n0_ := Aside0.mk (Kd.R_below (by (with_reducible repeat (first | apply Kd.R_alloc | apply Kd.R_drewN | apply Kd.R_drew)); exact HO_8.out) hb); have n1_ := Aside0.mk (below_step (by repeat (first | (with_reducible first | exact HB.out | apply below_alloc | apply pw_below_drewN | apply below_drew1) | exact HB.out)) hb); have n2_ := Aside0.mk (hbox); have n3_ := Aside0.mk ((by rw [hg]; exact (below_size (by repeat (first | (with_reducible first | exact HB.out | apply below_alloc | apply pw_below_drewN | apply below_drew1) | exact HB.out))) : w.heap.size ≤ gb584)); have n4_ := Aside0.mk ((by rw [hg]; exact (below_size (by repeat (first | (with_reducible first | exact HB.out | apply below_alloc | apply pw_below_drewN | apply below_drew1) | exact HB.out))) : w.heap.size ≤ gb584)); clear HO_8; clear HB; have HO_8 := n0_; have HB := n1_; have BK584 := n2_; have GW584 := n3_; have GE584 := n4_; clear n0_ n1_ n2_ n3_ n4_; clear hb hbox hg; have hcz14_0 : w13.cell? ⟨gb584, 0, none⟩ = some (.int .i64 0) := (blk_cell BK584.out 0).trans rfl; have hcz14_1 : w13.cell? ⟨gb584, 1, none⟩ = some (.string (⟨#[]⟩ : ByteArray)) := (blk_cell BK584.out 1).trans rfl; have hfz14_0 := blk_frozen BK584.out 0; have hfz14_1 := blk_frozen BK584.out 1; obtain ⟨Ao15, co15, eo15⟩ := Kd.R_slice HO_8.out; subst eo15; have p585 : 0 ≤ (((rd_T62 l2 x24_1).f0) : Int) := of_decide_eq_true (by first | (with_reducible assumption) | assumption); have q585 : ((rd_T62 l2 x24_1).f0) < (t579.length : Int) := of_decide_eq_true (by first | (with_reducible assumption) | assumption); obtain ⟨ad585, e585, hx585_0⟩ := Kd.at_string (Kd.R_reads' HO_8.out).2.2 ((rd_T62 l2 x24_1).f0) p585 q585; cases e585; have hn585_0 : ad585.block ≠ gb584 := Kd.own_blk (Kd.R_ne HO_8.out BK584.out (by decide)); have hn585_1 : ad585.block ≠ gb584 := Kd.own_blk (Kd.R_ne HO_8.out BK584.out (by decide)); replace hx585_0 := (cell_far (p := ⟨gb584, 0, none⟩) (by first | (rw [add_block]; exact hn585_0) | (show (Addr.add _ _).block ≠ _; rw [add_block]; exact hn585_0) | exact hn585_0) (.int .i64 ((rd_T62 l2 x24_1).f0))).trans hx585_0; replace hx585_0 := (cell_far (p := ⟨gb584, 1, none⟩) (by first | (rw [add_block]; exact hn585_1) | (show (Addr.add _ _).block ≠ _; rw [add_block]; exact hn585_1) | exact hn585_1) (.string ((rd_T62 l2 x24_1).f1))).trans hx585_0; (try have hy585_0 := fun (n_ : Nat) => (show ((((w13.drewN n_).setCell ⟨gb584, 0, none⟩ (.int .i64 ((rd_T62 l2 x24_1).f0))).setCell ⟨gb584, 1, none⟩ (.string ((rd_T62 l2 x24_1).f1)))).cell? _ = some _ from hx585_0)); clear hn585_0; clear hn585_1; replace p585 := eq_true p585; replace q585 := eq_true q585)))
          go_roundg k1
          case measure => have := HK1.out; omega
          case rel => exact ⟨(wrap64 (x24_1 + 1)), (by first | rfl | (simp; done) | (simp [*]; done)), H', ⟨by have := HK1.out; omega⟩, ⟨by (with_reducible repeat (first | apply Kd.R_alloc | apply Kd.R_drewN | apply Kd.R_drew)); exact Kd.R_mono (Kd.R_far (p := ⟨gb584, 1, none⟩) (Kd.R_far (p := ⟨gb584, 0, none⟩) (Kd.R_types HO_8.out BK584.out (by decide)) (fun _ hk => hk.2) (.int .i64 ((rd_T62 l2 x24_1).f0))) (fun _ hk => hk.2) (.string ((rd_T62 l2 x24_1).f1))) (fun _ hk => trivial)⟩, ⟨by repeat (first | (with_reducible first | exact HB.out | apply below_alloc | apply pw_below_drewN | apply below_drew1 | refine below_set ?_ GE584.out) | exact HB.out)⟩⟩
         ·rw [if_neg c12] at H
          have c12b0 : ((rdOf ByteArray.empty t579 ((rd_T62 l2 x24_1).f0)).toList == ((rd_T62 l2 x24_1).f1).toList) = false := beq_eq_false_iff_ne.mpr c12
          have c12b1 : ((rdOf ByteArray.empty t579 ((rd_T62 l2 x24_1).f0)).toList != ((rd_T62 l2 x24_1).f1).toList) = true := bne_iff_ne.mpr c12
          simp only [Option.some.injEq, Prod.mk.injEq] at H
          obtain ⟨rfl, rfl⟩ := H
          have p583 : 0 ≤ (x24_1 : Int) := of_decide_eq_true (by first | (with_reducible assumption) | assumption)
          have q583 : x24_1 < (l2.length : Int) := of_decide_eq_true (by first | (with_reducible assumption) | assumption)
          obtain ⟨ad583, e583, hx583_0, hx583_1⟩ := at_T62 HR2.out x24_1 p583 q583
          cases e583
          replace hx583_0 := (HB.out.cell (World.block_lt_of_cell? w _ hx583_0)).trans hx583_0
          replace hx583_1 := (HB.out.cell (World.block_lt_of_cell? w _ hx583_1)).trans hx583_1
          replace p583 := eq_true p583
          replace q583 := eq_true q583
          go_wp2_with (first | ((with_reducible refine gate_dst (N := 11) rfl ?_); refine box_event ?hg (N := 11) ?hd (cs := #[.int .i64 0, .string (⟨#[]⟩ : ByteArray)]) (t := 62) ?hr ?_; (case hd => rfl); (case hg => rfl); (case hr => first | (go_simp; done) | (go_simp; rfl)); intro gb584 hg w16 hbox hb; have n0_ := Aside0.mk (Kd.R_below (by (with_reducible repeat (first | apply Kd.R_alloc | apply Kd.R_drewN | apply Kd.R_drew)); exact HO_8.out) hb); have n1_ := Aside0.mk (below_step (by repeat (first | (with_reducible first | exact HB.out | apply below_alloc | apply pw_below_drewN | apply below_drew1) | exact HB.out)) hb); have n2_ := Aside0.mk (hbox); have n3_ := Aside0.mk ((by rw [hg]; exact (below_size (by repeat (first | (with_reducible first | exact HB.out | apply below_alloc | apply pw_below_drewN | apply below_drew1) | exact HB.out))) : w.heap.size ≤ gb584)); have n4_ := Aside0.mk ((by rw [hg]; exact (below_size (by repeat (first | (with_reducible first | exact HB.out | apply below_alloc | apply pw_below_drewN | apply below_drew1) | exact HB.out))) : w.heap.size ≤ gb584)); clear HO_8; clear HB; have HO_8 := n0_; have HB := n1_; have BK584 := n2_; have GW584 := n3_; have GE584 := n4_; clear n0_ n1_ n2_ n3_ n4_; clear hb hbox hg; have hcz17_0 : w16.cell? ⟨gb584, 0, none⟩ = some (.int .i64 0) := (blk_cell BK584.out 0).trans rfl; have hcz17_1 : w16.cell? ⟨gb584, 1, none⟩ = some (.string (⟨#[]⟩ : ByteArray)) := (blk_cell BK584.out 1).trans rfl; have hfz17_0 := blk_frozen BK584.out 0; have hfz17_1 := blk_frozen BK584.out 1; obtain ⟨Ao18, co18, eo18⟩ := Kd.R_slice HO_8.out; subst eo18; have p585 : 0 ≤ (((rd_T62 l2 x24_1).f0) : Int) := of_decide_eq_true (by first | (with_reducible assumption) | assumption); have q585 : ((rd_T62 l2 x24_1).f0) < (t579.length : Int) := of_decide_eq_true (by first | (with_reducible assumption) | assumption); obtain ⟨ad585, e585, hx585_0⟩ := Kd.at_string (Kd.R_reads' HO_8.out).2.2 ((rd_T62 l2 x24_1).f0) p585 q585; cases e585; have hn585_0 : ad585.block ≠ gb584 := Kd.own_blk (Kd.R_ne HO_8.out BK584.out (by decide)); have hn585_1 : ad585.block ≠ gb584 := Kd.own_blk (Kd.R_ne HO_8.out BK584.out (by decide)); replace hx585_0 := (cell_far (p := ⟨gb584, 0, none⟩) (by first | (rw [add_block]; exact hn585_0) | (show (Addr.add _ _).block ≠ _; rw [add_block]; exact hn585_0) | exact hn585_0) (.int .i64 ((rd_T62 l2 x24_1).f0))).trans hx585_0; replace hx585_0 := (cell_far (p := ⟨gb584, 1, none⟩) (by first | (rw [add_block]; exact hn585_1) | (show (Addr.add _ _).block ≠ _; rw [add_block]; exact hn585_1) | exact hn585_1) (.string ((rd_T62 l2 x24_1).f1))).trans hx585_0; (try have hy585_0 := fun (n_ : Nat) => (show ((((w16.drewN n_).setCell ⟨gb584, 0, none⟩ (.int .i64 ((rd_T62 l2 x24_1).f0))).setCell ⟨gb584, 1, none⟩ (.string ((rd_T62 l2 x24_1).f1)))).cell? _ = some _ from hx585_0)); clear hn585_0; clear hn585_1; replace p585 := eq_true p585; replace q585 := eq_true q585))
          repeat (go_quiet (first | ((with_reducible refine gate_dst (N := 11) rfl ?_); refine box_event ?hg (N := 11) ?hd (cs := #[.int .i64 0, .string (⟨#[]⟩ : ByteArray)]) (t := 62) ?hr ?_; (case hd => rfl); (case hg => rfl); (case hr => first | (go_simp; done) | (go_simp; rfl)); intro gb584 hg w16 hbox hb; have n0_ := Aside0.mk (Kd.R_below (by (with_reducible repeat (first | apply Kd.R_alloc | apply Kd.R_drewN | apply Kd.R_drew)); exact HO_8.out) hb); have n1_ := Aside0.mk (below_step (by repeat (first | (with_reducible first | exact HB.out | apply below_alloc | apply pw_below_drewN | apply below_drew1) | exact HB.out)) hb); have n2_ := Aside0.mk (hbox); have n3_ := Aside0.mk ((by rw [hg]; exact (below_size (by repeat (first | (with_reducible first | exact HB.out | apply below_alloc | apply pw_below_drewN | apply below_drew1) | exact HB.out))) : w.heap.size ≤ gb584)); have n4_ := Aside0.mk ((by rw [hg]; exact (below_size (by repeat (first | (with_reducible first | exact HB.out | apply below_alloc | apply pw_below_drewN | apply below_drew1) | exact HB.out))) : w.heap.size ≤ gb584)); clear HO_8; clear HB; have HO_8 := n0_; have HB := n1_; have BK584 := n2_; have GW584 := n3_; have GE584 := n4_; clear n0_ n1_ n2_ n3_ n4_; clear hb hbox hg; have hcz17_0 : w16.cell? ⟨gb584, 0, none⟩ = some (.int .i64 0) := (blk_cell BK584.out 0).trans rfl; have hcz17_1 : w16.cell? ⟨gb584, 1, none⟩ = some (.string (⟨#[]⟩ : ByteArray)) := (blk_cell BK584.out 1).trans rfl; have hfz17_0 := blk_frozen BK584.out 0; have hfz17_1 := blk_frozen BK584.out 1; obtain ⟨Ao18, co18, eo18⟩ := Kd.R_slice HO_8.out; subst eo18; have p585 : 0 ≤ (((rd_T62 l2 x24_1).f0) : Int) := of_decide_eq_true (by first | (with_reducible assumption) | assumption); have q585 : ((rd_T62 l2 x24_1).f0) < (t579.length : Int) := of_decide_eq_true (by first | (with_reducible assumption) | assumption); obtain ⟨ad585, e585, hx585_0⟩ := Kd.at_string (Kd.R_reads' HO_8.out).2.2 ((rd_T62 l2 x24_1).f0) p585 q585; cases e585; have hn585_0 : ad585.block ≠ gb584 := Kd.own_blk (Kd.R_ne HO_8.out BK584.out (by decide)); have hn585_1 : ad585.block ≠ gb584 := Kd.own_blk (Kd.R_ne HO_8.out BK584.out (by decide)); replace hx585_0 := (cell_far (p := ⟨gb584, 0, none⟩) (by first | (rw [add_block]; exact hn585_0) | (show (Addr.add _ _).block ≠ _; rw [add_block]; exact hn585_0) | exact hn585_0) (.int .i64 ((rd_T62 l2 x24_1).f0))).trans hx585_0; replace hx585_0 := (cell_far (p := ⟨gb584, 1, none⟩) (by first | (rw [add_block]; exact hn585_1) | (show (Addr.add _ _).block ≠ _; rw [add_block]; exact hn585_1) | exact hn585_1) (.string ((rd_T62 l2 x24_1).f1))).trans hx585_0; (try have hy585_0 := fun (n_ : Nat) => (show ((((w16.drewN n_).setCell ⟨gb584, 0, none⟩ (.int .i64 ((rd_T62 l2 x24_1).f0))).setCell ⟨gb584, 1, none⟩ (.string ((rd_T62 l2 x24_1).f1)))).cell? _ = some _ from hx585_0)); clear hn585_0; clear hn585_1; replace p585 := eq_true p585; replace q585 := eq_true q585)); try go_wp2_with (first | ((with_reducible refine gate_dst (N := 11) rfl ?_); refine box_event ?hg (N := 11) ?hd (cs := #[.int .i64 0, .string (⟨#[]⟩ : ByteArray)]) (t := 62) ?hr ?_; (case hd => rfl); (case hg => rfl); (case hr => first | (go_simp; done) | (go_simp; rfl)); intro gb584 hg w16 hbox hb; have n0_ := Aside0.mk (Kd.R_below (by (with_reducible repeat (first | apply Kd.R_alloc | apply Kd.R_drewN | apply Kd.R_drew)); exact HO_8.out) hb); have n1_ := Aside0.mk (below_step (by repeat (first | (with_reducible first | exact HB.out | apply below_alloc | apply pw_below_drewN | apply below_drew1) | exact HB.out)) hb); have n2_ := Aside0.mk (hbox); have n3_ := Aside0.mk ((by rw [hg]; exact (below_size (by repeat (first | (with_reducible first | exact HB.out | apply below_alloc | apply pw_below_drewN | apply below_drew1) | exact HB.out))) : w.heap.size ≤ gb584)); have n4_ := Aside0.mk ((by rw [hg]; exact (below_size (by repeat (first | (with_reducible first | exact HB.out | apply below_alloc | apply pw_below_drewN | apply below_drew1) | exact HB.out))) : w.heap.size ≤ gb584)); clear HO_8; clear HB; have HO_8 := n0_; have HB := n1_; have BK584 := n2_; have GW584 := n3_; have GE584 := n4_; clear n0_ n1_ n2_ n3_ n4_; clear hb hbox hg; have hcz17_0 : w16.cell? ⟨gb584, 0, none⟩ = some (.int .i64 0) := (blk_cell BK584.out 0).trans rfl; have hcz17_1 : w16.cell? ⟨gb584, 1, none⟩ = some (.string (⟨#[]⟩ : ByteArray)) := (blk_cell BK584.out 1).trans rfl; have hfz17_0 := blk_frozen BK584.out 0; have hfz17_1 := blk_frozen BK584.out 1; obtain ⟨Ao18, co18, eo18⟩ := Kd.R_slice HO_8.out; subst eo18; have p585 : 0 ≤ (((rd_T62 l2 x24_1).f0) : Int) := of_decide_eq_true (by first | (with_reducible assumption) | assumption); have q585 : ((rd_T62 l2 x24_1).f0) < (t579.length : Int) := of_decide_eq_true (by first | (with_reducible assumption) | assumption); obtain ⟨ad585, e585, hx585_0⟩ := Kd.at_string (Kd.R_reads' HO_8.out).2.2 ((rd_T62 l2 x24_1).f0) p585 q585; cases e585; have hn585_0 : ad585.block ≠ gb584 := Kd.own_blk (Kd.R_ne HO_8.out BK584.out (by decide)); have hn585_1 : ad585.block ≠ gb584 := Kd.own_blk (Kd.R_ne HO_8.out BK584.out (by decide)); replace hx585_0 := (cell_far (p := ⟨gb584, 0, none⟩) (by first | (rw [add_block]; exact hn585_0) | (show (Addr.add _ _).block ≠ _; rw [add_block]; exact hn585_0) | exact hn585_0) (.int .i64 ((rd_T62 l2 x24_1).f0))).trans hx585_0; replace hx585_0 := (cell_far (p := ⟨gb584, 1, none⟩) (by first | (rw [add_block]; exact hn585_1) | (show (Addr.add _ _).block ≠ _; rw [add_block]; exact hn585_1) | exact hn585_1) (.string ((rd_T62 l2 x24_1).f1))).trans hx585_0; (try have hy585_0 := fun (n_ : Nat) => (show ((((w16.drewN n_).setCell ⟨gb584, 0, none⟩ (.int .i64 ((rd_T62 l2 x24_1).f0))).setCell ⟨gb584, 1, none⟩ (.string ((rd_T62 l2 x24_1).f1)))).cell? _ = some _ from hx585_0)); clear hn585_0; clear hn585_1; replace p585 := eq_true p585; replace q585 := eq_true q585)))
          go_ret2
          exact ⟨by first | rfl | (simp [errW_none, errW_some] <;> rfl) | (simp [*, errW_none, errW_some] <;> rfl), by repeat (first | (with_reducible first | exact HB.out | apply below_alloc | apply pw_below_drewN | apply below_drew1 | refine below_set ?_ GE584.out) | exact HB.out)⟩
        ·rw [if_neg c11] at H
         exact absurd H (by simp)
       ·rw [if_neg c10] at H
        exact absurd H (by simp)
      ·rw [if_neg c9] at H
       exact absurd H (by simp)
     ·rw [if_neg c8] at H
      exact absurd H (by simp)
    ·rw [if_neg c7] at H
     have c7b0 : decide (x24_1 < (l2.length : Int)) = false := decide_eq_false c7
     clear c7
     simp only [Option.some.injEq, Prod.mk.injEq] at H
     obtain ⟨rfl, rfl⟩ := H
     go_wp2
     repeat (go_quiet (fail); try go_wp2)
     go_ret2
     exact ⟨by first | rfl | (simp [errW_none, errW_some] <;> rfl) | (simp [*, errW_none, errW_some] <;> rfl), by repeat (first | (with_reducible first | exact HB.out | apply below_alloc | apply pw_below_drewN | apply below_drew1) | exact HB.out)⟩
 ·rw [if_neg c5] at H
  have c5b0 : (t580 == 0) = false := beq_eq_false_iff_ne.mpr c5
  have c5b1 : (t580 != 0) = true := bne_iff_ne.mpr c5
  simp only [Option.some.injEq, Prod.mk.injEq] at H
  obtain ⟨rfl, rfl⟩ := H
  go_enter Tryd.func45, Tryd.ntmps45
  go_wp2_with (first | (go_at_call 65; (with_reducible refine (mend_all.calls k a0 a1 _ _ l2 t579 t580 _ ?side1 ?side2 A4.out).mono ?_); (case side1 => repeat (first | exact HR2.out | (with_reducible refine Kd.C_alloc ?_ _) | (with_reducible refine Kd.C_drewN ?_ _) | (with_reducible refine Kd.C_drew ?_))); (case side2 => exact HC2.out); rintro e w19 ⟨v581, rfl, ho0, hb⟩; have n0_ := Aside0.mk (Kd.R_lower ho0 (below_size (by repeat (first | (with_reducible first | exact HB.out | apply below_alloc | apply pw_below_drewN | apply below_drew1) | exact HB.out)))); have n1_ := Aside0.mk (below_step (by repeat (first | (with_reducible first | exact HB.out | apply below_alloc | apply pw_below_drewN | apply below_drew1) | exact HB.out)) hb); clear HB; have HO582 := n0_; have HB := n1_; clear n0_ n1_; (try clear hb); (try clear hb2); (try clear hk); (try clear hi); (try clear ho0)))
  repeat (go_quiet (first | (go_at_call 65; (with_reducible refine (mend_all.calls k a0 a1 _ _ l2 t579 t580 _ ?side1 ?side2 A4.out).mono ?_); (case side1 => repeat (first | exact HR2.out | (with_reducible refine Kd.C_alloc ?_ _) | (with_reducible refine Kd.C_drewN ?_ _) | (with_reducible refine Kd.C_drew ?_))); (case side2 => exact HC2.out); rintro e w19 ⟨v581, rfl, ho0, hb⟩; have n0_ := Aside0.mk (Kd.R_lower ho0 (below_size (by repeat (first | (with_reducible first | exact HB.out | apply below_alloc | apply pw_below_drewN | apply below_drew1) | exact HB.out)))); have n1_ := Aside0.mk (below_step (by repeat (first | (with_reducible first | exact HB.out | apply below_alloc | apply pw_below_drewN | apply below_drew1) | exact HB.out)) hb); clear HB; have HO582 := n0_; have HB := n1_; clear n0_ n1_; (try clear hb); (try clear hb2); (try clear hk); (try clear hi); (try clear ho0))); try go_wp2_with (first | (go_at_call 65; (with_reducible refine (mend_all.calls k a0 a1 _ _ l2 t579 t580 _ ?side1 ?side2 A4.out).mono ?_); (case side1 => repeat (first | exact HR2.out | (with_reducible refine Kd.C_alloc ?_ _) | (with_reducible refine Kd.C_drewN ?_ _) | (with_reducible refine Kd.C_drew ?_))); (case side2 => exact HC2.out); rintro e w19 ⟨v581, rfl, ho0, hb⟩; have n0_ := Aside0.mk (Kd.R_lower ho0 (below_size (by repeat (first | (with_reducible first | exact HB.out | apply below_alloc | apply pw_below_drewN | apply below_drew1) | exact HB.out)))); have n1_ := Aside0.mk (below_step (by repeat (first | (with_reducible first | exact HB.out | apply below_alloc | apply pw_below_drewN | apply below_drew1) | exact HB.out)) hb); clear HB; have HO582 := n0_; have HB := n1_; clear n0_ n1_; (try clear hb); (try clear hb2); (try clear hk); (try clear hi); (try clear ho0))))
  go_ret2
  exact ⟨by first | rfl | (simp [errW_none, errW_some] <;> rfl) | (simp [*, errW_none, errW_some] <;> rfl), by repeat (first | (with_reducible first | exact HB.out | apply below_alloc | apply pw_below_drewN | apply below_drew1) | exact HB.out)⟩

end Go.Proofs.YtegmmefijihdeaaDoor.PS
namespace Go.Proofs.YtegmmefijihdeaaDoor.PS
open Go.RowKit Go.Proofs.YtegmmefijihdeaaDoorW.PrintWords Go.Proofs.YtegmmefijihdeaaDoorW.PrintLast Go.Proofs.YtegmmefijihdeaaDoorW.PrintMore Go.Proofs.YtegmmefijihdeaaDoor.Gf Go.Proofs.YtegmmefijihdeaaDoor.Fld Go.Proofs.YtegmmefijihdeaaDoor.Grd Go.Proofs.YtegmmefijihdeaaDoor.Rowb
set_option linter.unusedVariables false
set_option linter.unusedSimpArgs false
def oneV (L : List ByteArray) (q : Int) : ByteArray × Int := if q < 0 then (⟨#[]⟩, 1) else if q ≥ (L.length : Int) then (⟨#[]⟩, 1) else (rdOf ByteArray.empty L q, 0)
def agGo (L : List ByteArray) (l : List S62) : Nat → Nat → Bool
  | 0, _ => true
  | d + 1, i => if (rdOf ByteArray.empty L (rd_T62 l (i : Int)).f0).toList = (rd_T62 l (i : Int)).f1.toList then agGo L l d (i + 1) else false
def agreeB (L : List ByteArray) (l : List S62) : Bool := agGo L l l.length 0
theorem oneV_eq (L : List ByteArray) (q : Int) : (if q < 0 then (some ((⟨#[]⟩ : ByteArray), (1 : Int))) else (if q ≥ (L.length : Int) then (some ((⟨#[]⟩ : ByteArray), 1)) else (if 0 ≤ q then (if q < (L.length : Int) then (some (rdOf ByteArray.empty L q, 0)) else (none)) else (none)))) = some (oneV L q) := by
  unfold oneV
  by_cases h1 : q < 0
  · rw [if_pos h1, if_pos h1]
  · rw [if_neg h1, if_neg h1]
    by_cases h2 : q ≥ (L.length : Int)
    · rw [if_pos h2, if_pos h2]
    · rw [if_neg h2, if_neg h2, if_pos (by omega), if_pos (by omega)]
section
variable {K M : Nat} {l : List S62} (g : Good K M l)
include g
theorem Good.one_f (q : Int) (n : Nat) (hn : 256 ≤ n) : mend_One.f n (K : Int) (M : Int) l q = some (oneV (allL K M (shardN l) (dataL K M l)) q) := by
  unfold mend_One.f
  rw [g.all_f n hn, Option.bind_some, if_pos rfl]
  exact oneV_eq _ q
theorem Good.agree_from (hl : l.length < 9223372036854775807) (d : Nat) : ∀ i, i + d = l.length → ∀ k, d + 1 ≤ k → mend_Agree.l0 k (allL K M (shardN l) (dataL K M l)) l (l.length : Int) (i : Int) = some (agGo (allL K M (shardN l) (dataL K M l)) l d i, 0) := by
  have hal : (allL K M (shardN l) (dataL K M l)).length = K + M := allL_len g.dataLen
  induction d with
  | zero =>
    intro i hi k hk
    obtain ⟨m, rfl, _⟩ := pred_of (K := 0) hk
    simp only [mend_Agree.l0]
    rw [if_neg (by omega)]
    rfl
  | succ d ih =>
    intro i hi k hk
    obtain ⟨m, rfl, hm⟩ := pred_of hk
    have hil : i < l.length := by omega
    have hr := g.rng i hil
    simp only [mend_Agree.l0]
    unfold agGo
    rw [rdT_nat l i hil, if_pos (by omega), if_pos (by omega), if_pos (by omega), if_pos hr.1, if_pos (by rw [hal]; push_cast; exact hr.2)]
    by_cases e : (rdOf ByteArray.empty (allL K M (shardN l) (dataL K M l)) l[i].f0).toList = l[i].f1.toList
    · rw [if_pos e, if_pos e, w64_in ((i : Int) + 1) (by omega) (by omega)]
      exact ih (i + 1) (by omega) m hm
    · rw [if_neg e, if_neg e]
theorem Good.agree_f (n : Nat) (hn : l.length + 256 ≤ n) (hl : l.length < 9223372036854775807) : mend_Agree.f n (K : Int) (M : Int) l = some (agreeB (allL K M (shardN l) (dataL K M l)) l, 0) := by
  unfold mend_Agree.f
  rw [g.all_f n (by omega), Option.bind_some, if_pos rfl]
  exact g.agree_from hl l.length 0 (by omega) n (by omega)
end
end Go.Proofs.YtegmmefijihdeaaDoor.PS
namespace Go.Proofs.YtegmmefijihdeaaDoor.PS
open Go.RowKit Go.Proofs.YtegmmefijihdeaaDoorW.PrintWords Go.Proofs.YtegmmefijihdeaaDoorW.PrintLast Go.Proofs.YtegmmefijihdeaaDoorW.PrintMore
attribute [local go_sem] Mk.str_leq Mk.str_gtr Mk.str_geq max2_int min2_int max_two min_two max_three min_three max_four min_four   -- for this text's walks alone
set_option linter.unusedVariables false
set_option linter.unusedSimpArgs false

/-! ### corncriblaw04_some: function 42 -/
mutual
def corncriblaw04_some.l0 : Nat → List ByteArray → Int → List Int → List Int → Int → Int → Option ((List (S62)))
 | 0, _, _, _, _, _, _ => none
 | k + 1, x0, x1, x2, x7, x13, x14 => if x14 < x13 then (if x7.length < 17592186044416 then (corncriblaw04_some.l0 k x0 x1 x2 (x7 ++ [x14]) x13 (wrap64 (x14 + 1))) else (none)) else (corncriblaw04_some.l1 k x0 x2 x7 ([] : List (S62)) x1 0)
def corncriblaw04_some.l1 : Nat → List ByteArray → List Int → List Int → List (S62) → Int → Int → Option ((List (S62)))
 | 0, _, _, _, _, _, _ => none
 | k + 1, x0, x2, x7, x9, x22, x23 => if x23 < x22 then (if x23 < (x2.length : Int) then (if 0 ≤ x23 then ((corncribbook_Among.f (rd x2 x23) (x7.length : Int)).bind fun t479 => (if 0 ≤ t479 then (if t479 < (x7.length : Int) then (if 0 ≤ (rd x7 t479) then (if (rd x7 t479) < (x0.length : Int) then (if x9.length < 5864062014805 then ((some (([] : List Int) : List Int)).bind fun y486 => (if t479 ≤ (x7.length : Int) then ((some (x7.take (t479 : Int).toNat : List Int)).bind fun y489 => (if y486.length + y489.length < 17592186044416 then ((some (y486 ++ y489 : List Int)).bind fun y493 => (if 0 ≤ (wrap64 (t479 + 1)) then (if (wrap64 (t479 + 1)) ≤ (x7.length : Int) then ((some (x7.drop ((wrap64 (t479 + 1)) : Int).toNat : List Int)).bind fun y496 => (if y493.length + y496.length < 17592186044416 then (corncriblaw04_some.l1 k x0 x2 (y493 ++ y496) (x9 ++ [(⟨rd x7 t479, rdOf ByteArray.empty x0 (rd x7 t479)⟩ : S62)]) x22 (wrap64 (x23 + 1))) else (none))) else (none)) else (none))) else (none))) else (none))) else (none)) else (none)) else (none)) else (none)) else (none))) else (none)) else (if 0 < (x7.length : Int) then (if 0 ≤ (rd x7 0) then (if (rd x7 0) < (x0.length : Int) then (if x9.length < 5864062014805 then ((some (([] : List Int) : List Int)).bind fun y509 => (if 0 ≤ (x7.length : Int) then ((some (x7.take 0 : List Int)).bind fun y512 => (if y509.length + y512.length < 17592186044416 then ((some (y509 ++ y512 : List Int)).bind fun y516 => (if 1 ≤ (x7.length : Int) then ((some (x7.drop 1 : List Int)).bind fun y519 => (if y516.length + y519.length < 17592186044416 then (corncriblaw04_some.l1 k x0 x2 (y516 ++ y519) (x9 ++ [(⟨rd x7 0, rdOf ByteArray.empty x0 (rd x7 0)⟩ : S62)]) x22 (wrap64 (x23 + 1))) else (none))) else (none))) else (none))) else (none))) else (none)) else (none)) else (none)) else (none))) else (some x9)
end
def corncriblaw04_some.f (k : Nat) (l0 : List ByteArray) (a1 : Int) (l2 : List Int) : Option ((List (S62))) := corncriblaw04_some.l0 k l0 a1 l2 ([] : List Int) (l0.length : Int) 0
theorem corncriblaw04_some.mono_l : ∀ k, (∀ y0 y1 y2 y3 y4 y5, LeO (corncriblaw04_some.l0 k y0 y1 y2 y3 y4 y5) (corncriblaw04_some.l0 (k + 1) y0 y1 y2 y3 y4 y5)) ∧ (∀ y0 y1 y2 y3 y4 y5, LeO (corncriblaw04_some.l1 k y0 y1 y2 y3 y4 y5) (corncriblaw04_some.l1 (k + 1) y0 y1 y2 y3 y4 y5))
 | 0 => ⟨fun _ _ _ _ _ _ r h => by simp [corncriblaw04_some.l0] at h, fun _ _ _ _ _ _ r h => by simp [corncriblaw04_some.l1] at h⟩
 | k + 1 => by
  obtain ⟨ih0, ih1⟩ := corncriblaw04_some.mono_l k
  refine ⟨?_, ?_⟩
  ·intro y0 y1 y2 y3 y4 y5
   unfold corncriblaw04_some.l0
   repeat' first
   | (with_reducible exact ih0 _ _ _ _ _ _)
   | (with_reducible exact ih1 _ _ _ _ _ _)
   | (with_reducible exact LeO.refl _)
   | (with_reducible exact LeO.none _)
   | (with_reducible refine LeO.ite ?_ ?_)
   | (with_reducible refine LeO.bind ?_ (fun _ => ?_))
   | exact ih0 _ _ _ _ _ _
   | exact ih1 _ _ _ _ _ _
   | exact LeO.none _
   | refine LeO.ite ?_ ?_
   | refine LeO.bind ?_ (fun _ => ?_)
  ·intro y0 y1 y2 y3 y4 y5
   unfold corncriblaw04_some.l1
   repeat' first
   | (with_reducible exact ih0 _ _ _ _ _ _)
   | (with_reducible exact ih1 _ _ _ _ _ _)
   | (with_reducible exact LeO.refl _)
   | (with_reducible exact LeO.none _)
   | (with_reducible refine LeO.ite ?_ ?_)
   | (with_reducible refine LeO.bind ?_ (fun _ => ?_))
   | exact ih0 _ _ _ _ _ _
   | exact ih1 _ _ _ _ _ _
   | exact LeO.none _
   | refine LeO.ite ?_ ?_
   | refine LeO.bind ?_ (fun _ => ?_)
theorem corncriblaw04_some.mono : ∀ a0 a1 a2 k, LeO (corncriblaw04_some.f k a0 a1 a2) (corncriblaw04_some.f (k + 1) a0 a1 a2) := by
 intro a0 a1 a2 k
 obtain ⟨ih0, ih1⟩ := corncriblaw04_some.mono_l k
 unfold corncriblaw04_some.f
 repeat' first
   | (with_reducible exact ih0 _ _ _ _ _ _)
   | (with_reducible exact ih1 _ _ _ _ _ _)
   | (with_reducible exact LeO.refl _)
   | (with_reducible exact LeO.none _)
   | (with_reducible refine LeO.ite ?_ ?_)
   | (with_reducible refine LeO.bind ?_ (fun _ => ?_))
   | exact ih0 _ _ _ _ _ _
   | exact ih1 _ _ _ _ _ _
   | exact LeO.none _
   | refine LeO.ite ?_ ?_
   | refine LeO.bind ?_ (fun _ => ?_)
def corncriblaw04_some.T14 : Bool × List (List Nat × List Nat) := (true, [([], []), ([], []), ([], []), ([1, 2], [1, 2]), ([3], [3]), ([], []), ([], []), ([], []), ([6, 7], [6, 7]), ([8], [8]), ([5, 9], [5, 9]), ([10], [10]), ([4, 11], [4, 11]), ([12], [12]), ([0, 13], [0, 13]), ([14, 14, 0, 1, 2, 3, 4, 5, 6, 7, 8, 9, 10, 11, 12, 13, 14], [0, 14])])
def corncriblaw04_some.B14 : List Nat := [0, 0, 0, 6, 14, 0, 0, 0, 192, 448, 992, 2016, 4094, 8190, 16383, 32767]
theorem corncriblaw04_some.tab14 : rtab .any (opsOf Tryd.f42 14) = corncriblaw04_some.T14 := by kernel_rfl
theorem corncriblaw04_some.bits14 : waitsOk corncriblaw04_some.T14.2 corncriblaw04_some.B14 = true := by kernel_rfl
def corncriblaw04_some.T15 : Bool × List (List Nat × List Nat) := (true, [([], []), ([], []), ([], []), ([1, 2], [1, 2]), ([0, 3], [0, 3]), ([], []), ([], []), ([6], [6]), ([5, 7], [5, 7]), ([4, 8, 4], [4, 8]), ([9, 9, 0, 1, 2, 3, 4, 5, 6, 7, 8, 9], [1, 5, 9])])
def corncriblaw04_some.B15 : List Nat := [0, 0, 0, 6, 15, 0, 0, 64, 224, 511, 1023]
theorem corncriblaw04_some.tab15 : rtab .any (opsOf Tryd.f42 15) = corncriblaw04_some.T15 := by kernel_rfl
theorem corncriblaw04_some.bits15 : waitsOk corncriblaw04_some.T15.2 corncriblaw04_some.B15 = true := by kernel_rfl
set_option maxHeartbeats 8000000 in
set_option maxRecDepth 100000 in
theorem corncriblaw04_some.calls (k : Nat) (A0 : Option Addr) (c0 : Nat) (l0 : List ByteArray) (a1 : Int) (A2 : Option Addr) (c2 : Nat) (l2 : List Int) (r : List (S62)) (w : World) (hr0 : Kd.C Kd.string w A0 l0.length l0) (hc0 : l0.length ≤ c0) (hr2 : Kd.C (Kd.int .i64) w A2 l2.length l2) (hc2 : l2.length ≤ c2) (h : corncriblaw04_some.f k l0 a1 l2 = some r) :
  Calls Tryd.prog 42 #[.slice A0 l0.length c0, .int .i64 a1, .slice A2 l2.length c2] w fun e w' => ∃ v0_ : Value, e = .returned (v0_) ∧ Kd.R k62 62 w' w.heap.size (fun _ => True) v0_ r ∧ Below w.heap.size w w' := by
 have hw1_ : wrap64 1 = 1 := by unfold wrap64; omega
 have hu62 := Tryd.underlying62
 have HR0 := Aside0.mk hr0
 have HC0 := Aside0.mk hc0
 clear hr0 hc0
 have HR2 := Aside0.mk hr2
 have HC2 := Aside0.mk hc2
 clear hr2 hc2
 have HB := Aside0.mk (Below.refl w.heap.size w)
 have H : (corncriblaw04_some.l0 k l0 a1 l2 ([] : List Int) (l0.length : Int) 0) = some r := h
 clear h
 have H' := Aside0.mk H
 clear H
 go_enter Tryd.func42, Tryd.ntmps42
 go_wp2
 go_loopg [7, 14] k (fun kq v7 v14 w' => ∃ (x7_1 : List Int) (x14_1 : Int), v14 = .int .i64 x14_1 ∧ Aside0 (corncriblaw04_some.l0 kq l0 a1 l2 x7_1 (l0.length : Int) x14_1 = some r) ∧ Aside0 (kq ≤ k) ∧ Aside0 (Kd.R (Kd.int .i64) 3 w' w.heap.size (fun _ => True) v7 x7_1) ∧ Aside0 (Below w.heap.size w w'))
 case atStart => exact ⟨(([] : List Int)), (0), (by first | rfl | (simp; done) | (simp [*]; done)), H', ⟨Nat.le_refl _⟩, ⟨by first | exact Kd.R_nil _ _ _ _ _ | exact Kd.N_nil _ _ _ _ _ | exact Kd.V_nil _ _ _ _ _ | exact Kd.Q_nil _ _ _ _ _ | exact Kd.S_nil _ _ _ _ _⟩, ⟨by repeat (first | (with_reducible first | exact HB.out | apply below_alloc | apply pw_below_drewN | apply below_drew1) | exact HB.out)⟩⟩
 case round =>
  clear H'
  try clear c2
  try clear p2
  obtain ⟨x7_1, x14_1, rfl, HA, HK1, HO_7, HB⟩ := hrel
  cases gk with
  | zero => exact absurd HA.out (by simp [corncriblaw04_some.l0])
  | succ k1 =>
   have H := HA.out
   clear HA
   simp only [corncriblaw04_some.l0] at H
   by_cases c4 : x14_1 < (l0.length : Int)
   ·rw [if_pos c4] at H
    have c4b0 : decide (x14_1 < (l0.length : Int)) = true := decide_eq_true c4
    clear c4
    by_cases c5 : x7_1.length < 17592186044416
    ·rw [if_pos c5] at H
     have LMc5 := Aside0.mk c5
     clear c5
     obtain ⟨y475, hy475⟩ : ∃ y_ : List Int, y_ = (x7_1 ++ [x14_1]) := ⟨_, rfl⟩
     replace H : (corncriblaw04_some.l0 k1 l0 a1 l2 y475 (l0.length : Int) (wrap64 (x14_1 + 1))) = some r := by first | (rw [hy475]; with_reducible exact H) | (have H2_ := (Option.bind_some _ _).symm.trans H; rw [hy475]; with_reducible exact H2_) | (have H2_ := (Option.bind_some _ _).symm.trans H; with_reducible exact H2_) | with_reducible exact H | (rw [hy475]; exact H) | exact H
     have Ny475 := Aside0.mk hy475
     clear hy475
     have H' := Aside0.mk H
     clear H
     go_wp2_with (first | ((with_reducible refine gate_builtin (b := .append) (xs := #[.tmp 17, .tmp 19]) rfl ?_); at_builtin; refine Kd.R_append (Kd.int .i64) (w0 := w) w.heap.size rfl (.tmp 17) (.tmp 19) 56 3 (.int .i64 0) 8 rfl Tryd.underlying56 info3 rfl (by decide) (by omega) u7 x7_1 x14_1 [.int .i64 x14_1] (fun _ => True) (fun _ => False) rfl rfl ?aP (fun _ hk => hk.elim) ?aF ?aO ?aB ?aS ?aL ?_; (case aP => exact rfl); (case aB => exact (by repeat (first | (with_reducible first | exact HB.out | apply below_alloc | apply pw_below_drewN | apply below_drew1) | exact HB.out))); (case aF => exact (fun _ _ => trivial)); (case aO => exact (by (with_reducible repeat (first | apply Kd.R_alloc | apply Kd.R_drewN | apply Kd.R_drew)); exact HO_7.out)); (case aS => exact (below_size (by repeat (first | (with_reducible first | exact HB.out | apply below_alloc | apply pw_below_drewN | apply below_drew1) | exact HB.out)))); (case aL => have := LMc5.out; omega); intro v476 w6 ho hb hg hat; rw [← Ny475.out] at ho; have n0_ := Aside0.mk (hb); have n1_ := Aside0.mk (ho); clear HB; clear HO_7; have HB := n0_; have HO477 := n1_; clear n0_ n1_; clear ho hb hg hat))
     go_roundg k1
     case measure => have := HK1.out; omega
     case rel => exact ⟨(y475), (wrap64 (x14_1 + 1)), (by first | rfl | (simp; done) | (simp [*]; done)), H', ⟨by have := HK1.out; omega⟩, ⟨by (with_reducible repeat (first | apply Kd.R_alloc | apply Kd.R_drewN | apply Kd.R_drew)); exact HO477.out⟩, ⟨by repeat (first | (with_reducible first | exact HB.out | apply below_alloc | apply pw_below_drewN | apply below_drew1) | exact HB.out)⟩⟩
    ·rw [if_neg c5] at H
     exact absurd H (by simp)
   ·rw [if_neg c4] at H
    have c4b0 : decide (x14_1 < (l0.length : Int)) = false := decide_eq_false c4
    clear c4
    have H' := Aside0.mk H
    clear H
    go_wp2
    go_loopg [7, 9, 23] k1 (fun kq v7 v9 v23 w' => ∃ (x7_2 : List Int) (x9_2 : List (S62)) (x23_2 : Int), v23 = .int .i64 x23_2 ∧ Aside0 (corncriblaw04_some.l1 kq l0 l2 x7_2 x9_2 a1 x23_2 = some r) ∧ Aside0 (kq ≤ k1) ∧ Aside0 (Kd.R (Kd.int .i64) 3 w' w.heap.size (fun _ => True) v7 x7_2) ∧ Aside0 (Kd.R k62 62 w' w.heap.size (fun _ => True) v9 x9_2) ∧ Aside0 (Below w.heap.size w w'))
    case atStart => exact ⟨(x7_1), (([] : List (S62))), (0), (by first | rfl | (simp; done) | (simp [*]; done)), H', ⟨Nat.le_refl _⟩, ⟨by (with_reducible repeat (first | apply Kd.R_alloc | apply Kd.R_drewN | apply Kd.R_drew)); exact HO_7.out⟩, ⟨by first | exact Kd.R_nil _ _ _ _ _ | exact Kd.N_nil _ _ _ _ _ | exact Kd.V_nil _ _ _ _ _ | exact Kd.Q_nil _ _ _ _ _ | exact Kd.S_nil _ _ _ _ _⟩, ⟨by repeat (first | (with_reducible first | exact HB.out | apply below_alloc | apply pw_below_drewN | apply below_drew1) | exact HB.out)⟩⟩
    case round =>
     clear H'
     try clear c2
     try clear p2
     try clear c4
     try clear c4b0
     try clear c5
     try clear p6
     try clear p2
     obtain ⟨x7_2, x9_2, x23_2, rfl, HA, HK2, HO_7, HO_9, HB⟩ := hrel
     cases gk with
     | zero => exact absurd HA.out (by simp [corncriblaw04_some.l1])
     | succ k2 =>
      have H := HA.out
      clear HA
      simp only [corncriblaw04_some.l1] at H
      by_cases c7 : x23_2 < a1
      ·rw [if_pos c7] at H
       have c7b0 : decide (x23_2 < a1) = true := decide_eq_true c7
       clear c7
       by_cases c8 : x23_2 < (l2.length : Int)
       ·rw [if_pos c8] at H
        have c8b0 : decide (x23_2 < (l2.length : Int)) = true := decide_eq_true c8
        clear c8
        by_cases c9 : 0 ≤ x23_2
        ·rw [if_pos c9] at H
         have c9b0 : decide (0 ≤ x23_2) = true := decide_eq_true c9
         clear c9
         replace H := Option.bind_eq_some_iff.mp H
         obtain ⟨t479, A100, H⟩ := H
         replace H : (if 0 ≤ t479 then (if t479 < (x7_2.length : Int) then (if 0 ≤ (rd x7_2 t479) then (if (rd x7_2 t479) < (l0.length : Int) then (if x9_2.length < 5864062014805 then ((some (([] : List Int) : List Int)).bind fun y486 => (if t479 ≤ (x7_2.length : Int) then ((some (x7_2.take (t479 : Int).toNat : List Int)).bind fun y489 => (if y486.length + y489.length < 17592186044416 then ((some (y486 ++ y489 : List Int)).bind fun y493 => (if 0 ≤ (wrap64 (t479 + 1)) then (if (wrap64 (t479 + 1)) ≤ (x7_2.length : Int) then ((some (x7_2.drop ((wrap64 (t479 + 1)) : Int).toNat : List Int)).bind fun y496 => (if y493.length + y496.length < 17592186044416 then (corncriblaw04_some.l1 k2 l0 l2 (y493 ++ y496) (x9_2 ++ [(⟨rd x7_2 t479, rdOf ByteArray.empty l0 (rd x7_2 t479)⟩ : S62)]) a1 (wrap64 (x23_2 + 1))) else (none))) else (none)) else (none))) else (none))) else (none))) else (none)) else (none)) else (none)) else (none)) else (none)) = some r := H
         have A10 := Aside0.mk A100
         clear A100
         by_cases c11 : 0 ≤ t479
         ·rw [if_pos c11] at H
          have c11b0 : decide (0 ≤ t479) = true := decide_eq_true c11
          clear c11
          by_cases c12 : t479 < (x7_2.length : Int)
          ·rw [if_pos c12] at H
           have c12b0 : decide (t479 < (x7_2.length : Int)) = true := decide_eq_true c12
           clear c12
           by_cases c13 : 0 ≤ (rd x7_2 t479)
           ·rw [if_pos c13] at H
            have c13b0 : decide (0 ≤ (rd x7_2 t479)) = true := decide_eq_true c13
            clear c13
            by_cases c14 : (rd x7_2 t479) < (l0.length : Int)
            ·rw [if_pos c14] at H
             have c14b0 : decide ((rd x7_2 t479) < (l0.length : Int)) = true := decide_eq_true c14
             clear c14
             by_cases c15 : x9_2.length < 5864062014805
             ·rw [if_pos c15] at H
              have LMc15 := Aside0.mk c15
              clear c15
              obtain ⟨y483, hy483⟩ : ∃ y_ : List (S62), y_ = (x9_2 ++ [(⟨rd x7_2 t479, rdOf ByteArray.empty l0 (rd x7_2 t479)⟩ : S62)]) := ⟨_, rfl⟩
              replace H : ((some (([] : List Int) : List Int)).bind fun y486 => (if t479 ≤ (x7_2.length : Int) then ((some (x7_2.take (t479 : Int).toNat : List Int)).bind fun y489 => (if y486.length + y489.length < 17592186044416 then ((some (y486 ++ y489 : List Int)).bind fun y493 => (if 0 ≤ (wrap64 (t479 + 1)) then (if (wrap64 (t479 + 1)) ≤ (x7_2.length : Int) then ((some (x7_2.drop ((wrap64 (t479 + 1)) : Int).toNat : List Int)).bind fun y496 => (if y493.length + y496.length < 17592186044416 then (corncriblaw04_some.l1 k2 l0 l2 (y493 ++ y496) y483 a1 (wrap64 (x23_2 + 1))) else (none))) else (none)) else (none))) else (none))) else (none))) = some r := by first | (rw [hy483]; with_reducible exact H) | (have H2_ := (Option.bind_some _ _).symm.trans H; rw [hy483]; with_reducible exact H2_) | (have H2_ := (Option.bind_some _ _).symm.trans H; with_reducible exact H2_) | with_reducible exact H | (rw [hy483]; exact H) | exact H
              have Ny483 := Aside0.mk hy483
              clear hy483
              obtain ⟨y486, hy486⟩ : ∃ y_ : List Int, y_ = (([] : List Int)) := ⟨_, rfl⟩
              replace H : (if t479 ≤ (x7_2.length : Int) then ((some (x7_2.take (t479 : Int).toNat : List Int)).bind fun y489 => (if y486.length + y489.length < 17592186044416 then ((some (y486 ++ y489 : List Int)).bind fun y493 => (if 0 ≤ (wrap64 (t479 + 1)) then (if (wrap64 (t479 + 1)) ≤ (x7_2.length : Int) then ((some (x7_2.drop ((wrap64 (t479 + 1)) : Int).toNat : List Int)).bind fun y496 => (if y493.length + y496.length < 17592186044416 then (corncriblaw04_some.l1 k2 l0 l2 (y493 ++ y496) y483 a1 (wrap64 (x23_2 + 1))) else (none))) else (none)) else (none))) else (none))) else (none)) = some r := by first | (rw [hy486]; with_reducible exact H) | (have H2_ := (Option.bind_some _ _).symm.trans H; rw [hy486]; with_reducible exact H2_) | (have H2_ := (Option.bind_some _ _).symm.trans H; with_reducible exact H2_) | with_reducible exact H | (rw [hy486]; exact H) | exact H
              have Ny486 := Aside0.mk hy486
              clear hy486
              have c16b0 := eq_true (of_decide_eq_true (by first | (with_reducible assumption) | assumption) : 0 ≤ t479)
              by_cases c17 : t479 ≤ (x7_2.length : Int)
              ·rw [if_pos c17] at H
               have c17b0 := eq_true c17
               have c17b1 : decide (t479 ≤ (x7_2.length : Int)) = true := decide_eq_true c17
               clear c17
               obtain ⟨y489, hy489⟩ : ∃ y_ : List Int, y_ = (x7_2.take (t479 : Int).toNat) := ⟨_, rfl⟩
               replace H : (if y486.length + y489.length < 17592186044416 then ((some (y486 ++ y489 : List Int)).bind fun y493 => (if 0 ≤ (wrap64 (t479 + 1)) then (if (wrap64 (t479 + 1)) ≤ (x7_2.length : Int) then ((some (x7_2.drop ((wrap64 (t479 + 1)) : Int).toNat : List Int)).bind fun y496 => (if y493.length + y496.length < 17592186044416 then (corncriblaw04_some.l1 k2 l0 l2 (y493 ++ y496) y483 a1 (wrap64 (x23_2 + 1))) else (none))) else (none)) else (none))) else (none)) = some r := by first | (rw [hy489]; with_reducible exact H) | (have H2_ := (Option.bind_some _ _).symm.trans H; rw [hy489]; with_reducible exact H2_) | (have H2_ := (Option.bind_some _ _).symm.trans H; with_reducible exact H2_) | with_reducible exact H | (rw [hy489]; exact H) | exact H
               have Ny489 := Aside0.mk hy489
               clear hy489
               by_cases c18 : y486.length + y489.length < 17592186044416
               ·rw [if_pos c18] at H
                have LMc18 := Aside0.mk c18
                clear c18
                obtain ⟨y493, hy493⟩ : ∃ y_ : List Int, y_ = (y486 ++ y489) := ⟨_, rfl⟩
                replace H : (if 0 ≤ (wrap64 (t479 + 1)) then (if (wrap64 (t479 + 1)) ≤ (x7_2.length : Int) then ((some (x7_2.drop ((wrap64 (t479 + 1)) : Int).toNat : List Int)).bind fun y496 => (if y493.length + y496.length < 17592186044416 then (corncriblaw04_some.l1 k2 l0 l2 (y493 ++ y496) y483 a1 (wrap64 (x23_2 + 1))) else (none))) else (none)) else (none)) = some r := by first | (rw [hy493]; with_reducible exact H) | (have H2_ := (Option.bind_some _ _).symm.trans H; rw [hy493]; with_reducible exact H2_) | (have H2_ := (Option.bind_some _ _).symm.trans H; with_reducible exact H2_) | with_reducible exact H | (rw [hy493]; exact H) | exact H
                have Ny493 := Aside0.mk hy493
                clear hy493
                obtain ⟨ji19, hji19⟩ : ∃ j_ : Int, (wrap64 (t479 + 1)) = j_ := ⟨_, rfl⟩
                replace H : (if 0 ≤ (ji19) then (if (ji19) ≤ (x7_2.length : Int) then ((some (x7_2.drop ((ji19) : Int).toNat : List Int)).bind fun y496 => (if y493.length + y496.length < 17592186044416 then (corncriblaw04_some.l1 k2 l0 l2 (y493 ++ y496) y483 a1 (wrap64 (x23_2 + 1))) else (none))) else (none)) else (none)) = some r := by first | (rw [hji19] at H; exact H) | (simp only [hji19] at H ⊢; exact H)
                (try rw [hji19] at A10)
                have hji19w : (IntKind.i64.wrap (t479 + 1)) = ji19 := (i64_w _).trans hji19
                by_cases c20 : 0 ≤ (ji19)
                ·rw [if_pos c20] at H
                 have c20b0 := eq_true c20
                 have c20b1 : decide (0 ≤ (ji19)) = true := decide_eq_true c20
                 clear c20
                 by_cases c21 : (ji19) ≤ (x7_2.length : Int)
                 ·rw [if_pos c21] at H
                  have c21b0 := eq_true c21
                  have c21b1 : decide ((ji19) ≤ (x7_2.length : Int)) = true := decide_eq_true c21
                  clear c21
                  obtain ⟨y496, hy496⟩ : ∃ y_ : List Int, y_ = (x7_2.drop ((ji19) : Int).toNat) := ⟨_, rfl⟩
                  replace H : (if y493.length + y496.length < 17592186044416 then (corncriblaw04_some.l1 k2 l0 l2 (y493 ++ y496) y483 a1 (wrap64 (x23_2 + 1))) else (none)) = some r := by first | (rw [hy496]; with_reducible exact H) | (have H2_ := (Option.bind_some _ _).symm.trans H; rw [hy496]; with_reducible exact H2_) | (have H2_ := (Option.bind_some _ _).symm.trans H; with_reducible exact H2_) | with_reducible exact H | (rw [hy496]; exact H) | exact H
                  have Ny496 := Aside0.mk hy496
                  clear hy496
                  by_cases c22 : y493.length + y496.length < 17592186044416
                  ·rw [if_pos c22] at H
                   have LMc22 := Aside0.mk c22
                   clear c22
                   obtain ⟨y500, hy500⟩ : ∃ y_ : List Int, y_ = (y493 ++ y496) := ⟨_, rfl⟩
                   replace H : (corncriblaw04_some.l1 k2 l0 l2 y500 y483 a1 (wrap64 (x23_2 + 1))) = some r := by first | (rw [hy500]; with_reducible exact H) | (have H2_ := (Option.bind_some _ _).symm.trans H; rw [hy500]; with_reducible exact H2_) | (have H2_ := (Option.bind_some _ _).symm.trans H; with_reducible exact H2_) | with_reducible exact H | (rw [hy500]; exact H) | exact H
                   have Ny500 := Aside0.mk hy500
                   clear hy500
                   have H' := Aside0.mk H
                   clear H
                   have p478 : 0 ≤ (x23_2 : Int) := of_decide_eq_true (by first | (with_reducible assumption) | assumption)
                   have q478 : x23_2 < (l2.length : Int) := of_decide_eq_true (by first | (with_reducible assumption) | assumption)
                   obtain ⟨ad478, e478, hx478_0⟩ := Kd.at_int HR2.out x23_2 p478 q478
                   cases e478
                   replace hx478_0 := (HB.out.cell (World.block_lt_of_cell? w _ hx478_0)).trans hx478_0
                   replace p478 := eq_true p478
                   replace q478 := eq_true q478
                   obtain ⟨Ao23, co23, eo23⟩ := Kd.R_slice HO_7.out
                   subst eo23
                   try go_wp2_with (first | ((with_reducible refine gate_callee (f := 30) rfl ?_); refine goesL_ (some 36) rfl rfl Tryd.func30 (by kernel_rfl) rfl #[.int .i64 (rd l2 x23_2), .int .i64 (x7_2.length : Int)] rfl (by (try simp only [List.map_toArray, List.map_cons, List.map_nil]); first | done | rfl | (simp only [List.length_drop, List.length_take]; rfl)) ?_; (with_reducible refine (corncribbook_Among.calls (rd l2 x23_2) (x7_2.length : Int) t479 _ A10.out).mono ?_); rintro e w' ⟨rfl, ⟨nd, rfl⟩⟩; refine ⟨_, rfl, ?_⟩))
                   (try (rw [drewN_self wr]; generalize hq_ : World.drewN wr _ = wr; have n0_ : Aside0 (Kd.R (Kd.int .i64) 3 wr w.heap.size (fun _ => True) (.slice Ao23 x7_2.length co23) x7_2) := ⟨by rw [← hq_]; exact (by (with_reducible repeat (first | apply Kd.R_alloc | apply Kd.R_drewN | apply Kd.R_drew)); exact HO_7.out)⟩; have n1_ : Aside0 (Kd.R k62 62 wr w.heap.size (fun _ => True) u9 x9_2) := ⟨by rw [← hq_]; exact (by (with_reducible repeat (first | apply Kd.R_alloc | apply Kd.R_drewN | apply Kd.R_drew)); exact HO_9.out)⟩; have n2_ : Aside0 (Below w.heap.size w wr) := ⟨by rw [← hq_]; exact (by repeat (first | (with_reducible first | exact HB.out | apply below_alloc | apply pw_below_drewN | apply below_drew1) | exact HB.out))⟩; clear HO_7 HO_9 HB hq_; have HO_7 := n0_; have HO_9 := n1_; have HB := n2_; clear n0_ n1_ n2_))
                   have n0_ := Aside0.mk (Kd.R_drew HO_7.out)
                   have n1_ := Aside0.mk (Kd.R_drew HO_9.out)
                   have n2_ := Aside0.mk (below_drew1 HB.out)
                   clear HO_7
                   clear HO_9
                   clear HB
                   have HO_7 := n0_
                   have HO_9 := n1_
                   have HB := n2_
                   clear n0_ n1_ n2_
                   have p480 : 0 ≤ (t479 : Int) := of_decide_eq_true (by first | (with_reducible assumption) | assumption)
                   have q480 : t479 < (x7_2.length : Int) := of_decide_eq_true (by first | (with_reducible assumption) | assumption)
                   obtain ⟨ad480, e480, hx480_0⟩ := Kd.at_int (Kd.R_reads' HO_7.out).2.2 t479 p480 q480
                   cases e480
                   replace p480 := eq_true p480
                   replace q480 := eq_true q480
                   have p481 : 0 ≤ (t479 : Int) := of_decide_eq_true (by first | (with_reducible assumption) | assumption)
                   have q481 : t479 < (x7_2.length : Int) := of_decide_eq_true (by first | (with_reducible assumption) | assumption)
                   obtain ⟨ad481, e481, hx481_0⟩ := Kd.at_int (Kd.R_reads' HO_7.out).2.2 t479 p481 q481
                   obtain rfl : ad480 = ad481 := (by injection e481)
                   replace p481 := eq_true p481
                   replace q481 := eq_true q481
                   have p482 : 0 ≤ ((rd x7_2 t479) : Int) := of_decide_eq_true (by first | (with_reducible assumption) | assumption)
                   have q482 : (rd x7_2 t479) < (l0.length : Int) := of_decide_eq_true (by first | (with_reducible assumption) | assumption)
                   obtain ⟨ad482, e482, hx482_0⟩ := Kd.at_string HR0.out (rd x7_2 t479) p482 q482
                   have hw482_0 := hx482_0
                   cases e482
                   replace hx482_0 := (HB.out.cell (World.block_lt_of_cell? w _ hx482_0)).trans hx482_0
                   replace p482 := eq_true p482
                   replace q482 := eq_true q482
                   refine start_ (n := 16) (S := fun w' => w'.cell? (ad480.add (t479).toNat) = some (.int .i64 (rd x7_2 t479)) ∧ w'.cell? (ad480.add (t479).toNat) = some (.int .i64 (rd x7_2 t479)) ∧ w'.cell? (ad482.add ((rd x7_2 t479)).toNat) = some (.string (rdOf ByteArray.empty l0 (rd x7_2 t479)))) (ds := [13, 14]) #[false, false, false, false, false, false, false, false, false, false, false, false, false, false, false, false] (by kernel_rfl) rfl rfl ⟨hx480_0, hx481_0, ((HB.out.cell (World.block_lt_of_cell? w _ hw482_0)).trans hw482_0)⟩ (fun hHeld => ?_); refine with_tabW corncriblaw04_some.tab14 corncriblaw04_some.bits14 (fun HT_ HW_ => ?_)
                   generalize wr.drew = w24 at HO_7 HO_9 HB hx480_0 hx481_0 hx482_0 hHeld ⊢
                   refine pure_ (i := 0) (N := some 37) (v := ?_) (a' := ?_) #[true, false, false, false, false, false, false, false, false, false, false, false, false, false, false, false] rfl rfl (any_of HT_.out (by kernel_rfl)) (fun _ _ _ h => h) (Or.inl ⟨by rfl, ?_⟩) ?_ ?_
                   rotate_left
                   ·intro w'
                    go_simp
                    with_reducible rfl
                   rotate_left
                   ·simp only [Act.put, List.setIfInBounds_toArray, List.set_cons_zero, List.set_cons_succ, i64_w, i32_w]
                    rfl
                   refine pure_ (i := 1) (N := some 38) (v := ?_) (a' := ?_) #[true, true, false, false, false, false, false, false, false, false, false, false, false, false, false, false] rfl rfl (any_of HT_.out (by kernel_rfl)) (fun _ _ _ h => h) (Or.inl ⟨by rfl, ?_⟩) ?_ ?_
                   rotate_left
                   ·intro w'
                    go_simp
                    with_reducible rfl
                   rotate_left
                   ·simp only [Act.put, List.setIfInBounds_toArray, List.set_cons_zero, List.set_cons_succ, i64_w, i32_w]
                    rfl
                   refine pure_ (i := 2) (N := some 39) (v := ?_) (a' := ?_) #[true, true, true, false, false, false, false, false, false, false, false, false, false, false, false, false] rfl rfl (any_of HT_.out (by kernel_rfl)) (fun _ _ _ h => h) (Or.inl ⟨by rfl, ?_⟩) ?_ ?_
                   rotate_left
                   ·intro w'
                    go_simp
                    with_reducible rfl
                   rotate_left
                   ·simp only [Act.put, List.setIfInBounds_toArray, List.set_cons_zero, List.set_cons_succ, i64_w, i32_w]
                    rfl
                   refine pure_ (i := 3) (N := some 40) (v := ?_) (a' := ?_) #[true, true, true, true, false, false, false, false, false, false, false, false, false, false, false, false] rfl rfl (any_of HT_.out (by kernel_rfl)) (fun _ _ _ h => h) (Or.inl ⟨by rfl, ?_⟩) ?_ ?_
                   rotate_left
                   ·intro w'
                    go_simp
                    with_reducible rfl
                   rotate_left
                   ·simp only [Act.put, List.setIfInBounds_toArray, List.set_cons_zero, List.set_cons_succ, i64_w, i32_w]
                    rfl
                   refine pure_ (i := 5) (N := some 42) (v := ?_) (a' := ?_) #[true, true, true, true, false, true, false, false, false, false, false, false, false, false, false, false] rfl rfl (any_of HT_.out (by kernel_rfl)) (fun _ _ _ h => h) (Or.inl ⟨by rfl, ?_⟩) ?_ ?_
                   rotate_left
                   ·intro w'
                    go_simp
                    with_reducible rfl
                   rotate_left
                   ·simp only [Act.put, List.setIfInBounds_toArray, List.set_cons_zero, List.set_cons_succ, i64_w, i32_w]
                    rfl
                   refine pure_ (i := 6) (N := some 43) (v := ?_) (a' := ?_) #[true, true, true, true, false, true, true, false, false, false, false, false, false, false, false, false] rfl rfl (any_of HT_.out (by kernel_rfl)) (fun _ _ _ h => h) (Or.inl ⟨by rfl, ?_⟩) ?_ ?_
                   rotate_left
                   ·intro w'
                    go_simp
                    with_reducible rfl
                   rotate_left
                   ·simp only [Act.put, List.setIfInBounds_toArray, List.set_cons_zero, List.set_cons_succ, i64_w, i32_w]
                    rfl
                   refine pure_ (i := 7) (N := some 44) (v := ?_) (a' := ?_) #[true, true, true, true, false, true, true, true, false, false, false, false, false, false, false, false] rfl rfl (any_of HT_.out (by kernel_rfl)) (fun _ _ _ h => h) (Or.inl ⟨by rfl, ?_⟩) ?_ ?_
                   rotate_left
                   ·intro w'
                    go_simp
                    with_reducible rfl
                   rotate_left
                   ·simp only [Act.put, List.setIfInBounds_toArray, List.set_cons_zero, List.set_cons_succ, i64_w, i32_w]
                    rfl
                   refine pure_ (i := 8) (N := some 45) (v := ?_) (a' := ?_) #[true, true, true, true, false, true, true, true, true, false, false, false, false, false, false, false] rfl rfl (any_of HT_.out (by kernel_rfl)) (fun _ _ _ h => h) (Or.inl ⟨by rfl, ?_⟩) ?_ ?_
                   rotate_left
                   ·intro w'
                    go_simp
                    with_reducible rfl
                   rotate_left
                   ·simp only [Act.put, List.setIfInBounds_toArray, List.set_cons_zero, List.set_cons_succ, i64_w, i32_w]
                    rfl
                   refine take_ (i := 4) (N := some 41) (v := ?_) (a' := ?_) #[true, true, true, true, true, true, true, true, true, false, false, false, false, false, false, false] rfl rfl (take_ofW HT_.out HW_.out (by kernel_rfl)) (fun _ _ _ h => h) (Or.inl ⟨by rfl, ?_⟩) hHeld ?_ ?_
                   rotate_left
                   ·rintro w' ⟨s0, s1, s2⟩
                    go_simp
                    with_reducible rfl
                   rotate_left
                   ·simp only [Act.put, List.setIfInBounds_toArray, List.set_cons_zero, List.set_cons_succ, i64_w, i32_w]
                    rfl
                   refine take_ (i := 9) (N := some 46) (v := ?_) (a' := ?_) #[true, true, true, true, true, true, true, true, true, true, false, false, false, false, false, false] rfl rfl (take_ofW HT_.out HW_.out (by kernel_rfl)) (fun _ _ _ h => h) (Or.inl ⟨by rfl, ?_⟩) hHeld ?_ ?_
                   rotate_left
                   ·rintro w' ⟨s0, s1, s2⟩
                    go_simp
                    with_reducible rfl
                   rotate_left
                   ·simp only [Act.put, List.setIfInBounds_toArray, List.set_cons_zero, List.set_cons_succ, i64_w, i32_w]
                    rfl
                   refine pure_ (i := 10) (N := some 47) (v := ?_) (a' := ?_) #[true, true, true, true, true, true, true, true, true, true, true, false, false, false, false, false] rfl rfl (any_of HT_.out (by kernel_rfl)) (fun _ _ _ h => h) (Or.inl ⟨by rfl, ?_⟩) ?_ ?_
                   rotate_left
                   ·intro w'
                    go_simp
                    with_reducible rfl
                   rotate_left
                   ·simp only [Act.put, List.setIfInBounds_toArray, List.set_cons_zero, List.set_cons_succ, i64_w, i32_w]
                    rfl
                   refine take_ (i := 11) (N := some 48) (v := ?_) (a' := ?_) #[true, true, true, true, true, true, true, true, true, true, true, true, false, false, false, false] rfl rfl (take_ofW HT_.out HW_.out (by kernel_rfl)) (fun _ _ _ h => h) (Or.inl ⟨by rfl, ?_⟩) hHeld ?_ ?_
                   rotate_left
                   ·rintro w' ⟨s0, s1, s2⟩
                    go_simp
                    with_reducible rfl
                   rotate_left
                   ·simp only [Act.put, List.setIfInBounds_toArray, List.set_cons_zero, List.set_cons_succ, i64_w, i32_w]
                    rfl
                   refine pure_ (i := 12) (N := some 49) (v := ?_) (a' := ?_) #[true, true, true, true, true, true, true, true, true, true, true, true, true, false, false, false] rfl rfl (any_of HT_.out (by kernel_rfl)) (fun _ _ _ h => h) (Or.inl ⟨by rfl, ?_⟩) ?_ ?_
                   rotate_left
                   ·intro w'
                    go_simp
                    with_reducible rfl
                   rotate_left
                   ·simp only [Act.put, List.setIfInBounds_toArray, List.set_cons_zero, List.set_cons_succ, i64_w, i32_w]
                    rfl
                   refine last_ (i := 13) (N := some 50) #[true, true, true, true, true, true, true, true, true, true, true, true, true, true, false, false] rfl rfl (one_of HT_.out (by kernel_rfl)) (by decide) (fun K hK => ?_)
                   refine value_ (w1 := ?_) (v := ?_) (by rfl) rfl ?_ ?_
                   rotate_left 2
                   ·go_simp
                    constructor
                    ·rfl
                    ·rfl
                   refine hK.out _ _ ?_
                   clear hK K
                   refine norm_ (a' := ?_) ?_ ?_
                   rotate_left
                   ·show Act.put _ (some 50) _ = _
                    simp only [Act.put, List.setIfInBounds_toArray, List.set_cons_zero, List.set_cons_succ, i64_w, i32_w]
                    rfl
                   refine last_ (i := 14) (N := some 51) #[true, true, true, true, true, true, true, true, true, true, true, true, true, true, true, false] rfl rfl (one_of HT_.out (by kernel_rfl)) (by decide) (fun K hK => ?_)
                   refine Kd.R_append_step k62 (w0 := w) w.heap.size (by rfl) (.tmp 37) (.tmp 50) 47 62 (.agg #[(.int .i64 0), (.string ⟨#[]⟩)]) 24 rfl Tryd.underlying47 info62 rfl (by decide) (by omega) u9 x9_2 (⟨rd x7_2 t479, rdOf ByteArray.empty l0 (rd x7_2 t479)⟩ : S62) [.int .i64 (rd x7_2 t479), .string (rdOf ByteArray.empty l0 (rd x7_2 t479))] (fun _ => True) (fun _ => False) rfl rfl ?aP (fun _ hk => hk.elim) ?aF ?aO ?aB ?aS ?aL ?_
                   (case aP => exact k62_mkM _ _ _ (⟨rd x7_2 t479, rdOf ByteArray.empty l0 (rd x7_2 t479)⟩ : S62))
                   (case aB => exact (by repeat (first | (with_reducible first | exact HB.out | apply below_alloc | apply pw_below_drewN | apply below_drew1) | exact HB.out)))
                   (case aF => exact (fun _ _ => trivial))
                   (case aO => exact (by (with_reducible repeat (first | apply Kd.R_alloc | apply Kd.R_drewN | apply Kd.R_drew)); exact HO_9.out))
                   (case aS => exact (below_size (by repeat (first | (with_reducible first | exact HB.out | apply below_alloc | apply pw_below_drewN | apply below_drew1) | exact HB.out))))
                   (case aL => have := LMc15.out; omega)
                   intro v484 w25 ho hb hg hat
                   rw [← Ny483.out] at ho
                   have n0_ := Aside0.mk (Kd.R_over' (by (with_reducible repeat (first | apply Kd.R_alloc | apply Kd.R_drewN | apply Kd.R_drew)); exact HO_7.out) (Kd.R_typed (by (with_reducible repeat (first | apply Kd.R_alloc | apply Kd.R_drewN | apply Kd.R_drew)); exact HO_9.out)) (by decide) hg)
                   have n1_ := Aside0.mk (hb)
                   have n2_ := Aside0.mk (ho)
                   clear HO_7
                   clear HB
                   clear HO_9
                   have HO_7 := n0_
                   have HB := n1_
                   have HO485 := n2_
                   clear n0_ n1_ n2_
                   clear ho hb hg hat
                   refine hK.out _ _ ?_
                   clear hK K
                   refine norm_ (a' := ?_) ?_ ?_
                   rotate_left
                   ·show Act.put _ (some 51) _ = _
                    simp only [Act.put, List.setIfInBounds_toArray, List.set_cons_zero, List.set_cons_succ, i64_w, i32_w]
                    rfl
                   refine pure_ (i := 15) (N := some 9) (v := ?_) (a' := ?_) #[true, true, true, true, true, true, true, true, true, true, true, true, true, true, true, true] rfl rfl (any_of HT_.out (by kernel_rfl)) (fun _ _ _ h => h) (Or.inl ⟨by rfl, ?_⟩) ?_ ?_
                   rotate_left
                   ·intro w'
                    go_simp
                    with_reducible rfl
                   rotate_left
                   ·simp only [Act.put, List.setIfInBounds_toArray, List.set_cons_zero, List.set_cons_succ, i64_w, i32_w]
                    rfl
                   refine done_ (done_of HT_.out (by kernel_rfl)) ?_
                   try go_wp2
                   have n0_ := Aside0.mk (Kd.R_drew HO_7.out)
                   have n1_ := Aside0.mk (Kd.R_drew HO485.out)
                   have n2_ := Aside0.mk (below_drew1 HB.out)
                   clear HO_7
                   clear HO485
                   clear HB
                   have HO_7 := n0_
                   have HO485 := n1_
                   have HB := n2_
                   clear n0_ n1_ n2_
                   have q27 : (t479 : Int) ≤ ((x7_2.length : Int) : Int) := of_decide_eq_true (by first | (with_reducible assumption) | assumption)
                   obtain ⟨i027, hi027, _, hsz27, _⟩ := info_parts info3
                   have hroom27 : x7_2.length ≤ co23 := (Kd.R_reads' HO_7.out).2.1
                   have hC27 : Kd.C (Kd.int .i64) _ (some ad480) x7_2.length x7_2 := (Kd.R_reads' HO_7.out).2.2
                   have hcut27 := cut_to (P := Tryd.prog) 56 3 .i64 Tryd.underlying56 hi027 (some ad480) x7_2.length co23 t479 (of_decide_eq_true (by first | (with_reducible assumption) | assumption)) q27 hroom27
                   have hr27 := Kd.C_take (m := (t479 : Int).toNat) hC27 (by omega)
                   have hy27 : y489.length = (t479 : Int).toNat := (by rw [Ny489.out, List.length_take]; omega)
                   rw [← Ny489.out] at hr27
                   rw [← hy27] at hcut27
                   have HR492 := Aside0.mk hr27
                   have HC492 := Aside0.mk (show y489.length ≤ co23 from by omega)
                   clear hr27 hC27 hroom27 hi027 hsz27
                   have KY27 := Aside0.mk hy27
                   clear hy27
                   have KL27 := Aside0.mk (show (t479 : Int).toNat ≤ x7_2.length from by omega)
                   replace q27 := eq_true q27
                   have q28 : ((ji19) : Int) ≤ ((x7_2.length : Int) : Int) := of_decide_eq_true (by first | (with_reducible assumption) | assumption)
                   obtain ⟨i028, hi028, _, hsz28, _⟩ := info_parts info3
                   have hroom28 : x7_2.length ≤ co23 := (Kd.R_reads' HO_7.out).2.1
                   have hC28 : Kd.C (Kd.int .i64) _ (some ad480) x7_2.length x7_2 := (Kd.R_reads' HO_7.out).2.2
                   have q028 : (0 : Int) ≤ ((ji19) : Int) := of_decide_eq_true (by first | (with_reducible assumption) | assumption)
                   have hcut28 := cut_from (P := Tryd.prog) 56 3 .i64 Tryd.underlying56 hi028 1 hsz28 (some ad480) x7_2.length co23 (ji19) q028 q28
                   have hr28 := Kd.C_drop (m := ((ji19) : Int).toNat) (c := co23) hC28 (by omega) hroom28
                   obtain ⟨A28, hA28⟩ : ∃ A1, A1 = (if co23 = ((ji19) : Int).toNat then (some ad480) else ((some ad480) : Option Addr).map (·.add (((ji19) : Int).toNat * 1))) := ⟨_, rfl⟩
                   obtain ⟨c28, hc28⟩ : ∃ c1, c1 = co23 - ((ji19) : Int).toNat := ⟨_, rfl⟩
                   have hy28 : y496.length = x7_2.length - ((ji19) : Int).toNat := (by rw [Ny496.out, List.length_drop] <;> omega)
                   rw [show (x7_2).drop ((ji19) : Int).toNat = y496 from Ny496.out.symm] at hr28
                   replace hr28 : Kd.C (Kd.int .i64) _ A28 y496.length y496 := (by rw [hA28]; exact hr28)
                   rw [← hy28, ← hA28, ← hc28] at hcut28
                   have HR499 := Aside0.mk hr28
                   have HC499 := Aside0.mk (show y496.length ≤ c28 from by rw [hy28, hc28]; exact Nat.sub_le_sub_right hroom28 _)
                   clear hr28 hC28 hroom28 hi028 hsz28 hc28
                   have KY28 := Aside0.mk hy28
                   have KA28 := Aside0.mk hA28
                   clear hy28 hA28
                   have KL28 := Aside0.mk (show ((ji19) : Int).toNat ≤ x7_2.length from by omega)
                   replace q28 := eq_true q28
                   refine start_ (n := 11) (S := fun w' => True) (ds := []) #[false, false, false, false, false, false, false, false, false, false, false] (by kernel_rfl) rfl rfl trivial (fun hHeld => ?_); refine with_tabW corncriblaw04_some.tab15 corncriblaw04_some.bits15 (fun HT_ HW_ => ?_)
                   generalize w25.drew = w26 at HO_7 HO485 HB HR492 HR499 hHeld ⊢
                   refine pure_ (i := 1) (N := some 53) (v := ?_) (a' := ?_) #[false, true, false, false, false, false, false, false, false, false, false] rfl rfl (any_of HT_.out (by kernel_rfl)) (fun _ _ _ h => h) (Or.inl ⟨by rfl, ?_⟩) ?_ ?_
                   rotate_left
                   ·intro w'
                    go_simp
                    with_reducible rfl
                   rotate_left
                   ·simp only [Act.put, List.setIfInBounds_toArray, List.set_cons_zero, List.set_cons_succ, i64_w, i32_w]
                    rfl
                   refine pure_ (i := 2) (N := some 54) (v := ?_) (a' := ?_) #[false, true, true, false, false, false, false, false, false, false, false] rfl rfl (any_of HT_.out (by kernel_rfl)) (fun _ _ _ h => h) (Or.inl ⟨by rfl, ?_⟩) ?_ ?_
                   rotate_left
                   ·intro w'
                    go_simp
                    with_reducible rfl
                   rotate_left
                   ·simp only [Act.put, List.setIfInBounds_toArray, List.set_cons_zero, List.set_cons_succ, i64_w, i32_w]
                    rfl
                   refine pure_ (i := 3) (N := some 55) (v := ?_) (a' := ?_) #[false, true, true, true, false, false, false, false, false, false, false] rfl rfl (any_of HT_.out (by kernel_rfl)) (fun _ _ _ h => h) (Or.inl ⟨by rfl, ?_⟩) ?_ ?_
                   rotate_left
                   ·intro w'
                    go_simp
                    with_reducible rfl
                   rotate_left
                   ·simp only [Act.put, List.setIfInBounds_toArray, List.set_cons_zero, List.set_cons_succ, i64_w, i32_w]
                    rfl
                   refine pure_ (i := 5) (N := some 57) (v := ?_) (a' := ?_) #[false, true, true, true, false, true, false, false, false, false, false] rfl rfl (any_of HT_.out (by kernel_rfl)) (fun _ _ _ h => h) (Or.inl ⟨by rfl, ?_⟩) ?_ ?_
                   rotate_left
                   ·intro w'
                    go_simp
                    with_reducible rfl
                   rotate_left
                   ·simp only [Act.put, List.setIfInBounds_toArray, List.set_cons_zero, List.set_cons_succ, i64_w, i32_w]
                    rfl
                   refine pure_ (i := 6) (N := some 58) (v := ?_) (a' := ?_) #[false, true, true, true, false, true, true, false, false, false, false] rfl rfl (any_of HT_.out (by kernel_rfl)) (fun _ _ _ h => h) (Or.inl ⟨by rfl, ?_⟩) ?_ ?_
                   rotate_left
                   ·intro w'
                    go_simp
                    with_reducible rfl
                   rotate_left
                   ·simp only [Act.put, List.setIfInBounds_toArray, List.set_cons_zero, List.set_cons_succ, i64_w, i32_w]
                    rfl
                   refine pure_ (i := 7) (N := some 59) (v := ?_) (a' := ?_) #[false, true, true, true, false, true, true, true, false, false, false] rfl rfl (any_of HT_.out (by kernel_rfl)) (fun _ _ _ h => h) (Or.inl ⟨by rfl, ?_⟩) ?_ ?_
                   rotate_left
                   ·intro w'
                    go_simp
                    with_reducible rfl
                   rotate_left
                   ·simp only [Act.put, List.setIfInBounds_toArray, List.set_cons_zero, List.set_cons_succ, i64_w, i32_w]
                    rfl
                   refine pure_ (i := 8) (N := some 60) (v := ?_) (a' := ?_) #[false, true, true, true, false, true, true, true, true, false, false] rfl rfl (any_of HT_.out (by kernel_rfl)) (fun _ _ _ h => h) (Or.inl ⟨by rfl, ?_⟩) ?_ ?_
                   rotate_left
                   ·intro w'
                    go_simp
                    with_reducible rfl
                   rotate_left
                   ·simp only [Act.put, List.setIfInBounds_toArray, List.set_cons_zero, List.set_cons_succ, i64_w, i32_w]
                    rfl
                   refine one_ (i := 0) (N := some 52) #[true, true, true, true, false, true, true, true, true, false, false] rfl rfl (one_of HT_.out (by kernel_rfl)) (by decide) (fun K hK => ?_)
                   refine Kd.R_lit_step (Kd.int .i64) _ 3 ?hg (N := 52) ?hd (xs := ([] : List Int)) (inner := []) (ok := fun _ => True) (okp := fun _ => True) ?hr ?hp (fun _ hk => hk) trivial (Below.refl _ _) (Nat.le_refl _) (by simp) ?_; (case hd => rfl); (case hg => rfl); (case hr => first | (go_simp; done) | (go_simp; rfl)); (case hp => exact (Reps.none _ _))
                   intro v487 w29 ho30 hb hg_ hnew_
                   clear hg_ hnew_
                   (first | rw [← Ny486.out] at ho30 | (simp only [Int.reduceToNat] at ho30; rw [← Ny486.out] at ho30))
                   have n0_ := Aside0.mk (Kd.R_elder' (by (with_reducible repeat (first | apply Kd.R_alloc | apply Kd.R_drewN | apply Kd.R_drew)); exact HO_7.out) (Kd.R_base ho30) hb)
                   have n1_ := Aside0.mk (Kd.R_below (by (with_reducible repeat (first | apply Kd.R_alloc | apply Kd.R_drewN | apply Kd.R_drew)); exact HO485.out) hb)
                   have n2_ := Aside0.mk (Kd.R_lower (Kd.R_new' ho30 (Kd.R_lt (by (with_reducible repeat (first | apply Kd.R_alloc | apply Kd.R_drewN | apply Kd.R_drew)); exact HO_7.out))) (below_size (by repeat (first | (with_reducible first | exact HB.out | apply below_alloc | apply pw_below_drewN | apply below_drew1) | exact HB.out))))
                   have n3_ := Aside0.mk (Kd.C_below (by repeat (first | (with_reducible exact HR492.out) | (with_reducible refine Kd.C_alloc ?_ _) | (with_reducible refine Kd.C_drewN ?_ _) | (with_reducible refine Kd.C_drew ?_) | exact HR492.out)) hb)
                   have n4_ := Aside0.mk (Kd.C_below (by repeat (first | (with_reducible exact HR499.out) | (with_reducible refine Kd.C_alloc ?_ _) | (with_reducible refine Kd.C_drewN ?_ _) | (with_reducible refine Kd.C_drew ?_) | exact HR499.out)) hb)
                   have n5_ := Aside0.mk (below_step (by repeat (first | (with_reducible first | exact HB.out | apply below_alloc | apply pw_below_drewN | apply below_drew1) | exact HB.out)) hb)
                   clear HO_7
                   clear HO485
                   clear HR492
                   clear HR499
                   clear HB
                   have HO_7 := n0_
                   have HO485 := n1_
                   have HO488 := n2_
                   have HR492 := n3_
                   have HR499 := n4_
                   have HB := n5_
                   clear n0_ n1_ n2_ n3_ n4_ n5_
                   clear hb ho30
                   refine hK.out _ _ trivial (fun hHeld => ?_)
                   clear hK K
                   refine norm_ (a' := ?_) ?_ ?_
                   rotate_left
                   ·show Act.put _ (some 52) _ = _
                    simp only [Act.put, List.setIfInBounds_toArray, List.set_cons_zero, List.set_cons_succ, i64_w, i32_w]
                    rfl
                   refine one_ (i := 4) (N := some 56) #[true, true, true, true, true, true, true, true, true, false, false] rfl rfl (one_of HT_.out (by kernel_rfl)) (by decide) (fun K hK => ?_)
                   refine Kd.R_append_rows_step (Kd.int .i64) (w0 := w) w.heap.size (by rfl) (.tmp 52) (.tmp 55) 56 3 (.int .i64 0) 8 rfl Tryd.underlying56 info3 rfl (by decide) (by omega) v487 y486 y489 _ _ _ (fun k_ => some k_ ≠ (.slice (some ad480) x7_2.length co23 : Value).ownBlock) (fun _ => False) rfl rfl ?aO ?aR (fun _ _ h => h) (fun _ h => h.elim) ?aF ?aB ?aS ?aL ?_
                   (case aR => repeat (first | exact (by repeat (first | (with_reducible exact HR492.out) | (with_reducible refine Kd.C_alloc ?_ _) | (with_reducible refine Kd.C_drewN ?_ _) | (with_reducible refine Kd.C_drew ?_) | exact HR492.out)) | (with_reducible refine Kd.C_alloc ?_ _) | (with_reducible refine Kd.C_drewN ?_ _) | (with_reducible refine Kd.C_drew ?_)))
                   (case aB => exact (by repeat (first | (with_reducible first | exact HB.out | apply below_alloc | apply pw_below_drewN | apply below_drew1) | exact HB.out)))
                   (case aF => exact (fun k_ hk => Kd.fresh' (Kd.R_lt (by (with_reducible repeat (first | apply Kd.R_alloc | apply Kd.R_drewN | apply Kd.R_drew)); exact HO_7.out)) k_ hk))
                   (case aO => exact (by (with_reducible repeat (first | apply Kd.R_alloc | apply Kd.R_drewN | apply Kd.R_drew)); exact Kd.R_mono HO488.out (fun _ hk => hk.2)))
                   (case aS => exact (below_size (by repeat (first | (with_reducible first | exact HB.out | apply below_alloc | apply pw_below_drewN | apply below_drew1) | exact HB.out))))
                   (case aL => have := LMc18.out; omega)
                   intro v494 w31 ho hb hg hat
                   rw [← Ny493.out] at ho
                   have n0_ := Aside0.mk (Kd.R_after (ok := (fun _ => True)) (by (with_reducible repeat (first | apply Kd.R_alloc | apply Kd.R_drewN | apply Kd.R_drew)); exact HO_7.out) hg hat)
                   have n1_ := Aside0.mk (Kd.R_over' (by (with_reducible repeat (first | apply Kd.R_alloc | apply Kd.R_drewN | apply Kd.R_drew)); exact HO485.out) (Kd.R_typed (by (with_reducible repeat (first | apply Kd.R_alloc | apply Kd.R_drewN | apply Kd.R_drew)); exact HO488.out)) (by decide) hg)
                   have n2_ := Aside0.mk (hb)
                   have n3_ := Aside0.mk ((show Kd.C (Kd.int .i64) w31 (some ad480) y489.length y489 from by rw [Ny489.out]; exact Kd.C_take (m := (t479 : Int).toNat) ((Kd.R_reads' (Kd.R_after (ok := (fun _ => True)) (by (with_reducible repeat (first | apply Kd.R_alloc | apply Kd.R_drewN | apply Kd.R_drew)); exact HO_7.out) hg hat)).2.2) KL27.out))
                   have n4_ := Aside0.mk ((show Kd.C (Kd.int .i64) w31 A28 y496.length y496 from by rw [Ny496.out, KA28.out]; exact Kd.C_drop (m := ((ji19) : Int).toNat) (c := co23) ((Kd.R_reads' (Kd.R_after (ok := (fun _ => True)) (by (with_reducible repeat (first | apply Kd.R_alloc | apply Kd.R_drewN | apply Kd.R_drew)); exact HO_7.out) hg hat)).2.2) KL28.out ((Kd.R_reads' (Kd.R_after (ok := (fun _ => True)) (by (with_reducible repeat (first | apply Kd.R_alloc | apply Kd.R_drewN | apply Kd.R_drew)); exact HO_7.out) hg hat)).2.1)))
                   have n5_ := Aside0.mk (ho)
                   clear HO_7
                   clear HO485
                   clear HB
                   clear HR492
                   clear HR499
                   clear HO488
                   have HO_7 := n0_
                   have HO485 := n1_
                   have HB := n2_
                   have HR492 := n3_
                   have HR499 := n4_
                   have HO495 := n5_
                   clear n0_ n1_ n2_ n3_ n4_ n5_
                   clear ho hb hg hat
                   refine hK.out _ _ trivial (fun hHeld => ?_)
                   clear hK K
                   refine norm_ (a' := ?_) ?_ ?_
                   rotate_left
                   ·show Act.put _ (some 56) _ = _
                    simp only [Act.put, List.setIfInBounds_toArray, List.set_cons_zero, List.set_cons_succ, i64_w, i32_w]
                    rfl
                   refine one_ (i := 9) (N := some 61) #[true, true, true, true, true, true, true, true, true, true, false] rfl rfl (one_of HT_.out (by kernel_rfl)) (by decide) (fun K hK => ?_)
                   refine Kd.R_append_rows_step (Kd.int .i64) (w0 := w) w.heap.size (by rfl) (.tmp 56) (.tmp 60) 56 3 (.int .i64 0) 8 rfl Tryd.underlying56 info3 rfl (by decide) (by omega) v494 y493 y496 _ _ _ (fun k_ => some k_ ≠ (.slice (some ad480) x7_2.length co23 : Value).ownBlock) (fun _ => False) rfl rfl ?aO ?aR (fun _ _ h => h) (fun _ h => h.elim) ?aF ?aB ?aS ?aL ?_
                   (case aR => repeat (first | exact (by repeat (first | (with_reducible exact HR499.out) | (with_reducible refine Kd.C_alloc ?_ _) | (with_reducible refine Kd.C_drewN ?_ _) | (with_reducible refine Kd.C_drew ?_) | exact HR499.out)) | (with_reducible refine Kd.C_alloc ?_ _) | (with_reducible refine Kd.C_drewN ?_ _) | (with_reducible refine Kd.C_drew ?_)))
                   (case aB => exact (by repeat (first | (with_reducible first | exact HB.out | apply below_alloc | apply pw_below_drewN | apply below_drew1) | exact HB.out)))
                   (case aF => exact (fun k_ hk => Kd.fresh' (Kd.R_lt (by (with_reducible repeat (first | apply Kd.R_alloc | apply Kd.R_drewN | apply Kd.R_drew)); exact HO_7.out)) k_ hk))
                   (case aO => exact (by (with_reducible repeat (first | apply Kd.R_alloc | apply Kd.R_drewN | apply Kd.R_drew)); exact HO495.out))
                   (case aS => exact (below_size (by repeat (first | (with_reducible first | exact HB.out | apply below_alloc | apply pw_below_drewN | apply below_drew1) | exact HB.out))))
                   (case aL => have := LMc22.out; omega)
                   intro v501 w32 ho hb hg hat
                   rw [← Ny500.out] at ho
                   have n0_ := Aside0.mk (Kd.R_after (ok := (fun _ => True)) (by (with_reducible repeat (first | apply Kd.R_alloc | apply Kd.R_drewN | apply Kd.R_drew)); exact HO_7.out) hg hat)
                   have n1_ := Aside0.mk (Kd.R_over' (by (with_reducible repeat (first | apply Kd.R_alloc | apply Kd.R_drewN | apply Kd.R_drew)); exact HO485.out) (Kd.R_typed (by (with_reducible repeat (first | apply Kd.R_alloc | apply Kd.R_drewN | apply Kd.R_drew)); exact HO495.out)) (by decide) hg)
                   have n2_ := Aside0.mk (hb)
                   have n3_ := Aside0.mk ((show Kd.C (Kd.int .i64) w32 (some ad480) y489.length y489 from by rw [Ny489.out]; exact Kd.C_take (m := (t479 : Int).toNat) ((Kd.R_reads' (Kd.R_after (ok := (fun _ => True)) (by (with_reducible repeat (first | apply Kd.R_alloc | apply Kd.R_drewN | apply Kd.R_drew)); exact HO_7.out) hg hat)).2.2) KL27.out))
                   have n4_ := Aside0.mk ((show Kd.C (Kd.int .i64) w32 A28 y496.length y496 from by rw [Ny496.out, KA28.out]; exact Kd.C_drop (m := ((ji19) : Int).toNat) (c := co23) ((Kd.R_reads' (Kd.R_after (ok := (fun _ => True)) (by (with_reducible repeat (first | apply Kd.R_alloc | apply Kd.R_drewN | apply Kd.R_drew)); exact HO_7.out) hg hat)).2.2) KL28.out ((Kd.R_reads' (Kd.R_after (ok := (fun _ => True)) (by (with_reducible repeat (first | apply Kd.R_alloc | apply Kd.R_drewN | apply Kd.R_drew)); exact HO_7.out) hg hat)).2.1)))
                   have n5_ := Aside0.mk (ho)
                   clear HO_7
                   clear HO485
                   clear HB
                   clear HR492
                   clear HR499
                   clear HO495
                   have HO_7 := n0_
                   have HO485 := n1_
                   have HB := n2_
                   have HR492 := n3_
                   have HR499 := n4_
                   have HO502 := n5_
                   clear n0_ n1_ n2_ n3_ n4_ n5_
                   clear ho hb hg hat
                   refine hK.out _ _ trivial (fun hHeld => ?_)
                   clear hK K
                   refine norm_ (a' := ?_) ?_ ?_
                   rotate_left
                   ·show Act.put _ (some 61) _ = _
                    simp only [Act.put, List.setIfInBounds_toArray, List.set_cons_zero, List.set_cons_succ, i64_w, i32_w]
                    rfl
                   refine pure_ (i := 10) (N := some 7) (v := ?_) (a' := ?_) #[true, true, true, true, true, true, true, true, true, true, true] rfl rfl (any_of HT_.out (by kernel_rfl)) (fun _ _ _ h => h) (Or.inl ⟨by rfl, ?_⟩) ?_ ?_
                   rotate_left
                   ·intro w'
                    go_simp
                    with_reducible rfl
                   rotate_left
                   ·simp only [Act.put, List.setIfInBounds_toArray, List.set_cons_zero, List.set_cons_succ, i64_w, i32_w]
                    rfl
                   refine done_ (done_of HT_.out (by kernel_rfl)) ?_
                   try go_wp2
                   go_roundg k2
                   case measure => have := HK1.out; have := HK2.out; omega
                   case rel => exact ⟨(y500), (y483), (wrap64 (x23_2 + 1)), (by first | rfl | (simp; done) | (simp [*]; done)), H', ⟨by have := HK1.out; have := HK2.out; omega⟩, ⟨by (with_reducible repeat (first | apply Kd.R_alloc | apply Kd.R_drewN | apply Kd.R_drew)); exact Kd.R_mono HO502.out (fun _ hk => trivial)⟩, ⟨by (with_reducible repeat (first | apply Kd.R_alloc | apply Kd.R_drewN | apply Kd.R_drew)); exact HO485.out⟩, ⟨by repeat (first | (with_reducible first | exact HB.out | apply below_alloc | apply pw_below_drewN | apply below_drew1) | exact HB.out)⟩⟩
                  ·rw [if_neg c22] at H
                   exact absurd H (by simp)
                 ·rw [if_neg c21] at H
                  exact absurd H (by simp)
                ·rw [if_neg c20] at H
                 exact absurd H (by simp)
               ·rw [if_neg c18] at H
                exact absurd H (by simp)
              ·rw [if_neg c17] at H
               exact absurd H (by simp)
             ·rw [if_neg c15] at H
              exact absurd H (by simp)
            ·rw [if_neg c14] at H
             exact absurd H (by simp)
           ·rw [if_neg c13] at H
            exact absurd H (by simp)
          ·rw [if_neg c12] at H
           exact absurd H (by simp)
         ·rw [if_neg c11] at H
          exact absurd H (by simp)
        ·rw [if_neg c9] at H
         exact absurd H (by simp)
       ·rw [if_neg c8] at H
        have c8b0 : decide (x23_2 < (l2.length : Int)) = false := decide_eq_false c8
        clear c8
        by_cases c33 : 0 < (x7_2.length : Int)
        ·rw [if_pos c33] at H
         have c33b0 : decide (0 < (x7_2.length : Int)) = true := decide_eq_true c33
         have c33b1 : decide (0 < x7_2.length) = true := decide_eq_true (by omega)
         clear c33
         by_cases c34 : 0 ≤ (rd x7_2 0)
         ·rw [if_pos c34] at H
          have c34b0 : decide (0 ≤ (rd x7_2 0)) = true := decide_eq_true c34
          clear c34
          by_cases c35 : (rd x7_2 0) < (l0.length : Int)
          ·rw [if_pos c35] at H
           have c35b0 : decide ((rd x7_2 0) < (l0.length : Int)) = true := decide_eq_true c35
           clear c35
           by_cases c36 : x9_2.length < 5864062014805
           ·rw [if_pos c36] at H
            have LMc36 := Aside0.mk c36
            clear c36
            obtain ⟨y506, hy506⟩ : ∃ y_ : List (S62), y_ = (x9_2 ++ [(⟨rd x7_2 0, rdOf ByteArray.empty l0 (rd x7_2 0)⟩ : S62)]) := ⟨_, rfl⟩
            replace H : ((some (([] : List Int) : List Int)).bind fun y509 => (if 0 ≤ (x7_2.length : Int) then ((some (x7_2.take 0 : List Int)).bind fun y512 => (if y509.length + y512.length < 17592186044416 then ((some (y509 ++ y512 : List Int)).bind fun y516 => (if 1 ≤ (x7_2.length : Int) then ((some (x7_2.drop 1 : List Int)).bind fun y519 => (if y516.length + y519.length < 17592186044416 then (corncriblaw04_some.l1 k2 l0 l2 (y516 ++ y519) y506 a1 (wrap64 (x23_2 + 1))) else (none))) else (none))) else (none))) else (none))) = some r := by first | (rw [hy506]; with_reducible exact H) | (have H2_ := (Option.bind_some _ _).symm.trans H; rw [hy506]; with_reducible exact H2_) | (have H2_ := (Option.bind_some _ _).symm.trans H; with_reducible exact H2_) | with_reducible exact H | (rw [hy506]; exact H) | exact H
            have Ny506 := Aside0.mk hy506
            clear hy506
            obtain ⟨y509, hy509⟩ : ∃ y_ : List Int, y_ = (([] : List Int)) := ⟨_, rfl⟩
            replace H : (if 0 ≤ (x7_2.length : Int) then ((some (x7_2.take 0 : List Int)).bind fun y512 => (if y509.length + y512.length < 17592186044416 then ((some (y509 ++ y512 : List Int)).bind fun y516 => (if 1 ≤ (x7_2.length : Int) then ((some (x7_2.drop 1 : List Int)).bind fun y519 => (if y516.length + y519.length < 17592186044416 then (corncriblaw04_some.l1 k2 l0 l2 (y516 ++ y519) y506 a1 (wrap64 (x23_2 + 1))) else (none))) else (none))) else (none))) else (none)) = some r := by first | (rw [hy509]; with_reducible exact H) | (have H2_ := (Option.bind_some _ _).symm.trans H; rw [hy509]; with_reducible exact H2_) | (have H2_ := (Option.bind_some _ _).symm.trans H; with_reducible exact H2_) | with_reducible exact H | (rw [hy509]; exact H) | exact H
            have Ny509 := Aside0.mk hy509
            clear hy509
            by_cases c37 : 0 ≤ (x7_2.length : Int)
            ·rw [if_pos c37] at H
             have c37b0 := eq_true c37
             have c37b1 : decide (0 ≤ (x7_2.length : Int)) = true := decide_eq_true c37
             clear c37
             obtain ⟨y512, hy512⟩ : ∃ y_ : List Int, y_ = (x7_2.take 0) := ⟨_, rfl⟩
             replace H : (if y509.length + y512.length < 17592186044416 then ((some (y509 ++ y512 : List Int)).bind fun y516 => (if 1 ≤ (x7_2.length : Int) then ((some (x7_2.drop 1 : List Int)).bind fun y519 => (if y516.length + y519.length < 17592186044416 then (corncriblaw04_some.l1 k2 l0 l2 (y516 ++ y519) y506 a1 (wrap64 (x23_2 + 1))) else (none))) else (none))) else (none)) = some r := by first | (rw [hy512]; with_reducible exact H) | (have H2_ := (Option.bind_some _ _).symm.trans H; rw [hy512]; with_reducible exact H2_) | (have H2_ := (Option.bind_some _ _).symm.trans H; with_reducible exact H2_) | with_reducible exact H | (rw [hy512]; exact H) | exact H
             have Ny512 := Aside0.mk hy512
             clear hy512
             by_cases c38 : y509.length + y512.length < 17592186044416
             ·rw [if_pos c38] at H
              have LMc38 := Aside0.mk c38
              clear c38
              obtain ⟨y516, hy516⟩ : ∃ y_ : List Int, y_ = (y509 ++ y512) := ⟨_, rfl⟩
              replace H : (if 1 ≤ (x7_2.length : Int) then ((some (x7_2.drop 1 : List Int)).bind fun y519 => (if y516.length + y519.length < 17592186044416 then (corncriblaw04_some.l1 k2 l0 l2 (y516 ++ y519) y506 a1 (wrap64 (x23_2 + 1))) else (none))) else (none)) = some r := by first | (rw [hy516]; with_reducible exact H) | (have H2_ := (Option.bind_some _ _).symm.trans H; rw [hy516]; with_reducible exact H2_) | (have H2_ := (Option.bind_some _ _).symm.trans H; with_reducible exact H2_) | with_reducible exact H | (rw [hy516]; exact H) | exact H
              have Ny516 := Aside0.mk hy516
              clear hy516
              by_cases c39 : 1 ≤ (x7_2.length : Int)
              ·rw [if_pos c39] at H
               have c39b0 := eq_true c39
               have c39b1 : decide (1 ≤ (x7_2.length : Int)) = true := decide_eq_true c39
               clear c39
               obtain ⟨y519, hy519⟩ : ∃ y_ : List Int, y_ = (x7_2.drop 1) := ⟨_, rfl⟩
               replace H : (if y516.length + y519.length < 17592186044416 then (corncriblaw04_some.l1 k2 l0 l2 (y516 ++ y519) y506 a1 (wrap64 (x23_2 + 1))) else (none)) = some r := by first | (rw [hy519]; with_reducible exact H) | (have H2_ := (Option.bind_some _ _).symm.trans H; rw [hy519]; with_reducible exact H2_) | (have H2_ := (Option.bind_some _ _).symm.trans H; with_reducible exact H2_) | with_reducible exact H | (rw [hy519]; exact H) | exact H
               have Ny519 := Aside0.mk hy519
               clear hy519
               by_cases c40 : y516.length + y519.length < 17592186044416
               ·rw [if_pos c40] at H
                have LMc40 := Aside0.mk c40
                clear c40
                obtain ⟨y523, hy523⟩ : ∃ y_ : List Int, y_ = (y516 ++ y519) := ⟨_, rfl⟩
                replace H : (corncriblaw04_some.l1 k2 l0 l2 y523 y506 a1 (wrap64 (x23_2 + 1))) = some r := by first | (rw [hy523]; with_reducible exact H) | (have H2_ := (Option.bind_some _ _).symm.trans H; rw [hy523]; with_reducible exact H2_) | (have H2_ := (Option.bind_some _ _).symm.trans H; with_reducible exact H2_) | with_reducible exact H | (rw [hy523]; exact H) | exact H
                have Ny523 := Aside0.mk hy523
                clear hy523
                have H' := Aside0.mk H
                clear H
                try go_wp2
                have n0_ := Aside0.mk (Kd.R_drew HO_7.out)
                have n1_ := Aside0.mk (Kd.R_drew HO_9.out)
                have n2_ := Aside0.mk (below_drew1 HB.out)
                clear HO_7
                clear HO_9
                clear HB
                have HO_7 := n0_
                have HO_9 := n1_
                have HB := n2_
                clear n0_ n1_ n2_
                obtain ⟨Ao42, co42, eo42⟩ := Kd.R_slice HO_7.out
                (first | subst eo42 | (injection eo42 with f1_ f2_ f3_; have f4_ := f1_.symm; have f5_ := f3_.symm; clear f1_ f2_ f3_; subst f4_; subst f5_))
                have p503 : 0 ≤ (0 : Int) := (by omega)
                have q503 : 0 < (x7_2.length : Int) := of_decide_eq_true (by first | (with_reducible assumption) | assumption)
                obtain ⟨ad503, e503, hx503_0⟩ := Kd.at_int (Kd.R_reads' HO_7.out).2.2 0 p503 q503
                cases e503
                have qi503 : (0 < x7_2.length) = True := eq_true (by omega)
                (try rw [show ((0 : Int)).toNat = 0 from rfl] at hx503_0)
                (try rw [Addr.add_zero'] at hx503_0)
                replace p503 := eq_true p503
                replace q503 := eq_true q503
                have p504 : 0 ≤ (0 : Int) := (by omega)
                have q504 : 0 < (x7_2.length : Int) := of_decide_eq_true (by first | (with_reducible assumption) | assumption)
                obtain ⟨ad504, e504, hx504_0⟩ := Kd.at_int (Kd.R_reads' HO_7.out).2.2 0 p504 q504
                obtain rfl : ad503 = ad504 := (by injection e504)
                have qi504 : (0 < x7_2.length) = True := eq_true (by omega)
                (try rw [show ((0 : Int)).toNat = 0 from rfl] at hx504_0)
                (try rw [Addr.add_zero'] at hx504_0)
                replace p504 := eq_true p504
                replace q504 := eq_true q504
                have p505 : 0 ≤ ((rd x7_2 0) : Int) := of_decide_eq_true (by first | (with_reducible assumption) | assumption)
                have q505 : (rd x7_2 0) < (l0.length : Int) := of_decide_eq_true (by first | (with_reducible assumption) | assumption)
                obtain ⟨ad505, e505, hx505_0⟩ := Kd.at_string HR0.out (rd x7_2 0) p505 q505
                have hw505_0 := hx505_0
                cases e505
                replace hx505_0 := (HB.out.cell (World.block_lt_of_cell? w _ hx505_0)).trans hx505_0
                replace p505 := eq_true p505
                replace q505 := eq_true q505
                refine start_ (n := 16) (S := fun w' => w'.cell? ad503 = some (.int .i64 (rd x7_2 0)) ∧ w'.cell? ad503 = some (.int .i64 (rd x7_2 0)) ∧ w'.cell? (ad505.add ((rd x7_2 0)).toNat) = some (.string (rdOf ByteArray.empty l0 (rd x7_2 0)))) (ds := [13, 14]) #[false, false, false, false, false, false, false, false, false, false, false, false, false, false, false, false] (by kernel_rfl) rfl rfl ⟨hx503_0, hx504_0, ((HB.out.cell (World.block_lt_of_cell? w _ hw505_0)).trans hw505_0)⟩ (fun hHeld => ?_); refine with_tabW corncriblaw04_some.tab14 corncriblaw04_some.bits14 (fun HT_ HW_ => ?_)
                generalize wr.drew = w41 at HO_7 HO_9 HB hx503_0 hx504_0 hx505_0 hHeld ⊢
                refine pure_ (i := 0) (N := some 37) (v := ?_) (a' := ?_) #[true, false, false, false, false, false, false, false, false, false, false, false, false, false, false, false] rfl rfl (any_of HT_.out (by kernel_rfl)) (fun _ _ _ h => h) (Or.inl ⟨by rfl, ?_⟩) ?_ ?_
                rotate_left
                ·intro w'
                 go_simp
                 with_reducible rfl
                rotate_left
                ·simp only [Act.put, List.setIfInBounds_toArray, List.set_cons_zero, List.set_cons_succ, i64_w, i32_w]
                 rfl
                refine pure_ (i := 1) (N := some 38) (v := ?_) (a' := ?_) #[true, true, false, false, false, false, false, false, false, false, false, false, false, false, false, false] rfl rfl (any_of HT_.out (by kernel_rfl)) (fun _ _ _ h => h) (Or.inl ⟨by rfl, ?_⟩) ?_ ?_
                rotate_left
                ·intro w'
                 go_simp
                 with_reducible rfl
                rotate_left
                ·simp only [Act.put, List.setIfInBounds_toArray, List.set_cons_zero, List.set_cons_succ, i64_w, i32_w]
                 rfl
                refine pure_ (i := 2) (N := some 39) (v := ?_) (a' := ?_) #[true, true, true, false, false, false, false, false, false, false, false, false, false, false, false, false] rfl rfl (any_of HT_.out (by kernel_rfl)) (fun _ _ _ h => h) (Or.inl ⟨by rfl, ?_⟩) ?_ ?_
                rotate_left
                ·intro w'
                 go_simp
                 with_reducible rfl
                rotate_left
                ·simp only [Act.put, List.setIfInBounds_toArray, List.set_cons_zero, List.set_cons_succ, i64_w, i32_w]
                 rfl
                refine pure_ (i := 3) (N := some 40) (v := ?_) (a' := ?_) #[true, true, true, true, false, false, false, false, false, false, false, false, false, false, false, false] rfl rfl (any_of HT_.out (by kernel_rfl)) (fun _ _ _ h => h) (Or.inl ⟨by rfl, ?_⟩) ?_ ?_
                rotate_left
                ·intro w'
                 go_simp
                 with_reducible rfl
                rotate_left
                ·simp only [Act.put, List.setIfInBounds_toArray, List.set_cons_zero, List.set_cons_succ, i64_w, i32_w]
                 rfl
                refine pure_ (i := 5) (N := some 42) (v := ?_) (a' := ?_) #[true, true, true, true, false, true, false, false, false, false, false, false, false, false, false, false] rfl rfl (any_of HT_.out (by kernel_rfl)) (fun _ _ _ h => h) (Or.inl ⟨by rfl, ?_⟩) ?_ ?_
                rotate_left
                ·intro w'
                 go_simp
                 with_reducible rfl
                rotate_left
                ·simp only [Act.put, List.setIfInBounds_toArray, List.set_cons_zero, List.set_cons_succ, i64_w, i32_w]
                 rfl
                refine pure_ (i := 6) (N := some 43) (v := ?_) (a' := ?_) #[true, true, true, true, false, true, true, false, false, false, false, false, false, false, false, false] rfl rfl (any_of HT_.out (by kernel_rfl)) (fun _ _ _ h => h) (Or.inl ⟨by rfl, ?_⟩) ?_ ?_
                rotate_left
                ·intro w'
                 go_simp
                 with_reducible rfl
                rotate_left
                ·simp only [Act.put, List.setIfInBounds_toArray, List.set_cons_zero, List.set_cons_succ, i64_w, i32_w]
                 rfl
                refine pure_ (i := 7) (N := some 44) (v := ?_) (a' := ?_) #[true, true, true, true, false, true, true, true, false, false, false, false, false, false, false, false] rfl rfl (any_of HT_.out (by kernel_rfl)) (fun _ _ _ h => h) (Or.inl ⟨by rfl, ?_⟩) ?_ ?_
                rotate_left
                ·intro w'
                 go_simp
                 with_reducible rfl
                rotate_left
                ·simp only [Act.put, List.setIfInBounds_toArray, List.set_cons_zero, List.set_cons_succ, i64_w, i32_w]
                 rfl
                refine pure_ (i := 8) (N := some 45) (v := ?_) (a' := ?_) #[true, true, true, true, false, true, true, true, true, false, false, false, false, false, false, false] rfl rfl (any_of HT_.out (by kernel_rfl)) (fun _ _ _ h => h) (Or.inl ⟨by rfl, ?_⟩) ?_ ?_
                rotate_left
                ·intro w'
                 go_simp
                 with_reducible rfl
                rotate_left
                ·simp only [Act.put, List.setIfInBounds_toArray, List.set_cons_zero, List.set_cons_succ, i64_w, i32_w]
                 rfl
                refine take_ (i := 4) (N := some 41) (v := ?_) (a' := ?_) #[true, true, true, true, true, true, true, true, true, false, false, false, false, false, false, false] rfl rfl (take_ofW HT_.out HW_.out (by kernel_rfl)) (fun _ _ _ h => h) (Or.inl ⟨by rfl, ?_⟩) hHeld ?_ ?_
                rotate_left
                ·rintro w' ⟨s0, s1, s2⟩
                 go_simp
                 with_reducible rfl
                rotate_left
                ·simp only [Act.put, List.setIfInBounds_toArray, List.set_cons_zero, List.set_cons_succ, i64_w, i32_w]
                 rfl
                refine take_ (i := 9) (N := some 46) (v := ?_) (a' := ?_) #[true, true, true, true, true, true, true, true, true, true, false, false, false, false, false, false] rfl rfl (take_ofW HT_.out HW_.out (by kernel_rfl)) (fun _ _ _ h => h) (Or.inl ⟨by rfl, ?_⟩) hHeld ?_ ?_
                rotate_left
                ·rintro w' ⟨s0, s1, s2⟩
                 go_simp
                 with_reducible rfl
                rotate_left
                ·simp only [Act.put, List.setIfInBounds_toArray, List.set_cons_zero, List.set_cons_succ, i64_w, i32_w]
                 rfl
                refine pure_ (i := 10) (N := some 47) (v := ?_) (a' := ?_) #[true, true, true, true, true, true, true, true, true, true, true, false, false, false, false, false] rfl rfl (any_of HT_.out (by kernel_rfl)) (fun _ _ _ h => h) (Or.inl ⟨by rfl, ?_⟩) ?_ ?_
                rotate_left
                ·intro w'
                 go_simp
                 with_reducible rfl
                rotate_left
                ·simp only [Act.put, List.setIfInBounds_toArray, List.set_cons_zero, List.set_cons_succ, i64_w, i32_w]
                 rfl
                refine take_ (i := 11) (N := some 48) (v := ?_) (a' := ?_) #[true, true, true, true, true, true, true, true, true, true, true, true, false, false, false, false] rfl rfl (take_ofW HT_.out HW_.out (by kernel_rfl)) (fun _ _ _ h => h) (Or.inl ⟨by rfl, ?_⟩) hHeld ?_ ?_
                rotate_left
                ·rintro w' ⟨s0, s1, s2⟩
                 go_simp
                 with_reducible rfl
                rotate_left
                ·simp only [Act.put, List.setIfInBounds_toArray, List.set_cons_zero, List.set_cons_succ, i64_w, i32_w]
                 rfl
                refine pure_ (i := 12) (N := some 49) (v := ?_) (a' := ?_) #[true, true, true, true, true, true, true, true, true, true, true, true, true, false, false, false] rfl rfl (any_of HT_.out (by kernel_rfl)) (fun _ _ _ h => h) (Or.inl ⟨by rfl, ?_⟩) ?_ ?_
                rotate_left
                ·intro w'
                 go_simp
                 with_reducible rfl
                rotate_left
                ·simp only [Act.put, List.setIfInBounds_toArray, List.set_cons_zero, List.set_cons_succ, i64_w, i32_w]
                 rfl
                refine last_ (i := 13) (N := some 50) #[true, true, true, true, true, true, true, true, true, true, true, true, true, true, false, false] rfl rfl (one_of HT_.out (by kernel_rfl)) (by decide) (fun K hK => ?_)
                refine value_ (w1 := ?_) (v := ?_) (by rfl) rfl ?_ ?_
                rotate_left 2
                ·go_simp
                 constructor
                 ·rfl
                 ·rfl
                refine hK.out _ _ ?_
                clear hK K
                refine norm_ (a' := ?_) ?_ ?_
                rotate_left
                ·show Act.put _ (some 50) _ = _
                 simp only [Act.put, List.setIfInBounds_toArray, List.set_cons_zero, List.set_cons_succ, i64_w, i32_w]
                 rfl
                refine last_ (i := 14) (N := some 51) #[true, true, true, true, true, true, true, true, true, true, true, true, true, true, true, false] rfl rfl (one_of HT_.out (by kernel_rfl)) (by decide) (fun K hK => ?_)
                refine Kd.R_append_step k62 (w0 := w) w.heap.size (by rfl) (.tmp 37) (.tmp 50) 47 62 (.agg #[(.int .i64 0), (.string ⟨#[]⟩)]) 24 rfl Tryd.underlying47 info62 rfl (by decide) (by omega) u9 x9_2 (⟨rd x7_2 0, rdOf ByteArray.empty l0 (rd x7_2 0)⟩ : S62) [.int .i64 (rd x7_2 0), .string (rdOf ByteArray.empty l0 (rd x7_2 0))] (fun _ => True) (fun _ => False) rfl rfl ?aP (fun _ hk => hk.elim) ?aF ?aO ?aB ?aS ?aL ?_
                (case aP => exact k62_mkM _ _ _ (⟨rd x7_2 0, rdOf ByteArray.empty l0 (rd x7_2 0)⟩ : S62))
                (case aB => exact (by repeat (first | (with_reducible first | exact HB.out | apply below_alloc | apply pw_below_drewN | apply below_drew1) | exact HB.out)))
                (case aF => exact (fun _ _ => trivial))
                (case aO => exact (by (with_reducible repeat (first | apply Kd.R_alloc | apply Kd.R_drewN | apply Kd.R_drew)); exact HO_9.out))
                (case aS => exact (below_size (by repeat (first | (with_reducible first | exact HB.out | apply below_alloc | apply pw_below_drewN | apply below_drew1) | exact HB.out))))
                (case aL => have := LMc36.out; omega)
                intro v507 w43 ho hb hg hat
                rw [← Ny506.out] at ho
                have n0_ := Aside0.mk (Kd.R_over' (by (with_reducible repeat (first | apply Kd.R_alloc | apply Kd.R_drewN | apply Kd.R_drew)); exact HO_7.out) (Kd.R_typed (by (with_reducible repeat (first | apply Kd.R_alloc | apply Kd.R_drewN | apply Kd.R_drew)); exact HO_9.out)) (by decide) hg)
                have n1_ := Aside0.mk (hb)
                have n2_ := Aside0.mk (ho)
                clear HO_7
                clear HB
                clear HO_9
                have HO_7 := n0_
                have HB := n1_
                have HO508 := n2_
                clear n0_ n1_ n2_
                clear ho hb hg hat
                refine hK.out _ _ ?_
                clear hK K
                refine norm_ (a' := ?_) ?_ ?_
                rotate_left
                ·show Act.put _ (some 51) _ = _
                 simp only [Act.put, List.setIfInBounds_toArray, List.set_cons_zero, List.set_cons_succ, i64_w, i32_w]
                 rfl
                refine pure_ (i := 15) (N := some 9) (v := ?_) (a' := ?_) #[true, true, true, true, true, true, true, true, true, true, true, true, true, true, true, true] rfl rfl (any_of HT_.out (by kernel_rfl)) (fun _ _ _ h => h) (Or.inl ⟨by rfl, ?_⟩) ?_ ?_
                rotate_left
                ·intro w'
                 go_simp
                 with_reducible rfl
                rotate_left
                ·simp only [Act.put, List.setIfInBounds_toArray, List.set_cons_zero, List.set_cons_succ, i64_w, i32_w]
                 rfl
                refine done_ (done_of HT_.out (by kernel_rfl)) ?_
                try go_wp2
                have n0_ := Aside0.mk (Kd.R_drew HO_7.out)
                have n1_ := Aside0.mk (Kd.R_drew HO508.out)
                have n2_ := Aside0.mk (below_drew1 HB.out)
                clear HO_7
                clear HO508
                clear HB
                have HO_7 := n0_
                have HO508 := n1_
                have HB := n2_
                clear n0_ n1_ n2_
                have q45 : (0 : Int) ≤ ((x7_2.length : Int) : Int) := of_decide_eq_true (by first | (with_reducible assumption) | assumption)
                obtain ⟨i045, hi045, _, hsz45, _⟩ := info_parts info3
                have hroom45 : x7_2.length ≤ co42 := (Kd.R_reads' HO_7.out).2.1
                have hC45 : Kd.C (Kd.int .i64) _ (some ad503) x7_2.length x7_2 := (Kd.R_reads' HO_7.out).2.2
                have hcut45 := cut_to (P := Tryd.prog) 56 3 .i64 Tryd.underlying56 hi045 (some ad503) x7_2.length co42 0 (by omega) q45 hroom45
                have hr45 := Kd.C_take (m := 0) hC45 (by omega)
                have hy45 : y512.length = (0 : Int).toNat := (by rw [Ny512.out, List.length_take]; omega)
                rw [← Ny512.out] at hr45
                rw [← hy45] at hcut45
                have HR515 := Aside0.mk hr45
                have HC515 := Aside0.mk (show y512.length ≤ co42 from by omega)
                clear hr45 hC45 hroom45 hi045 hsz45
                have KY45 := Aside0.mk hy45
                clear hy45
                have KL45 := Aside0.mk (show 0 ≤ x7_2.length from by omega)
                replace q45 := eq_true q45
                have q46 : (1 : Int) ≤ ((x7_2.length : Int) : Int) := of_decide_eq_true (by first | (with_reducible assumption) | assumption)
                obtain ⟨i046, hi046, _, hsz46, _⟩ := info_parts info3
                have hroom46 : x7_2.length ≤ co42 := (Kd.R_reads' HO_7.out).2.1
                have hC46 : Kd.C (Kd.int .i64) _ (some ad503) x7_2.length x7_2 := (Kd.R_reads' HO_7.out).2.2
                have hcut46 := cut_from (P := Tryd.prog) 56 3 .i64 Tryd.underlying56 hi046 1 hsz46 (some ad503) x7_2.length co42 1 (by omega) q46
                have hr46 := Kd.C_drop (m := (1 : Int).toNat) (c := co42) hC46 (by omega) hroom46
                obtain ⟨A46, hA46⟩ : ∃ A1, A1 = (if co42 = (1 : Int).toNat then (some ad503) else ((some ad503) : Option Addr).map (·.add ((1 : Int).toNat * 1))) := ⟨_, rfl⟩
                obtain ⟨c46, hc46⟩ : ∃ c1, c1 = co42 - (1 : Int).toNat := ⟨_, rfl⟩
                have hy46 : y519.length = x7_2.length - (1 : Int).toNat := (by rw [Ny519.out, List.length_drop] <;> omega)
                rw [show (x7_2).drop (1 : Int).toNat = y519 from Ny519.out.symm] at hr46
                replace hr46 : Kd.C (Kd.int .i64) _ A46 y519.length y519 := (by rw [hA46]; exact hr46)
                rw [← hy46, ← hA46, ← hc46] at hcut46
                have HR522 := Aside0.mk hr46
                have HC522 := Aside0.mk (show y519.length ≤ c46 from by rw [hy46, hc46]; exact Nat.sub_le_sub_right hroom46 _)
                clear hr46 hC46 hroom46 hi046 hsz46 hc46
                have KY46 := Aside0.mk hy46
                have KA46 := Aside0.mk hA46
                clear hy46 hA46
                have KL46 := Aside0.mk (show 1 ≤ x7_2.length from by omega)
                replace q46 := eq_true q46
                refine start_ (n := 11) (S := fun w' => True) (ds := []) #[false, false, false, false, false, false, false, false, false, false, false] (by kernel_rfl) rfl rfl trivial (fun hHeld => ?_); refine with_tabW corncriblaw04_some.tab15 corncriblaw04_some.bits15 (fun HT_ HW_ => ?_)
                generalize w43.drew = w44 at HO_7 HO508 HB HR515 HR522 hHeld ⊢
                refine pure_ (i := 1) (N := some 53) (v := ?_) (a' := ?_) #[false, true, false, false, false, false, false, false, false, false, false] rfl rfl (any_of HT_.out (by kernel_rfl)) (fun _ _ _ h => h) (Or.inl ⟨by rfl, ?_⟩) ?_ ?_
                rotate_left
                ·intro w'
                 go_simp
                 with_reducible rfl
                rotate_left
                ·simp only [Act.put, List.setIfInBounds_toArray, List.set_cons_zero, List.set_cons_succ, i64_w, i32_w]
                 rfl
                refine pure_ (i := 2) (N := some 54) (v := ?_) (a' := ?_) #[false, true, true, false, false, false, false, false, false, false, false] rfl rfl (any_of HT_.out (by kernel_rfl)) (fun _ _ _ h => h) (Or.inl ⟨by rfl, ?_⟩) ?_ ?_
                rotate_left
                ·intro w'
                 go_simp
                 with_reducible rfl
                rotate_left
                ·simp only [Act.put, List.setIfInBounds_toArray, List.set_cons_zero, List.set_cons_succ, i64_w, i32_w]
                 rfl
                refine pure_ (i := 3) (N := some 55) (v := ?_) (a' := ?_) #[false, true, true, true, false, false, false, false, false, false, false] rfl rfl (any_of HT_.out (by kernel_rfl)) (fun _ _ _ h => h) (Or.inl ⟨by rfl, ?_⟩) ?_ ?_
                rotate_left
                ·intro w'
                 go_simp
                 with_reducible rfl
                rotate_left
                ·simp only [Act.put, List.setIfInBounds_toArray, List.set_cons_zero, List.set_cons_succ, i64_w, i32_w]
                 rfl
                refine pure_ (i := 5) (N := some 57) (v := ?_) (a' := ?_) #[false, true, true, true, false, true, false, false, false, false, false] rfl rfl (any_of HT_.out (by kernel_rfl)) (fun _ _ _ h => h) (Or.inl ⟨by rfl, ?_⟩) ?_ ?_
                rotate_left
                ·intro w'
                 go_simp
                 with_reducible rfl
                rotate_left
                ·simp only [Act.put, List.setIfInBounds_toArray, List.set_cons_zero, List.set_cons_succ, i64_w, i32_w]
                 rfl
                refine pure_ (i := 6) (N := some 58) (v := ?_) (a' := ?_) #[false, true, true, true, false, true, true, false, false, false, false] rfl rfl (any_of HT_.out (by kernel_rfl)) (fun _ _ _ h => h) (Or.inl ⟨by rfl, ?_⟩) ?_ ?_
                rotate_left
                ·intro w'
                 go_simp
                 with_reducible rfl
                rotate_left
                ·simp only [Act.put, List.setIfInBounds_toArray, List.set_cons_zero, List.set_cons_succ, i64_w, i32_w]
                 rfl
                refine pure_ (i := 7) (N := some 59) (v := ?_) (a' := ?_) #[false, true, true, true, false, true, true, true, false, false, false] rfl rfl (any_of HT_.out (by kernel_rfl)) (fun _ _ _ h => h) (Or.inl ⟨by rfl, ?_⟩) ?_ ?_
                rotate_left
                ·intro w'
                 go_simp
                 with_reducible rfl
                rotate_left
                ·simp only [Act.put, List.setIfInBounds_toArray, List.set_cons_zero, List.set_cons_succ, i64_w, i32_w]
                 rfl
                refine pure_ (i := 8) (N := some 60) (v := ?_) (a' := ?_) #[false, true, true, true, false, true, true, true, true, false, false] rfl rfl (any_of HT_.out (by kernel_rfl)) (fun _ _ _ h => h) (Or.inl ⟨by rfl, ?_⟩) ?_ ?_
                rotate_left
                ·intro w'
                 go_simp
                 with_reducible rfl
                rotate_left
                ·simp only [Act.put, List.setIfInBounds_toArray, List.set_cons_zero, List.set_cons_succ, i64_w, i32_w]
                 rfl
                refine one_ (i := 0) (N := some 52) #[true, true, true, true, false, true, true, true, true, false, false] rfl rfl (one_of HT_.out (by kernel_rfl)) (by decide) (fun K hK => ?_)
                refine Kd.R_lit_step (Kd.int .i64) _ 3 ?hg (N := 52) ?hd (xs := ([] : List Int)) (inner := []) (ok := fun _ => True) (okp := fun _ => True) ?hr ?hp (fun _ hk => hk) trivial (Below.refl _ _) (Nat.le_refl _) (by simp) ?_; (case hd => rfl); (case hg => rfl); (case hr => first | (go_simp; done) | (go_simp; rfl)); (case hp => exact (Reps.none _ _))
                intro v510 w47 ho48 hb hg_ hnew_
                clear hg_ hnew_
                (first | rw [← Ny509.out] at ho48 | (simp only [Int.reduceToNat] at ho48; rw [← Ny509.out] at ho48))
                have n0_ := Aside0.mk (Kd.R_elder' (by (with_reducible repeat (first | apply Kd.R_alloc | apply Kd.R_drewN | apply Kd.R_drew)); exact HO_7.out) (Kd.R_base ho48) hb)
                have n1_ := Aside0.mk (Kd.R_below (by (with_reducible repeat (first | apply Kd.R_alloc | apply Kd.R_drewN | apply Kd.R_drew)); exact HO508.out) hb)
                have n2_ := Aside0.mk (Kd.R_lower (Kd.R_new' ho48 (Kd.R_lt (by (with_reducible repeat (first | apply Kd.R_alloc | apply Kd.R_drewN | apply Kd.R_drew)); exact HO_7.out))) (below_size (by repeat (first | (with_reducible first | exact HB.out | apply below_alloc | apply pw_below_drewN | apply below_drew1) | exact HB.out))))
                have n3_ := Aside0.mk (Kd.C_below (by repeat (first | (with_reducible exact HR515.out) | (with_reducible refine Kd.C_alloc ?_ _) | (with_reducible refine Kd.C_drewN ?_ _) | (with_reducible refine Kd.C_drew ?_) | exact HR515.out)) hb)
                have n4_ := Aside0.mk (Kd.C_below (by repeat (first | (with_reducible exact HR522.out) | (with_reducible refine Kd.C_alloc ?_ _) | (with_reducible refine Kd.C_drewN ?_ _) | (with_reducible refine Kd.C_drew ?_) | exact HR522.out)) hb)
                have n5_ := Aside0.mk (below_step (by repeat (first | (with_reducible first | exact HB.out | apply below_alloc | apply pw_below_drewN | apply below_drew1) | exact HB.out)) hb)
                clear HO_7
                clear HO508
                clear HR515
                clear HR522
                clear HB
                have HO_7 := n0_
                have HO508 := n1_
                have HO511 := n2_
                have HR515 := n3_
                have HR522 := n4_
                have HB := n5_
                clear n0_ n1_ n2_ n3_ n4_ n5_
                clear hb ho48
                refine hK.out _ _ trivial (fun hHeld => ?_)
                clear hK K
                refine norm_ (a' := ?_) ?_ ?_
                rotate_left
                ·show Act.put _ (some 52) _ = _
                 simp only [Act.put, List.setIfInBounds_toArray, List.set_cons_zero, List.set_cons_succ, i64_w, i32_w]
                 rfl
                refine one_ (i := 4) (N := some 56) #[true, true, true, true, true, true, true, true, true, false, false] rfl rfl (one_of HT_.out (by kernel_rfl)) (by decide) (fun K hK => ?_)
                refine Kd.R_append_rows_step (Kd.int .i64) (w0 := w) w.heap.size (by rfl) (.tmp 52) (.tmp 55) 56 3 (.int .i64 0) 8 rfl Tryd.underlying56 info3 rfl (by decide) (by omega) v510 y509 y512 _ _ _ (fun k_ => some k_ ≠ (.slice (some ad503) x7_2.length co42 : Value).ownBlock) (fun _ => False) rfl rfl ?aO ?aR (fun _ _ h => h) (fun _ h => h.elim) ?aF ?aB ?aS ?aL ?_
                (case aR => repeat (first | exact (by repeat (first | (with_reducible exact HR515.out) | (with_reducible refine Kd.C_alloc ?_ _) | (with_reducible refine Kd.C_drewN ?_ _) | (with_reducible refine Kd.C_drew ?_) | exact HR515.out)) | (with_reducible refine Kd.C_alloc ?_ _) | (with_reducible refine Kd.C_drewN ?_ _) | (with_reducible refine Kd.C_drew ?_)))
                (case aB => exact (by repeat (first | (with_reducible first | exact HB.out | apply below_alloc | apply pw_below_drewN | apply below_drew1) | exact HB.out)))
                (case aF => exact (fun k_ hk => Kd.fresh' (Kd.R_lt (by (with_reducible repeat (first | apply Kd.R_alloc | apply Kd.R_drewN | apply Kd.R_drew)); exact HO_7.out)) k_ hk))
                (case aO => exact (by (with_reducible repeat (first | apply Kd.R_alloc | apply Kd.R_drewN | apply Kd.R_drew)); exact Kd.R_mono HO511.out (fun _ hk => hk.2)))
                (case aS => exact (below_size (by repeat (first | (with_reducible first | exact HB.out | apply below_alloc | apply pw_below_drewN | apply below_drew1) | exact HB.out))))
                (case aL => have := LMc38.out; omega)
                intro v517 w49 ho hb hg hat
                rw [← Ny516.out] at ho
                have n0_ := Aside0.mk (Kd.R_after (ok := (fun _ => True)) (by (with_reducible repeat (first | apply Kd.R_alloc | apply Kd.R_drewN | apply Kd.R_drew)); exact HO_7.out) hg hat)
                have n1_ := Aside0.mk (Kd.R_over' (by (with_reducible repeat (first | apply Kd.R_alloc | apply Kd.R_drewN | apply Kd.R_drew)); exact HO508.out) (Kd.R_typed (by (with_reducible repeat (first | apply Kd.R_alloc | apply Kd.R_drewN | apply Kd.R_drew)); exact HO511.out)) (by decide) hg)
                have n2_ := Aside0.mk (hb)
                have n3_ := Aside0.mk ((show Kd.C (Kd.int .i64) w49 (some ad503) y512.length y512 from by rw [Ny512.out]; exact Kd.C_take (m := 0) ((Kd.R_reads' (Kd.R_after (ok := (fun _ => True)) (by (with_reducible repeat (first | apply Kd.R_alloc | apply Kd.R_drewN | apply Kd.R_drew)); exact HO_7.out) hg hat)).2.2) KL45.out))
                have n4_ := Aside0.mk ((show Kd.C (Kd.int .i64) w49 A46 y519.length y519 from by rw [Ny519.out, KA46.out]; exact Kd.C_drop (m := 1) (c := co42) ((Kd.R_reads' (Kd.R_after (ok := (fun _ => True)) (by (with_reducible repeat (first | apply Kd.R_alloc | apply Kd.R_drewN | apply Kd.R_drew)); exact HO_7.out) hg hat)).2.2) KL46.out ((Kd.R_reads' (Kd.R_after (ok := (fun _ => True)) (by (with_reducible repeat (first | apply Kd.R_alloc | apply Kd.R_drewN | apply Kd.R_drew)); exact HO_7.out) hg hat)).2.1)))
                have n5_ := Aside0.mk (ho)
                clear HO_7
                clear HO508
                clear HB
                clear HR515
                clear HR522
                clear HO511
                have HO_7 := n0_
                have HO508 := n1_
                have HB := n2_
                have HR515 := n3_
                have HR522 := n4_
                have HO518 := n5_
                clear n0_ n1_ n2_ n3_ n4_ n5_
                clear ho hb hg hat
                refine hK.out _ _ trivial (fun hHeld => ?_)
                clear hK K
                refine norm_ (a' := ?_) ?_ ?_
                rotate_left
                ·show Act.put _ (some 56) _ = _
                 simp only [Act.put, List.setIfInBounds_toArray, List.set_cons_zero, List.set_cons_succ, i64_w, i32_w]
                 rfl
                refine one_ (i := 9) (N := some 61) #[true, true, true, true, true, true, true, true, true, true, false] rfl rfl (one_of HT_.out (by kernel_rfl)) (by decide) (fun K hK => ?_)
                refine Kd.R_append_rows_step (Kd.int .i64) (w0 := w) w.heap.size (by rfl) (.tmp 56) (.tmp 60) 56 3 (.int .i64 0) 8 rfl Tryd.underlying56 info3 rfl (by decide) (by omega) v517 y516 y519 _ _ _ (fun k_ => some k_ ≠ (.slice (some ad503) x7_2.length co42 : Value).ownBlock) (fun _ => False) rfl rfl ?aO ?aR (fun _ _ h => h) (fun _ h => h.elim) ?aF ?aB ?aS ?aL ?_
                (case aR => repeat (first | exact (by repeat (first | (with_reducible exact HR522.out) | (with_reducible refine Kd.C_alloc ?_ _) | (with_reducible refine Kd.C_drewN ?_ _) | (with_reducible refine Kd.C_drew ?_) | exact HR522.out)) | (with_reducible refine Kd.C_alloc ?_ _) | (with_reducible refine Kd.C_drewN ?_ _) | (with_reducible refine Kd.C_drew ?_)))
                (case aB => exact (by repeat (first | (with_reducible first | exact HB.out | apply below_alloc | apply pw_below_drewN | apply below_drew1) | exact HB.out)))
                (case aF => exact (fun k_ hk => Kd.fresh' (Kd.R_lt (by (with_reducible repeat (first | apply Kd.R_alloc | apply Kd.R_drewN | apply Kd.R_drew)); exact HO_7.out)) k_ hk))
                (case aO => exact (by (with_reducible repeat (first | apply Kd.R_alloc | apply Kd.R_drewN | apply Kd.R_drew)); exact HO518.out))
                (case aS => exact (below_size (by repeat (first | (with_reducible first | exact HB.out | apply below_alloc | apply pw_below_drewN | apply below_drew1) | exact HB.out))))
                (case aL => have := LMc40.out; omega)
                intro v524 w50 ho hb hg hat
                rw [← Ny523.out] at ho
                have n0_ := Aside0.mk (Kd.R_after (ok := (fun _ => True)) (by (with_reducible repeat (first | apply Kd.R_alloc | apply Kd.R_drewN | apply Kd.R_drew)); exact HO_7.out) hg hat)
                have n1_ := Aside0.mk (Kd.R_over' (by (with_reducible repeat (first | apply Kd.R_alloc | apply Kd.R_drewN | apply Kd.R_drew)); exact HO508.out) (Kd.R_typed (by (with_reducible repeat (first | apply Kd.R_alloc | apply Kd.R_drewN | apply Kd.R_drew)); exact HO518.out)) (by decide) hg)
                have n2_ := Aside0.mk (hb)
                have n3_ := Aside0.mk ((show Kd.C (Kd.int .i64) w50 (some ad503) y512.length y512 from by rw [Ny512.out]; exact Kd.C_take (m := 0) ((Kd.R_reads' (Kd.R_after (ok := (fun _ => True)) (by (with_reducible repeat (first | apply Kd.R_alloc | apply Kd.R_drewN | apply Kd.R_drew)); exact HO_7.out) hg hat)).2.2) KL45.out))
                have n4_ := Aside0.mk ((show Kd.C (Kd.int .i64) w50 A46 y519.length y519 from by rw [Ny519.out, KA46.out]; exact Kd.C_drop (m := 1) (c := co42) ((Kd.R_reads' (Kd.R_after (ok := (fun _ => True)) (by (with_reducible repeat (first | apply Kd.R_alloc | apply Kd.R_drewN | apply Kd.R_drew)); exact HO_7.out) hg hat)).2.2) KL46.out ((Kd.R_reads' (Kd.R_after (ok := (fun _ => True)) (by (with_reducible repeat (first | apply Kd.R_alloc | apply Kd.R_drewN | apply Kd.R_drew)); exact HO_7.out) hg hat)).2.1)))
                have n5_ := Aside0.mk (ho)
                clear HO_7
                clear HO508
                clear HB
                clear HR515
                clear HR522
                clear HO518
                have HO_7 := n0_
                have HO508 := n1_
                have HB := n2_
                have HR515 := n3_
                have HR522 := n4_
                have HO525 := n5_
                clear n0_ n1_ n2_ n3_ n4_ n5_
                clear ho hb hg hat
                refine hK.out _ _ trivial (fun hHeld => ?_)
                clear hK K
                refine norm_ (a' := ?_) ?_ ?_
                rotate_left
                ·show Act.put _ (some 61) _ = _
                 simp only [Act.put, List.setIfInBounds_toArray, List.set_cons_zero, List.set_cons_succ, i64_w, i32_w]
                 rfl
                refine pure_ (i := 10) (N := some 7) (v := ?_) (a' := ?_) #[true, true, true, true, true, true, true, true, true, true, true] rfl rfl (any_of HT_.out (by kernel_rfl)) (fun _ _ _ h => h) (Or.inl ⟨by rfl, ?_⟩) ?_ ?_
                rotate_left
                ·intro w'
                 go_simp
                 with_reducible rfl
                rotate_left
                ·simp only [Act.put, List.setIfInBounds_toArray, List.set_cons_zero, List.set_cons_succ, i64_w, i32_w]
                 rfl
                refine done_ (done_of HT_.out (by kernel_rfl)) ?_
                try go_wp2
                go_roundg k2
                case measure => have := HK1.out; have := HK2.out; omega
                case rel => exact ⟨(y523), (y506), (wrap64 (x23_2 + 1)), (by first | rfl | (simp; done) | (simp [*]; done)), H', ⟨by have := HK1.out; have := HK2.out; omega⟩, ⟨by (with_reducible repeat (first | apply Kd.R_alloc | apply Kd.R_drewN | apply Kd.R_drew)); exact Kd.R_mono HO525.out (fun _ hk => trivial)⟩, ⟨by (with_reducible repeat (first | apply Kd.R_alloc | apply Kd.R_drewN | apply Kd.R_drew)); exact HO508.out⟩, ⟨by repeat (first | (with_reducible first | exact HB.out | apply below_alloc | apply pw_below_drewN | apply below_drew1) | exact HB.out)⟩⟩
               ·rw [if_neg c40] at H
                exact absurd H (by simp)
              ·rw [if_neg c39] at H
               exact absurd H (by simp)
             ·rw [if_neg c38] at H
              exact absurd H (by simp)
            ·rw [if_neg c37] at H
             exact absurd H (by simp)
           ·rw [if_neg c36] at H
            exact absurd H (by simp)
          ·rw [if_neg c35] at H
           exact absurd H (by simp)
         ·rw [if_neg c34] at H
          exact absurd H (by simp)
        ·rw [if_neg c33] at H
         exact absurd H (by simp)
      ·rw [if_neg c7] at H
       have c7b0 : decide (x23_2 < a1) = false := decide_eq_false c7
       clear c7
       obtain rfl := Option.some.inj H
       go_wp2
       go_ret
       exact ⟨_, by first | rfl | (simp [errW_none, errW_some] <;> rfl) | (simp [*, errW_none, errW_some] <;> rfl), by (with_reducible repeat (first | apply Kd.R_alloc | apply Kd.R_drewN | apply Kd.R_drew)); exact HO_9.out, by repeat (first | (with_reducible first | exact HB.out | apply below_alloc | apply pw_below_drewN | apply below_drew1) | exact HB.out)⟩

end Go.Proofs.YtegmmefijihdeaaDoor.PS
namespace Go.Proofs.YtegmmefijihdeaaDoor.PS
open Go.RowKit Go.Proofs.YtegmmefijihdeaaDoorW.PrintWords Go.Proofs.YtegmmefijihdeaaDoorW.PrintLast Go.Proofs.YtegmmefijihdeaaDoorW.PrintMore Go.Proofs.YtegmmefijihdeaaDoor.Gf Go.Proofs.YtegmmefijihdeaaDoor.Fld Go.Proofs.YtegmmefijihdeaaDoor.Grd Go.Proofs.YtegmmefijihdeaaDoor.Rowb
set_option linter.unusedVariables false
set_option linter.unusedSimpArgs false
/-- Shards that are there, each once. -/
structure Picked (all : List ByteArray) (l : List S62) : Prop where
  rng : ∀ x, x ∈ l → 0 ≤ x.f0 ∧ x.f0 < (all.length : Int) ∧ x.f1 = rdOf ByteArray.empty all x.f0
  nodup : (l.map fun x => x.f0).Nodup
theorem rd_get (l : List Int) (i : Nat) (h : i < l.length) : rd l (i : Int) = l[i] := by
  unfold rd
  rw [Int.toNat_natCast, getD_lt _ _ _ h]
theorem some_start (all : List ByteArray) (K : Int) (picks : List Int) (hn : all.length ≤ 255) (d : Nat) : ∀ i, i + d = all.length → ∀ k, d + 1 ≤ k →
    ∃ k', k = k' + d + 1 ∧ corncriblaw04_some.l0 k all K picks ((List.range i).map fun x : Nat => (x : Int)) (all.length : Int) (i : Int) = corncriblaw04_some.l1 k' all picks ((List.range all.length).map fun x : Nat => (x : Int)) [] K 0 := by
  induction d with
  | zero =>
    intro i hi k hk
    obtain ⟨m, rfl, _⟩ := pred_of (K := 0) hk
    refine ⟨m, rfl, ?_⟩
    simp only [corncriblaw04_some.l0]
    rw [if_neg (by omega), show i = all.length by omega]
  | succ d ih =>
    intro i hi k hk
    obtain ⟨m, rfl, hm⟩ := pred_of hk
    obtain ⟨k', hk', e⟩ := ih (i + 1) (by omega) m hm
    refine ⟨k', by omega, ?_⟩
    simp only [corncriblaw04_some.l0]
    rw [if_pos (by omega), if_pos (by simp; omega), w64_in ((i : Int) + 1) (by omega) (by omega)]
    have e2 : ((List.range i).map fun x : Nat => (x : Int)) ++ [(i : Int)] = (List.range (i + 1)).map fun x : Nat => (x : Int) := by rw [List.range_succ, List.map_append]; rfl
    rw [e2]
    exact e
theorem left_step {out : List S62} {left : List Int} {all : List ByteArray} (a : Nat) (ha : a < left.length) (h1 : ∀ x, x ∈ out → 0 ≤ x.f0 ∧ x.f0 < (all.length : Int) ∧ x.f1 = rdOf ByteArray.empty all x.f0) (h2 : ∀ x, x ∈ left → 0 ≤ x ∧ x < (all.length : Int)) (h3 : ((out.map fun x => x.f0) ++ left).Nodup) :
    (∀ x, x ∈ out ++ [(⟨left[a], rdOf ByteArray.empty all left[a]⟩ : S62)] → 0 ≤ x.f0 ∧ x.f0 < (all.length : Int) ∧ x.f1 = rdOf ByteArray.empty all x.f0) ∧ (∀ x, x ∈ left.take a ++ left.drop (a + 1) → 0 ≤ x ∧ x < (all.length : Int)) ∧
    (((out ++ [(⟨left[a], rdOf ByteArray.empty all left[a]⟩ : S62)]).map fun x => x.f0) ++ (left.take a ++ left.drop (a + 1))).Nodup := by
  have hx := h2 _ (List.getElem_mem ha)
  refine ⟨fun x hm => ?_, fun x hm => ?_, ?_⟩
  · rcases List.mem_append.1 hm with hm | hm
    · exact h1 x hm
    · rw [List.mem_singleton.1 hm]
      exact ⟨hx.1, hx.2, rfl⟩
  · rcases List.mem_append.1 hm with hm | hm
    · exact h2 x (List.mem_of_mem_take hm)
    · exact h2 x (List.mem_of_mem_drop hm)
  · have e : left = left.take a ++ left[a] :: left.drop (a + 1) := by rw [List.getElem_cons_drop, List.take_append_drop]
    have hp : left.Perm (left[a] :: (left.take a ++ left.drop (a + 1))) := by
      conv => lhs; rw [e]
      exact List.perm_middle
    rw [List.map_append, List.append_assoc]
    exact (List.Perm.nodup_iff (List.Perm.append_left _ hp)).1 h3
theorem some_from (all : List ByteArray) (K : Nat) (picks : List Int) (hn : all.length ≤ 255) (hK : K ≤ all.length) (hp : ∀ x, x ∈ picks → -9223372036854775808 ≤ x ∧ x ≤ 9223372036854775807) (d : Nat) : ∀ i (out : List S62) (left : List Int), i + d = K → out.length = i → left.length + i = all.length →
    (∀ x, x ∈ out → 0 ≤ x.f0 ∧ x.f0 < (all.length : Int) ∧ x.f1 = rdOf ByteArray.empty all x.f0) → (∀ x, x ∈ left → 0 ≤ x ∧ x < (all.length : Int)) → ((out.map fun x => x.f0) ++ left).Nodup → ∀ k, d + 1 ≤ k →
    ∃ r, corncriblaw04_some.l1 k all picks left out (K : Int) (i : Int) = some r ∧ r.length = K ∧ Picked all r := by
  induction d with
  | zero =>
    intro i out left hi ho hl h1 h2 h3 k hk
    obtain ⟨m, rfl, _⟩ := pred_of (K := 0) hk
    refine ⟨out, ?_, by omega, h1, ?_⟩
    · simp only [corncriblaw04_some.l1]
      rw [if_neg (by omega)]
    · exact (List.nodup_append.1 h3).1
  | succ d ih =>
    intro i out left hi ho hl h1 h2 h3 k hk
    obtain ⟨m, rfl, hm⟩ := pred_of hk
    have key : ∀ a : Nat, a < left.length → ∃ r, corncriblaw04_some.l1 m all picks (left.take a ++ left.drop (a + 1)) (out ++ [(⟨rd left (a : Int), rdOf ByteArray.empty all (rd left (a : Int))⟩ : S62)]) (K : Int) ((i + 1 : Nat) : Int) = some r ∧ r.length = K ∧ Picked all r := fun a ha => by
      obtain ⟨q1, q2, q3⟩ := left_step (out := out) (all := all) a ha h1 h2 h3
      rw [rd_get left a ha]
      exact ih (i + 1) _ _ (by omega) (by simp; omega) (by rw [List.length_append, List.length_take, List.length_drop]; omega) q1 q2 q3 m hm
    simp only [corncriblaw04_some.l1]
    rw [if_pos (by omega)]
    by_cases hip : (i : Int) < (picks.length : Int)
    · have hil : i < picks.length := by omega
      have hpr := hp _ (List.getElem_mem hil)
      obtain ⟨a, ha, e⟩ := among_f picks[i] left.length hpr.1 hpr.2 (by omega) (by omega)
      have hx := h2 _ (List.getElem_mem ha)
      obtain ⟨r, hr, hr2⟩ := key a ha
      refine ⟨r, ?_, hr2⟩
      rw [if_pos hip, if_pos (by omega), rd_get picks i hil, e, Option.bind_some, if_pos (by omega), if_pos (by omega), if_pos (by rw [rd_get left a ha]; exact hx.1), if_pos (by rw [rd_get left a ha]; exact hx.2), if_pos (by omega), Option.bind_some, if_pos (by omega), Option.bind_some, if_pos (by rw [List.length_take, List.length_nil]; omega), Option.bind_some, w64_in ((a : Int) + 1) (by omega) (by omega), if_pos (by omega), if_pos (by omega), Option.bind_some, Int.toNat_natCast, show ((a : Int) + 1).toNat = a + 1 by omega, if_pos (by rw [List.length_append, List.length_take, List.length_drop, List.length_nil]; omega), w64_in ((i : Int) + 1) (by omega) (by omega), List.nil_append]
      exact hr
    · have ha : 0 < left.length := by omega
      have hx := h2 _ (List.getElem_mem ha)
      obtain ⟨r, hr, hr2⟩ := key 0 ha
      have e0 : rd left 0 = left[0] := rd_get left 0 ha
      refine ⟨r, ?_, hr2⟩
      rw [if_neg hip, if_pos (by omega), if_pos (by rw [e0]; exact hx.1), if_pos (by rw [e0]; exact hx.2), if_pos (by omega), Option.bind_some, if_pos (by omega), Option.bind_some, if_pos (by simp), Option.bind_some, if_pos (by omega), Option.bind_some, if_pos (by simp; omega), w64_in ((i : Int) + 1) (by omega) (by omega), List.nil_append]
      exact hr
theorem some_f (all : List ByteArray) (K : Nat) (picks : List Int) (hn : all.length ≤ 255) (hK : K ≤ all.length) (hp : ∀ x, x ∈ picks → -9223372036854775808 ≤ x ∧ x ≤ 9223372036854775807) (k : Nat) (hk : all.length + K + 2 ≤ k) :
    ∃ r, corncriblaw04_some.f k all (K : Int) picks = some r ∧ r.length = K ∧ Picked all r := by
  obtain ⟨k', hk', e⟩ := some_start all (K : Int) picks hn all.length 0 (by omega) k (by omega)
  unfold corncriblaw04_some.f
  have e' : corncriblaw04_some.l0 k all (K : Int) picks [] (all.length : Int) 0 = _ := e
  rw [e']
  refine some_from all K picks hn hK hp K 0 [] _ (by omega) rfl (by simp) (fun x h => by cases h) (fun x h => ?_) ?_ k' (by omega)
  · obtain ⟨i, hi, rfl⟩ := List.mem_map.1 h
    have := List.mem_range.1 hi
    omega
  · simp only [List.map_nil, List.nil_append]
    exact nodup_map_of (fun a _ b _ e => by omega) List.nodup_range
/-- Shards of an object, each once, are good; they make the object's shards. -/
theorem picked_good {K M : Nat} {o : ByteArray} {l : List S62} (h1 : 1 ≤ K) (h2 : K + M ≤ 255) (ho : o.size ≤ 2048) (hK : K ≤ l.length) (hp : Picked (encL K M o) l) : Good K M l ∧ shardN l = sizeN K o.size := by
  have hal : (encL K M o).length = K + M := encL_len K M o
  have hsz : ∀ (i : Nat) (h : i < l.length), l[i].f1.size = sizeN K o.size := fun i h => by
    obtain ⟨a, b, c⟩ := hp.rng _ (List.getElem_mem h)
    obtain ⟨q, hq⟩ : ∃ q : Nat, l[i].f0 = (q : Int) := ⟨l[i].f0.toNat, by omega⟩
    rw [c, hq, rdOf_nat _ q (by omega)]
    exact encL_size K M o h1 _ (List.getElem_mem _)
  have h0 : shardN l = sizeN K o.size := by
    unfold shardN
    have : rd_T62 l 0 = l[0]'(by omega) := rdT_nat l 0 (by omega)
    rw [this]
    exact hsz 0 (by omega)
  refine ⟨⟨h1, h2, hK, fun i h => ?_, fun j i hj h => ?_, fun i h => ?_, ?_⟩, h0⟩
  · obtain ⟨a, b, _⟩ := hp.rng _ (List.getElem_mem h)
    rw [hal] at b
    push_cast at b
    exact ⟨a, b⟩
  · have := List.pairwise_iff_getElem.1 (List.nodup_iff_pairwise_ne.1 hp.nodup) j i (by simp; omega) (by simpa using h) hj
    simpa using this
  · rw [hsz i h]
    exact h0.symm
  · have := sizeN_small K o.size h1 (by omega) ho
    unfold shardN at h0
    omega
theorem encL_all (K M : Nat) (o : ByteArray) : encL K M o = allL K M (sizeN K o.size) (splitL K o) := rfl
theorem picked_data {K M : Nat} {o : ByteArray} {l : List S62} (h1 : 1 ≤ K) (h2 : K + M ≤ 255) (ho : o.size ≤ 2048) (hK : K ≤ l.length) (hp : Picked (encL K M o) l) : dataL K M l = splitL K o := by
  obtain ⟨g, hn⟩ := picked_good h1 h2 ho hK hp
  refine g.recover (splitL K o) (splitL_len K o) (by rw [hn]; exact splitL_size K o h1) (fun i hi => ?_)
  have hil : i < l.length := by omega
  obtain ⟨a, b, c⟩ := hp.rng _ (List.getElem_mem hil)
  have hal : (encL K M o).length = K + M := encL_len K M o
  obtain ⟨q, hq⟩ : ∃ q : Nat, l[i].f0 = (q : Int) := ⟨l[i].f0.toNat, by omega⟩
  have hq2 : q < K + M := by omega
  rw [c, hq, rdOf_nat _ q (by omega), Int.toNat_natCast, hn]
  exact allL_at (splitL_len K o) (splitL_size K o h1) q hq2
theorem few_check {K M : Nat} {l : List S62} (g : Good K M l) (n : Nat) (hn : n < K) : checkV (K : Int) (M : Int) (l.take n) = (-1, 40) := by
  have hlen := g.len
  have htl : (l.take n).length = n := by rw [List.length_take]; omega
  have h1 := g.k1
  have h2 := g.km
  unfold checkV
  rw [if_pos (codeB_in h1 h2), scan_all _ _ (l.take n) (fun j hj => ?_) (l.take n).length 0 (by omega), if_pos (by omega)]
  have hj' : j < l.length := by omega
  have e0 : rd_T62 (l.take n) 0 = rd_T62 l 0 := by
    have e1 : rd_T62 (l.take n) 0 = (l.take n)[0]'(by omega) := rdT_nat (l.take n) 0 (by omega)
    have e2 : rd_T62 l 0 = l[0]'(by omega) := rdT_nat l 0 (by omega)
    rw [e1, e2, List.getElem_take]
  have et : ∀ q (hq : q < (l.take n).length), (l.take n)[q] = l[q]'(by omega) := fun q hq => List.getElem_take
  refine err_mk hj ?_ ?_ (fun q hq => ?_) ?_ ?_
  · rw [et j hj]; exact (g.rng j hj').1
  · rw [et j hj]; exact (g.rng j hj').2
  · rw [et j hj, et q (by omega)]; exact g.dist q j hq hj'
  · rw [et j hj, g.size j hj']; exact g.most
  · rw [et j hj, e0]; exact g.size j hj'
end Go.Proofs.YtegmmefijihdeaaDoor.PS
namespace Go.Proofs.YtegmmefijihdeaaDoor.PS
open Go.RowKit Go.Proofs.YtegmmefijihdeaaDoorW.PrintWords Go.Proofs.YtegmmefijihdeaaDoorW.PrintLast Go.Proofs.YtegmmefijihdeaaDoorW.PrintMore
attribute [local go_sem] Mk.str_leq Mk.str_gtr Mk.str_geq max2_int min2_int max_two min_two max_three min_three max_four min_four   -- for this text's walks alone
set_option linter.unusedVariables false
set_option linter.unusedSimpArgs false

/-! ### corncriblaw04_MendAny: function 12 -/
mutual
def corncriblaw04_MendAny.j0 : Nat → ByteArray → List Int → Int → Int → List ByteArray → Bool → Option (Bool)
 | 0, _, _, _, _, _, _ => none
 | k + 1, x1, x2, x7, x8, x9, x47 => if x47 = true then (some false) else ((corncriblaw04_some.f k x9 x7 x2).bind fun t550 => ((mend_Object.f k x7 x8 t550).bind fun bt553 => (if bt553.2 = 0 then (corncriblaw04_MendAny.j1 k x7 x8 x9 t550 (bt553.1.toList != x1.toList)) else (corncriblaw04_MendAny.j1 k x7 x8 x9 t550 true))))
def corncriblaw04_MendAny.j1 : Nat → Int → Int → List ByteArray → List (S62) → Bool → Option (Bool)
 | 0, _, _, _, _, _ => none
 | k + 1, x7, x8, x9, x11, x65 => if x65 = true then (some false) else (corncriblaw04_MendAny.l0 k x7 x8 x9 x11 (x9.length : Int) 0)
def corncriblaw04_MendAny.l0 : Nat → Int → Int → List ByteArray → List (S62) → Int → Int → Option (Bool)
 | 0, _, _, _, _, _, _ => none
 | k + 1, x7, x8, x9, x11, x67, x68 => if x68 < x67 then ((mend_One.f k x7 x8 x11 x68).bind fun bt555 => (if bt555.2 = 0 then (if 0 ≤ x68 then (if x68 < (x9.length : Int) then (if bt555.1.toList = (rdOf ByteArray.empty x9 x68).toList then (corncriblaw04_MendAny.l0 k x7 x8 x9 x11 x67 (wrap64 (x68 + 1))) else (some false)) else (none)) else (none)) else (some false))) else (if 0 ≤ (wrap64 (x7 - 1)) then (if (wrap64 (x7 - 1)) ≤ (x11.length : Int) then ((mend_Object.f k x7 x8 (x11.take ((wrap64 (x7 - 1)) : Int).toNat)).bind fun bt562 => (some (bt562.2 == 40))) else (none)) else (none))
end
def corncriblaw04_MendAny.f (k : Nat) (a0_0 : Int) (a0_1 : Int) (a1 : ByteArray) (l2 : List Int) : Option (Bool) := (corncriblaw04_works.f k).bind fun t543 => (if t543 = true then ((corncribbook_Among.f a0_0 6).bind fun t544 => ((corncribbook_Among.f a0_1 5).bind fun t545 => (if (a1.size : Int) > 400 then (some true) else ((stripe_Encode.f (wrap64 (1 + t544)) t545 a1).bind fun bt546 => (if bt546.2 = 0 then (corncriblaw04_MendAny.j0 k a1 l2 (wrap64 (1 + t544)) t545 bt546.1 ((bt546.1.length : Int) != (wrap64 ((wrap64 (1 + t544)) + t545)))) else (corncriblaw04_MendAny.j0 k a1 l2 (wrap64 (1 + t544)) t545 bt546.1 true)))))) else (some false))
theorem corncriblaw04_MendAny.mono_l : ∀ k, (∀ y0 y1 y2 y3 y4 y5, LeO (corncriblaw04_MendAny.j0 k y0 y1 y2 y3 y4 y5) (corncriblaw04_MendAny.j0 (k + 1) y0 y1 y2 y3 y4 y5)) ∧ (∀ y0 y1 y2 y3 y4, LeO (corncriblaw04_MendAny.j1 k y0 y1 y2 y3 y4) (corncriblaw04_MendAny.j1 (k + 1) y0 y1 y2 y3 y4)) ∧ (∀ y0 y1 y2 y3 y4 y5, LeO (corncriblaw04_MendAny.l0 k y0 y1 y2 y3 y4 y5) (corncriblaw04_MendAny.l0 (k + 1) y0 y1 y2 y3 y4 y5))
 | 0 => ⟨fun _ _ _ _ _ _ r h => by simp [corncriblaw04_MendAny.j0] at h, fun _ _ _ _ _ r h => by simp [corncriblaw04_MendAny.j1] at h, fun _ _ _ _ _ _ r h => by simp [corncriblaw04_MendAny.l0] at h⟩
 | k + 1 => by
  obtain ⟨ih0, ih1, ih2⟩ := corncriblaw04_MendAny.mono_l k
  refine ⟨?_, ?_, ?_⟩
  ·intro y0 y1 y2 y3 y4 y5
   unfold corncriblaw04_MendAny.j0
   repeat' first
   | (with_reducible exact ih0 _ _ _ _ _ _)
   | (with_reducible exact ih1 _ _ _ _ _)
   | (with_reducible exact ih2 _ _ _ _ _ _)
   | (with_reducible exact corncriblaw04_some.mono _ _ _ _)
   | (with_reducible exact corncriblaw04_works.mono _)
   | (with_reducible exact mend_Object.mono _ _ _ _)
   | (with_reducible exact mend_One.mono _ _ _ _ _)
   | (with_reducible exact LeO.refl _)
   | (with_reducible exact LeO.none _)
   | (with_reducible refine LeO.ite ?_ ?_)
   | (with_reducible refine LeO.bind ?_ (fun _ => ?_))
   | exact ih0 _ _ _ _ _ _
   | exact ih1 _ _ _ _ _
   | exact ih2 _ _ _ _ _ _
   | exact corncriblaw04_some.mono _ _ _ _
   | exact corncriblaw04_works.mono _
   | exact mend_Object.mono _ _ _ _
   | exact mend_One.mono _ _ _ _ _
   | exact LeO.none _
   | refine LeO.ite ?_ ?_
   | refine LeO.bind ?_ (fun _ => ?_)
  ·intro y0 y1 y2 y3 y4
   unfold corncriblaw04_MendAny.j1
   repeat' first
   | (with_reducible exact ih0 _ _ _ _ _ _)
   | (with_reducible exact ih1 _ _ _ _ _)
   | (with_reducible exact ih2 _ _ _ _ _ _)
   | (with_reducible exact corncriblaw04_some.mono _ _ _ _)
   | (with_reducible exact corncriblaw04_works.mono _)
   | (with_reducible exact mend_Object.mono _ _ _ _)
   | (with_reducible exact mend_One.mono _ _ _ _ _)
   | (with_reducible exact LeO.refl _)
   | (with_reducible exact LeO.none _)
   | (with_reducible refine LeO.ite ?_ ?_)
   | (with_reducible refine LeO.bind ?_ (fun _ => ?_))
   | exact ih0 _ _ _ _ _ _
   | exact ih1 _ _ _ _ _
   | exact ih2 _ _ _ _ _ _
   | exact corncriblaw04_some.mono _ _ _ _
   | exact corncriblaw04_works.mono _
   | exact mend_Object.mono _ _ _ _
   | exact mend_One.mono _ _ _ _ _
   | exact LeO.none _
   | refine LeO.ite ?_ ?_
   | refine LeO.bind ?_ (fun _ => ?_)
  ·intro y0 y1 y2 y3 y4 y5
   unfold corncriblaw04_MendAny.l0
   repeat' first
   | (with_reducible exact ih0 _ _ _ _ _ _)
   | (with_reducible exact ih1 _ _ _ _ _)
   | (with_reducible exact ih2 _ _ _ _ _ _)
   | (with_reducible exact corncriblaw04_some.mono _ _ _ _)
   | (with_reducible exact corncriblaw04_works.mono _)
   | (with_reducible exact mend_Object.mono _ _ _ _)
   | (with_reducible exact mend_One.mono _ _ _ _ _)
   | (with_reducible exact LeO.refl _)
   | (with_reducible exact LeO.none _)
   | (with_reducible refine LeO.ite ?_ ?_)
   | (with_reducible refine LeO.bind ?_ (fun _ => ?_))
   | exact ih0 _ _ _ _ _ _
   | exact ih1 _ _ _ _ _
   | exact ih2 _ _ _ _ _ _
   | exact corncriblaw04_some.mono _ _ _ _
   | exact corncriblaw04_works.mono _
   | exact mend_Object.mono _ _ _ _
   | exact mend_One.mono _ _ _ _ _
   | exact LeO.none _
   | refine LeO.ite ?_ ?_
   | refine LeO.bind ?_ (fun _ => ?_)
theorem corncriblaw04_MendAny.mono : ∀ a0 a1 a2 a3 k, LeO (corncriblaw04_MendAny.f k a0 a1 a2 a3) (corncriblaw04_MendAny.f (k + 1) a0 a1 a2 a3) := by
 intro a0 a1 a2 a3 k
 obtain ⟨ih0, ih1, ih2⟩ := corncriblaw04_MendAny.mono_l k
 unfold corncriblaw04_MendAny.f
 repeat' first
   | (with_reducible exact ih0 _ _ _ _ _ _)
   | (with_reducible exact ih1 _ _ _ _ _)
   | (with_reducible exact ih2 _ _ _ _ _ _)
   | (with_reducible exact corncriblaw04_some.mono _ _ _ _)
   | (with_reducible exact corncriblaw04_works.mono _)
   | (with_reducible exact mend_Object.mono _ _ _ _)
   | (with_reducible exact mend_One.mono _ _ _ _ _)
   | (with_reducible exact LeO.refl _)
   | (with_reducible exact LeO.none _)
   | (with_reducible refine LeO.ite ?_ ?_)
   | (with_reducible refine LeO.bind ?_ (fun _ => ?_))
   | exact ih0 _ _ _ _ _ _
   | exact ih1 _ _ _ _ _
   | exact ih2 _ _ _ _ _ _
   | exact corncriblaw04_some.mono _ _ _ _
   | exact corncriblaw04_works.mono _
   | exact mend_Object.mono _ _ _ _
   | exact mend_One.mono _ _ _ _ _
   | exact LeO.none _
   | refine LeO.ite ?_ ?_
   | refine LeO.bind ?_ (fun _ => ?_)
set_option maxHeartbeats 8000000 in
set_option maxRecDepth 100000 in
theorem corncriblaw04_MendAny.calls (k : Nat) (a0_0 : Int) (a0_1 : Int) (a1 : ByteArray) (A2 : Option Addr) (c2 : Nat) (l2 : List Int) (r : Bool) (w : World) (hr2 : Kd.C (Kd.int .i64) w A2 l2.length l2) (hc2 : l2.length ≤ c2) (h : corncriblaw04_MendAny.f k a0_0 a0_1 a1 l2 = some r) :
  Calls Tryd.prog 12 #[.agg #[.int .i64 a0_0, .int .i64 a0_1], .string a1, .slice A2 l2.length c2] w fun e w' => e = .returned (.bool r) ∧ Below w.heap.size w w' := by
 have hu52 := Tryd.underlying52
 have HR2 := Aside0.mk hr2
 have HC2 := Aside0.mk hc2
 clear hr2 hc2
 have HB := Aside0.mk (Below.refl w.heap.size w)
 have H : ((corncriblaw04_works.f k).bind fun t543 => (if t543 = true then ((corncribbook_Among.f a0_0 6).bind fun t544 => ((corncribbook_Among.f a0_1 5).bind fun t545 => (if (a1.size : Int) > 400 then (some true) else ((stripe_Encode.f (wrap64 (1 + t544)) t545 a1).bind fun bt546 => (if bt546.2 = 0 then (corncriblaw04_MendAny.j0 k a1 l2 (wrap64 (1 + t544)) t545 bt546.1 ((bt546.1.length : Int) != (wrap64 ((wrap64 (1 + t544)) + t545)))) else (corncriblaw04_MendAny.j0 k a1 l2 (wrap64 (1 + t544)) t545 bt546.1 true)))))) else (some false))) = some r := h
 clear h
 replace H := Option.bind_eq_some_iff.mp H
 obtain ⟨t543, A40, H⟩ := H
 replace H : (if t543 = true then ((corncribbook_Among.f a0_0 6).bind fun t544 => ((corncribbook_Among.f a0_1 5).bind fun t545 => (if (a1.size : Int) > 400 then (some true) else ((stripe_Encode.f (wrap64 (1 + t544)) t545 a1).bind fun bt546 => (if bt546.2 = 0 then (corncriblaw04_MendAny.j0 k a1 l2 (wrap64 (1 + t544)) t545 bt546.1 ((bt546.1.length : Int) != (wrap64 ((wrap64 (1 + t544)) + t545)))) else (corncriblaw04_MendAny.j0 k a1 l2 (wrap64 (1 + t544)) t545 bt546.1 true)))))) else (some false)) = some r := H
 have A4 := Aside0.mk A40
 clear A40
 by_cases c5 : t543 = true
 ·subst c5
  have H1 : ((corncribbook_Among.f a0_0 6).bind fun t544 => ((corncribbook_Among.f a0_1 5).bind fun t545 => (if (a1.size : Int) > 400 then (some true) else ((stripe_Encode.f (wrap64 (1 + t544)) t545 a1).bind fun bt546 => (if bt546.2 = 0 then (corncriblaw04_MendAny.j0 k a1 l2 (wrap64 (1 + t544)) t545 bt546.1 ((bt546.1.length : Int) != (wrap64 ((wrap64 (1 + t544)) + t545)))) else (corncriblaw04_MendAny.j0 k a1 l2 (wrap64 (1 + t544)) t545 bt546.1 true)))))) = some r := by rw [if_pos rfl] at H; exact H
  clear H
  have H := H1
  clear H1
  replace H := Option.bind_eq_some_iff.mp H
  obtain ⟨t544, A60, H⟩ := H
  replace H : ((corncribbook_Among.f a0_1 5).bind fun t545 => (if (a1.size : Int) > 400 then (some true) else ((stripe_Encode.f (wrap64 (1 + t544)) t545 a1).bind fun bt546 => (if bt546.2 = 0 then (corncriblaw04_MendAny.j0 k a1 l2 (wrap64 (1 + t544)) t545 bt546.1 ((bt546.1.length : Int) != (wrap64 ((wrap64 (1 + t544)) + t545)))) else (corncriblaw04_MendAny.j0 k a1 l2 (wrap64 (1 + t544)) t545 bt546.1 true))))) = some r := H
  have A6 := Aside0.mk A60
  clear A60
  replace H := Option.bind_eq_some_iff.mp H
  obtain ⟨t545, A70, H⟩ := H
  replace H : (if (a1.size : Int) > 400 then (some true) else ((stripe_Encode.f (wrap64 (1 + t544)) t545 a1).bind fun bt546 => (if bt546.2 = 0 then (corncriblaw04_MendAny.j0 k a1 l2 (wrap64 (1 + t544)) t545 bt546.1 ((bt546.1.length : Int) != (wrap64 ((wrap64 (1 + t544)) + t545)))) else (corncriblaw04_MendAny.j0 k a1 l2 (wrap64 (1 + t544)) t545 bt546.1 true)))) = some r := H
  have A7 := Aside0.mk A70
  clear A70
  by_cases c8 : (a1.size : Int) > 400
  ·rw [if_pos c8] at H
   have c8b0 : decide (400 < (a1.size : Int)) = true := decide_eq_true c8
   have c8b1 : decide (400 < a1.size) = true := decide_eq_true (by omega)
   clear c8
   obtain rfl := Option.some.inj H
   go_enter Tryd.func12, Tryd.ntmps12
   go_wp2_with (first | ((with_reducible refine gate_dst (N := 3) rfl ?_); (try (refine gate_guard (by rfl) ?_; dsimp only)); refine box_event ?hg (N := 3) ?hd (cs := #[.int .i64 a0_0, .int .i64 a0_1]) (t := 52) ?hr ?_; (case hd => rfl); (case hg => rfl); (case hr => first | (go_simp; done) | (go_simp; rfl)); intro gb542 hg w9 hbox hb; have n0_ := Aside0.mk (below_step (by repeat (first | (with_reducible first | exact HB.out | apply below_alloc | apply pw_below_drewN | apply below_drew1) | exact HB.out)) hb); have n1_ := Aside0.mk (hbox); have n2_ := Aside0.mk ((by rw [hg]; exact (below_size (by repeat (first | (with_reducible first | exact HB.out | apply below_alloc | apply pw_below_drewN | apply below_drew1) | exact HB.out))) : w.heap.size ≤ gb542)); have n3_ := Aside0.mk ((by rw [hg]; exact (below_size (by repeat (first | (with_reducible first | exact HB.out | apply below_alloc | apply pw_below_drewN | apply below_drew1) | exact HB.out))) : w.heap.size ≤ gb542)); clear HB; have HB := n0_; have BK542 := n1_; have GW542 := n2_; have GE542 := n3_; clear n0_ n1_ n2_ n3_; clear hb hbox hg) | (go_at_call 32; (with_reducible refine (corncriblaw04_works.calls k  true _ A4.out).mono ?_); rintro e w10 ⟨rfl, hb⟩; have n0_ := Aside0.mk (blk_below (g := gb542) (o := .cells #[.int .i64 a0_0, .int .i64 a0_1] 52 (0, 0)) (by (with_reducible repeat (first | refine blk_drewN ?_ _ | refine blk_drew ?_ | refine blk_alloc ?_ _)); exact BK542.out) hb); have n1_ := Aside0.mk (below_step (by repeat (first | (with_reducible first | exact HB.out | apply below_alloc | apply pw_below_drewN | apply below_drew1 | refine below_set ?_ GE542.out) | exact HB.out)) hb); clear BK542; clear HB; have BK542 := n0_; have HB := n1_; clear n0_ n1_; (try clear hb); (try clear hb2); (try clear hk); (try clear hi); have hcz11_0 : w10.cell? ⟨gb542, 0, none⟩ = some (.int .i64 a0_0) := (blk_cell BK542.out 0).trans rfl; have hcz11_1 : w10.cell? ⟨gb542, 1, none⟩ = some (.int .i64 a0_1) := (blk_cell BK542.out 1).trans rfl; have hfz11_0 := blk_frozen BK542.out 0; have hfz11_1 := blk_frozen BK542.out 1) | (go_at_call 30; (with_reducible refine (corncribbook_Among.calls a0_0 6 t544 _ A6.out).mono ?_); rintro e w' ⟨rfl, ⟨nd, rfl⟩⟩; (try first | exact ⟨rfl, _, World.drewN_drewN _ _ _⟩ | exact ⟨rfl, _, Eq.trans (World.drewN_drewN _ _ _) (congrArg (World.drewN _) (Nat.add_assoc _ _ _))⟩)) | (go_at_call 30; (with_reducible refine (corncribbook_Among.calls a0_1 5 t545 _ A7.out).mono ?_); rintro e w' ⟨rfl, ⟨nd, rfl⟩⟩; (try first | exact ⟨rfl, _, World.drewN_drewN _ _ _⟩ | exact ⟨rfl, _, Eq.trans (World.drewN_drewN _ _ _) (congrArg (World.drewN _) (Nat.add_assoc _ _ _))⟩)))
   repeat (go_quiet (first | ((with_reducible refine gate_dst (N := 3) rfl ?_); (try (refine gate_guard (by rfl) ?_; dsimp only)); refine box_event ?hg (N := 3) ?hd (cs := #[.int .i64 a0_0, .int .i64 a0_1]) (t := 52) ?hr ?_; (case hd => rfl); (case hg => rfl); (case hr => first | (go_simp; done) | (go_simp; rfl)); intro gb542 hg w9 hbox hb; have n0_ := Aside0.mk (below_step (by repeat (first | (with_reducible first | exact HB.out | apply below_alloc | apply pw_below_drewN | apply below_drew1) | exact HB.out)) hb); have n1_ := Aside0.mk (hbox); have n2_ := Aside0.mk ((by rw [hg]; exact (below_size (by repeat (first | (with_reducible first | exact HB.out | apply below_alloc | apply pw_below_drewN | apply below_drew1) | exact HB.out))) : w.heap.size ≤ gb542)); have n3_ := Aside0.mk ((by rw [hg]; exact (below_size (by repeat (first | (with_reducible first | exact HB.out | apply below_alloc | apply pw_below_drewN | apply below_drew1) | exact HB.out))) : w.heap.size ≤ gb542)); clear HB; have HB := n0_; have BK542 := n1_; have GW542 := n2_; have GE542 := n3_; clear n0_ n1_ n2_ n3_; clear hb hbox hg) | (go_at_call 32; (with_reducible refine (corncriblaw04_works.calls k  true _ A4.out).mono ?_); rintro e w10 ⟨rfl, hb⟩; have n0_ := Aside0.mk (blk_below (g := gb542) (o := .cells #[.int .i64 a0_0, .int .i64 a0_1] 52 (0, 0)) (by (with_reducible repeat (first | refine blk_drewN ?_ _ | refine blk_drew ?_ | refine blk_alloc ?_ _)); exact BK542.out) hb); have n1_ := Aside0.mk (below_step (by repeat (first | (with_reducible first | exact HB.out | apply below_alloc | apply pw_below_drewN | apply below_drew1 | refine below_set ?_ GE542.out) | exact HB.out)) hb); clear BK542; clear HB; have BK542 := n0_; have HB := n1_; clear n0_ n1_; (try clear hb); (try clear hb2); (try clear hk); (try clear hi); have hcz11_0 : w10.cell? ⟨gb542, 0, none⟩ = some (.int .i64 a0_0) := (blk_cell BK542.out 0).trans rfl; have hcz11_1 : w10.cell? ⟨gb542, 1, none⟩ = some (.int .i64 a0_1) := (blk_cell BK542.out 1).trans rfl; have hfz11_0 := blk_frozen BK542.out 0; have hfz11_1 := blk_frozen BK542.out 1) | (go_at_call 30; (with_reducible refine (corncribbook_Among.calls a0_0 6 t544 _ A6.out).mono ?_); rintro e w' ⟨rfl, ⟨nd, rfl⟩⟩; (try first | exact ⟨rfl, _, World.drewN_drewN _ _ _⟩ | exact ⟨rfl, _, Eq.trans (World.drewN_drewN _ _ _) (congrArg (World.drewN _) (Nat.add_assoc _ _ _))⟩)) | (go_at_call 30; (with_reducible refine (corncribbook_Among.calls a0_1 5 t545 _ A7.out).mono ?_); rintro e w' ⟨rfl, ⟨nd, rfl⟩⟩; (try first | exact ⟨rfl, _, World.drewN_drewN _ _ _⟩ | exact ⟨rfl, _, Eq.trans (World.drewN_drewN _ _ _) (congrArg (World.drewN _) (Nat.add_assoc _ _ _))⟩))); try go_wp2_with (first | ((with_reducible refine gate_dst (N := 3) rfl ?_); (try (refine gate_guard (by rfl) ?_; dsimp only)); refine box_event ?hg (N := 3) ?hd (cs := #[.int .i64 a0_0, .int .i64 a0_1]) (t := 52) ?hr ?_; (case hd => rfl); (case hg => rfl); (case hr => first | (go_simp; done) | (go_simp; rfl)); intro gb542 hg w9 hbox hb; have n0_ := Aside0.mk (below_step (by repeat (first | (with_reducible first | exact HB.out | apply below_alloc | apply pw_below_drewN | apply below_drew1) | exact HB.out)) hb); have n1_ := Aside0.mk (hbox); have n2_ := Aside0.mk ((by rw [hg]; exact (below_size (by repeat (first | (with_reducible first | exact HB.out | apply below_alloc | apply pw_below_drewN | apply below_drew1) | exact HB.out))) : w.heap.size ≤ gb542)); have n3_ := Aside0.mk ((by rw [hg]; exact (below_size (by repeat (first | (with_reducible first | exact HB.out | apply below_alloc | apply pw_below_drewN | apply below_drew1) | exact HB.out))) : w.heap.size ≤ gb542)); clear HB; have HB := n0_; have BK542 := n1_; have GW542 := n2_; have GE542 := n3_; clear n0_ n1_ n2_ n3_; clear hb hbox hg) | (go_at_call 32; (with_reducible refine (corncriblaw04_works.calls k  true _ A4.out).mono ?_); rintro e w10 ⟨rfl, hb⟩; have n0_ := Aside0.mk (blk_below (g := gb542) (o := .cells #[.int .i64 a0_0, .int .i64 a0_1] 52 (0, 0)) (by (with_reducible repeat (first | refine blk_drewN ?_ _ | refine blk_drew ?_ | refine blk_alloc ?_ _)); exact BK542.out) hb); have n1_ := Aside0.mk (below_step (by repeat (first | (with_reducible first | exact HB.out | apply below_alloc | apply pw_below_drewN | apply below_drew1 | refine below_set ?_ GE542.out) | exact HB.out)) hb); clear BK542; clear HB; have BK542 := n0_; have HB := n1_; clear n0_ n1_; (try clear hb); (try clear hb2); (try clear hk); (try clear hi); have hcz11_0 : w10.cell? ⟨gb542, 0, none⟩ = some (.int .i64 a0_0) := (blk_cell BK542.out 0).trans rfl; have hcz11_1 : w10.cell? ⟨gb542, 1, none⟩ = some (.int .i64 a0_1) := (blk_cell BK542.out 1).trans rfl; have hfz11_0 := blk_frozen BK542.out 0; have hfz11_1 := blk_frozen BK542.out 1) | (go_at_call 30; (with_reducible refine (corncribbook_Among.calls a0_0 6 t544 _ A6.out).mono ?_); rintro e w' ⟨rfl, ⟨nd, rfl⟩⟩; (try first | exact ⟨rfl, _, World.drewN_drewN _ _ _⟩ | exact ⟨rfl, _, Eq.trans (World.drewN_drewN _ _ _) (congrArg (World.drewN _) (Nat.add_assoc _ _ _))⟩)) | (go_at_call 30; (with_reducible refine (corncribbook_Among.calls a0_1 5 t545 _ A7.out).mono ?_); rintro e w' ⟨rfl, ⟨nd, rfl⟩⟩; (try first | exact ⟨rfl, _, World.drewN_drewN _ _ _⟩ | exact ⟨rfl, _, Eq.trans (World.drewN_drewN _ _ _) (congrArg (World.drewN _) (Nat.add_assoc _ _ _))⟩))))
   go_ret
   exact ⟨by first | rfl | (simp [errW_none, errW_some] <;> rfl) | (simp [*, errW_none, errW_some] <;> rfl), by repeat (first | (with_reducible first | exact HB.out | apply below_alloc | apply pw_below_drewN | apply below_drew1 | refine below_set ?_ GE542.out) | exact HB.out)⟩
  ·rw [if_neg c8] at H
   have c8b0 : decide (400 < (a1.size : Int)) = false := decide_eq_false c8
   have c8b1 : decide (400 < a1.size) = false := decide_eq_false (by omega)
   clear c8
   replace H := Option.bind_eq_some_iff.mp H
   obtain ⟨⟨t546, t547⟩, A120, H⟩ := H
   replace H : (if t547 = 0 then (corncriblaw04_MendAny.j0 k a1 l2 (wrap64 (1 + t544)) t545 t546 ((t546.length : Int) != (wrap64 ((wrap64 (1 + t544)) + t545)))) else (corncriblaw04_MendAny.j0 k a1 l2 (wrap64 (1 + t544)) t545 t546 true)) = some r := H
   have A12 := Aside0.mk A120
   clear A120
   have HC13 := Aside0.mk H
   clear H
   go_enter Tryd.func12, Tryd.ntmps12
   go_upto_region 7 with (first | ((with_reducible refine gate_dst (N := 3) rfl ?_); (try (refine gate_guard (by rfl) ?_; dsimp only)); refine box_event ?hg (N := 3) ?hd (cs := #[.int .i64 a0_0, .int .i64 a0_1]) (t := 52) ?hr ?_; (case hd => rfl); (case hg => rfl); (case hr => first | (go_simp; done) | (go_simp; rfl)); intro gb542 hg w14 hbox hb; have n0_ := Aside0.mk (below_step (by repeat (first | (with_reducible first | exact HB.out | apply below_alloc | apply pw_below_drewN | apply below_drew1) | exact HB.out)) hb); have n1_ := Aside0.mk (hbox); have n2_ := Aside0.mk ((by rw [hg]; exact (below_size (by repeat (first | (with_reducible first | exact HB.out | apply below_alloc | apply pw_below_drewN | apply below_drew1) | exact HB.out))) : w.heap.size ≤ gb542)); have n3_ := Aside0.mk ((by rw [hg]; exact (below_size (by repeat (first | (with_reducible first | exact HB.out | apply below_alloc | apply pw_below_drewN | apply below_drew1) | exact HB.out))) : w.heap.size ≤ gb542)); clear HB; have HB := n0_; have BK542 := n1_; have GW542 := n2_; have GE542 := n3_; clear n0_ n1_ n2_ n3_; clear hb hbox hg) | (go_at_call 32; (with_reducible refine (corncriblaw04_works.calls k  true _ A4.out).mono ?_); rintro e w15 ⟨rfl, hb⟩; have n0_ := Aside0.mk (blk_below (g := gb542) (o := .cells #[.int .i64 a0_0, .int .i64 a0_1] 52 (0, 0)) (by (with_reducible repeat (first | refine blk_drewN ?_ _ | refine blk_drew ?_ | refine blk_alloc ?_ _)); exact BK542.out) hb); have n1_ := Aside0.mk (below_step (by repeat (first | (with_reducible first | exact HB.out | apply below_alloc | apply pw_below_drewN | apply below_drew1 | refine below_set ?_ GE542.out) | exact HB.out)) hb); clear BK542; clear HB; have BK542 := n0_; have HB := n1_; clear n0_ n1_; (try clear hb); (try clear hb2); (try clear hk); (try clear hi); have hcz16_0 : w15.cell? ⟨gb542, 0, none⟩ = some (.int .i64 a0_0) := (blk_cell BK542.out 0).trans rfl; have hcz16_1 : w15.cell? ⟨gb542, 1, none⟩ = some (.int .i64 a0_1) := (blk_cell BK542.out 1).trans rfl; have hfz16_0 := blk_frozen BK542.out 0; have hfz16_1 := blk_frozen BK542.out 1) | (go_at_call 30; (with_reducible refine (corncribbook_Among.calls a0_0 6 t544 _ A6.out).mono ?_); rintro e w' ⟨rfl, ⟨nd, rfl⟩⟩; (try first | exact ⟨rfl, _, World.drewN_drewN _ _ _⟩ | exact ⟨rfl, _, Eq.trans (World.drewN_drewN _ _ _) (congrArg (World.drewN _) (Nat.add_assoc _ _ _))⟩)) | (go_at_call 30; (with_reducible refine (corncribbook_Among.calls a0_1 5 t545 _ A7.out).mono ?_); rintro e w' ⟨rfl, ⟨nd, rfl⟩⟩; (try first | exact ⟨rfl, _, World.drewN_drewN _ _ _⟩ | exact ⟨rfl, _, Eq.trans (World.drewN_drewN _ _ _) (congrArg (World.drewN _) (Nat.add_assoc _ _ _))⟩)) | (go_at_call 26; (with_reducible refine (stripe_Encode.calls (wrap64 (1 + t544)) t545 a1 t546 t547 _ A12.out).mono ?_); rintro e w17 ⟨v548, rfl, ho0, hb⟩; have n0_ := Aside0.mk (Kd.R_lower ho0 (below_size (by repeat (first | (with_reducible first | exact HB.out | apply below_alloc | apply pw_below_drewN | apply below_drew1 | refine below_set ?_ GE542.out) | exact HB.out)))); have n1_ := Aside0.mk (blk_below (g := gb542) (o := .cells #[.int .i64 a0_0, .int .i64 a0_1] 52 (0, 0)) (by (with_reducible repeat (first | refine blk_drewN ?_ _ | refine blk_drew ?_ | refine blk_alloc ?_ _)); exact BK542.out) hb); have n2_ := Aside0.mk (below_step (by repeat (first | (with_reducible first | exact HB.out | apply below_alloc | apply pw_below_drewN | apply below_drew1 | refine below_set ?_ GE542.out) | exact HB.out)) hb); clear BK542; clear HB; have HO549 := n0_; have BK542 := n1_; have HB := n2_; clear n0_ n1_ n2_; (try clear hb); (try clear hb2); (try clear hk); (try clear hi); (try clear ho0)))
   repeat (go_quiet (first | ((with_reducible refine gate_dst (N := 3) rfl ?_); (try (refine gate_guard (by rfl) ?_; dsimp only)); refine box_event ?hg (N := 3) ?hd (cs := #[.int .i64 a0_0, .int .i64 a0_1]) (t := 52) ?hr ?_; (case hd => rfl); (case hg => rfl); (case hr => first | (go_simp; done) | (go_simp; rfl)); intro gb542 hg w14 hbox hb; have n0_ := Aside0.mk (below_step (by repeat (first | (with_reducible first | exact HB.out | apply below_alloc | apply pw_below_drewN | apply below_drew1) | exact HB.out)) hb); have n1_ := Aside0.mk (hbox); have n2_ := Aside0.mk ((by rw [hg]; exact (below_size (by repeat (first | (with_reducible first | exact HB.out | apply below_alloc | apply pw_below_drewN | apply below_drew1) | exact HB.out))) : w.heap.size ≤ gb542)); have n3_ := Aside0.mk ((by rw [hg]; exact (below_size (by repeat (first | (with_reducible first | exact HB.out | apply below_alloc | apply pw_below_drewN | apply below_drew1) | exact HB.out))) : w.heap.size ≤ gb542)); clear HB; have HB := n0_; have BK542 := n1_; have GW542 := n2_; have GE542 := n3_; clear n0_ n1_ n2_ n3_; clear hb hbox hg) | (go_at_call 32; (with_reducible refine (corncriblaw04_works.calls k  true _ A4.out).mono ?_); rintro e w15 ⟨rfl, hb⟩; have n0_ := Aside0.mk (blk_below (g := gb542) (o := .cells #[.int .i64 a0_0, .int .i64 a0_1] 52 (0, 0)) (by (with_reducible repeat (first | refine blk_drewN ?_ _ | refine blk_drew ?_ | refine blk_alloc ?_ _)); exact BK542.out) hb); have n1_ := Aside0.mk (below_step (by repeat (first | (with_reducible first | exact HB.out | apply below_alloc | apply pw_below_drewN | apply below_drew1 | refine below_set ?_ GE542.out) | exact HB.out)) hb); clear BK542; clear HB; have BK542 := n0_; have HB := n1_; clear n0_ n1_; (try clear hb); (try clear hb2); (try clear hk); (try clear hi); have hcz16_0 : w15.cell? ⟨gb542, 0, none⟩ = some (.int .i64 a0_0) := (blk_cell BK542.out 0).trans rfl; have hcz16_1 : w15.cell? ⟨gb542, 1, none⟩ = some (.int .i64 a0_1) := (blk_cell BK542.out 1).trans rfl; have hfz16_0 := blk_frozen BK542.out 0; have hfz16_1 := blk_frozen BK542.out 1) | (go_at_call 30; (with_reducible refine (corncribbook_Among.calls a0_0 6 t544 _ A6.out).mono ?_); rintro e w' ⟨rfl, ⟨nd, rfl⟩⟩; (try first | exact ⟨rfl, _, World.drewN_drewN _ _ _⟩ | exact ⟨rfl, _, Eq.trans (World.drewN_drewN _ _ _) (congrArg (World.drewN _) (Nat.add_assoc _ _ _))⟩)) | (go_at_call 30; (with_reducible refine (corncribbook_Among.calls a0_1 5 t545 _ A7.out).mono ?_); rintro e w' ⟨rfl, ⟨nd, rfl⟩⟩; (try first | exact ⟨rfl, _, World.drewN_drewN _ _ _⟩ | exact ⟨rfl, _, Eq.trans (World.drewN_drewN _ _ _) (congrArg (World.drewN _) (Nat.add_assoc _ _ _))⟩)) | (go_at_call 26; (with_reducible refine (stripe_Encode.calls (wrap64 (1 + t544)) t545 a1 t546 t547 _ A12.out).mono ?_); rintro e w17 ⟨v548, rfl, ho0, hb⟩; have n0_ := Aside0.mk (Kd.R_lower ho0 (below_size (by repeat (first | (with_reducible first | exact HB.out | apply below_alloc | apply pw_below_drewN | apply below_drew1 | refine below_set ?_ GE542.out) | exact HB.out)))); have n1_ := Aside0.mk (blk_below (g := gb542) (o := .cells #[.int .i64 a0_0, .int .i64 a0_1] 52 (0, 0)) (by (with_reducible repeat (first | refine blk_drewN ?_ _ | refine blk_drew ?_ | refine blk_alloc ?_ _)); exact BK542.out) hb); have n2_ := Aside0.mk (below_step (by repeat (first | (with_reducible first | exact HB.out | apply below_alloc | apply pw_below_drewN | apply below_drew1 | refine below_set ?_ GE542.out) | exact HB.out)) hb); clear BK542; clear HB; have HO549 := n0_; have BK542 := n1_; have HB := n2_; clear n0_ n1_ n2_; (try clear hb); (try clear hb2); (try clear hk); (try clear hi); (try clear ho0))); go_upto_region 7 with (first | ((with_reducible refine gate_dst (N := 3) rfl ?_); (try (refine gate_guard (by rfl) ?_; dsimp only)); refine box_event ?hg (N := 3) ?hd (cs := #[.int .i64 a0_0, .int .i64 a0_1]) (t := 52) ?hr ?_; (case hd => rfl); (case hg => rfl); (case hr => first | (go_simp; done) | (go_simp; rfl)); intro gb542 hg w14 hbox hb; have n0_ := Aside0.mk (below_step (by repeat (first | (with_reducible first | exact HB.out | apply below_alloc | apply pw_below_drewN | apply below_drew1) | exact HB.out)) hb); have n1_ := Aside0.mk (hbox); have n2_ := Aside0.mk ((by rw [hg]; exact (below_size (by repeat (first | (with_reducible first | exact HB.out | apply below_alloc | apply pw_below_drewN | apply below_drew1) | exact HB.out))) : w.heap.size ≤ gb542)); have n3_ := Aside0.mk ((by rw [hg]; exact (below_size (by repeat (first | (with_reducible first | exact HB.out | apply below_alloc | apply pw_below_drewN | apply below_drew1) | exact HB.out))) : w.heap.size ≤ gb542)); clear HB; have HB := n0_; have BK542 := n1_; have GW542 := n2_; have GE542 := n3_; clear n0_ n1_ n2_ n3_; clear hb hbox hg) | (go_at_call 32; (with_reducible refine (corncriblaw04_works.calls k  true _ A4.out).mono ?_); rintro e w15 ⟨rfl, hb⟩; have n0_ := Aside0.mk (blk_below (g := gb542) (o := .cells #[.int .i64 a0_0, .int .i64 a0_1] 52 (0, 0)) (by (with_reducible repeat (first | refine blk_drewN ?_ _ | refine blk_drew ?_ | refine blk_alloc ?_ _)); exact BK542.out) hb); have n1_ := Aside0.mk (below_step (by repeat (first | (with_reducible first | exact HB.out | apply below_alloc | apply pw_below_drewN | apply below_drew1 | refine below_set ?_ GE542.out) | exact HB.out)) hb); clear BK542; clear HB; have BK542 := n0_; have HB := n1_; clear n0_ n1_; (try clear hb); (try clear hb2); (try clear hk); (try clear hi); have hcz16_0 : w15.cell? ⟨gb542, 0, none⟩ = some (.int .i64 a0_0) := (blk_cell BK542.out 0).trans rfl; have hcz16_1 : w15.cell? ⟨gb542, 1, none⟩ = some (.int .i64 a0_1) := (blk_cell BK542.out 1).trans rfl; have hfz16_0 := blk_frozen BK542.out 0; have hfz16_1 := blk_frozen BK542.out 1) | (go_at_call 30; (with_reducible refine (corncribbook_Among.calls a0_0 6 t544 _ A6.out).mono ?_); rintro e w' ⟨rfl, ⟨nd, rfl⟩⟩; (try first | exact ⟨rfl, _, World.drewN_drewN _ _ _⟩ | exact ⟨rfl, _, Eq.trans (World.drewN_drewN _ _ _) (congrArg (World.drewN _) (Nat.add_assoc _ _ _))⟩)) | (go_at_call 30; (with_reducible refine (corncribbook_Among.calls a0_1 5 t545 _ A7.out).mono ?_); rintro e w' ⟨rfl, ⟨nd, rfl⟩⟩; (try first | exact ⟨rfl, _, World.drewN_drewN _ _ _⟩ | exact ⟨rfl, _, Eq.trans (World.drewN_drewN _ _ _) (congrArg (World.drewN _) (Nat.add_assoc _ _ _))⟩)) | (go_at_call 26; (with_reducible refine (stripe_Encode.calls (wrap64 (1 + t544)) t545 a1 t546 t547 _ A12.out).mono ?_); rintro e w17 ⟨v548, rfl, ho0, hb⟩; have n0_ := Aside0.mk (Kd.R_lower ho0 (below_size (by repeat (first | (with_reducible first | exact HB.out | apply below_alloc | apply pw_below_drewN | apply below_drew1 | refine below_set ?_ GE542.out) | exact HB.out)))); have n1_ := Aside0.mk (blk_below (g := gb542) (o := .cells #[.int .i64 a0_0, .int .i64 a0_1] 52 (0, 0)) (by (with_reducible repeat (first | refine blk_drewN ?_ _ | refine blk_drew ?_ | refine blk_alloc ?_ _)); exact BK542.out) hb); have n2_ := Aside0.mk (below_step (by repeat (first | (with_reducible first | exact HB.out | apply below_alloc | apply pw_below_drewN | apply below_drew1 | refine below_set ?_ GE542.out) | exact HB.out)) hb); clear BK542; clear HB; have HO549 := n0_; have BK542 := n1_; have HB := n2_; clear n0_ n1_ n2_; (try clear hb); (try clear hb2); (try clear hk); (try clear hi); (try clear ho0))))
   (try simp only [Act.put, List.setIfInBounds_toArray, List.set_cons_zero, List.set_cons_succ])
   go_cut [47] (fun v47 wc => ∃ (kq : Nat) (x47_12 : Bool), v47 = .bool x47_12 ∧ Aside0 (corncriblaw04_MendAny.j0 kq a1 l2 (wrap64 (1 + t544)) t545 t546 x47_12 = some r) ∧ Aside0 (kq ≤ k) ∧ Aside0 (Kd.R Kd.string 9 wc w.heap.size (fun _ => True) v548 t546) ∧ Aside0 (wc.heap[gb542]? = some (.cells #[.int .i64 a0_0, .int .i64 a0_1] 52 (0, 0))) ∧ Aside0 (Below w.heap.size w wc))
   case first =>
    have H := HC13.out
    clear HC13
    by_cases c18 : t547 = 0
    ·rw [if_pos c18] at H
     have c18b0 : (t547 == 0) = true := beq_iff_eq.mpr c18
     have c18b1 : (t547 != 0) = false := bne_eq_false_iff_eq.mpr c18
     clear c18
     (first | rw [c18b0] | (simp only [i64_w, i32_w]; rw [c18b0]) | skip)
     have H' := Aside0.mk H
     clear H
     obtain ⟨Ao19, co19, eo19⟩ := Kd.R_slice HO549.out
     subst eo19
     go_wp2
     repeat (go_quiet (fail); try go_wp2)
     go_meet
     case rel => exact ⟨_, (((t546.length : Int) != (wrap64 ((wrap64 (1 + t544)) + t545)))), (by first | rfl | (simp; done) | (simp [*]; done)), H', ⟨by first | omega | exact Nat.le_refl _⟩, ⟨by (with_reducible repeat (first | apply Kd.R_alloc | apply Kd.R_drewN | apply Kd.R_drew)); exact HO549.out⟩, ⟨by (with_reducible repeat (first | refine blk_drewN ?_ _ | refine blk_drew ?_ | refine blk_alloc ?_ _)); exact BK542.out⟩, ⟨by repeat (first | (with_reducible first | exact HB.out | apply below_alloc | apply pw_below_drewN | apply below_drew1 | refine below_set ?_ GE542.out) | exact HB.out)⟩⟩
    ·rw [if_neg c18] at H
     have c18b0 : (t547 == 0) = false := beq_eq_false_iff_ne.mpr c18
     have c18b1 : (t547 != 0) = true := bne_iff_ne.mpr c18
     (first | rw [c18b0] | (simp only [i64_w, i32_w]; rw [c18b0]) | skip)
     have H' := Aside0.mk H
     clear H
     go_wp2
     repeat (go_quiet (fail); try go_wp2)
     go_meet
     case rel => exact ⟨_, (true), (by first | rfl | (simp; done) | (simp [*]; done)), H', ⟨by first | omega | exact Nat.le_refl _⟩, ⟨by (with_reducible repeat (first | apply Kd.R_alloc | apply Kd.R_drewN | apply Kd.R_drew)); exact HO549.out⟩, ⟨by (with_reducible repeat (first | refine blk_drewN ?_ _ | refine blk_drew ?_ | refine blk_alloc ?_ _)); exact BK542.out⟩, ⟨by repeat (first | (with_reducible first | exact HB.out | apply below_alloc | apply pw_below_drewN | apply below_drew1 | refine below_set ?_ GE542.out) | exact HB.out)⟩⟩
   case rest =>
    clear HC13
    try clear c1
    try clear c2
    try clear p2
    try clear c5
    try clear p6
    try clear c8
    try clear c8b0
    try clear c8b1
    try clear c12
    try clear c18
    try clear c18b0
    try clear c18b1
    try clear hcz11_0
    try clear hcz11_1
    try clear hcz16_0
    try clear hcz16_1
    try clear hfz11_0
    try clear hfz11_1
    try clear hfz16_0
    try clear hfz16_1
    obtain ⟨kq, x47_12, rfl, HA, HJ12, HO_9, BK542, HB⟩ := hcut
    cases kq with
    | zero => exact absurd HA.out (by simp [corncriblaw04_MendAny.j0])
    | succ kj12 =>
     have H := HA.out
     clear HA
     simp only [corncriblaw04_MendAny.j0] at H
     by_cases c20 : x47_12 = true
     ·subst c20
      have H1 : (some false) = some r := by rw [if_pos rfl] at H; exact H
      clear H
      have H := H1
      clear H1
      obtain rfl := Option.some.inj H
      go_wp2
      repeat (go_quiet (fail); try go_wp2)
      go_ret
      exact ⟨by first | rfl | (simp [errW_none, errW_some] <;> rfl) | (simp [*, errW_none, errW_some] <;> rfl), by repeat (first | (with_reducible first | exact HB.out | apply below_alloc | apply pw_below_drewN | apply below_drew1 | refine below_set ?_ GE542.out) | exact HB.out)⟩
     ·replace c20 := Bool.eq_false_iff.mpr c20
      subst c20
      have H1 : ((corncriblaw04_some.f kj12 t546 (wrap64 (1 + t544)) l2).bind fun t550 => ((mend_Object.f kj12 (wrap64 (1 + t544)) t545 t550).bind fun bt553 => (if bt553.2 = 0 then (corncriblaw04_MendAny.j1 kj12 (wrap64 (1 + t544)) t545 t546 t550 (bt553.1.toList != a1.toList)) else (corncriblaw04_MendAny.j1 kj12 (wrap64 (1 + t544)) t545 t546 t550 true)))) = some r := by rw [if_neg (show ¬ (false = true) by decide)] at H; exact H
      clear H
      have H := H1
      clear H1
      replace H := Option.bind_eq_some_iff.mp H
      obtain ⟨t550, A210, H⟩ := H
      replace H : ((mend_Object.f kj12 (wrap64 (1 + t544)) t545 t550).bind fun bt553 => (if bt553.2 = 0 then (corncriblaw04_MendAny.j1 kj12 (wrap64 (1 + t544)) t545 t546 t550 (bt553.1.toList != a1.toList)) else (corncriblaw04_MendAny.j1 kj12 (wrap64 (1 + t544)) t545 t546 t550 true))) = some r := H
      have A21 := Aside0.mk A210
      clear A210
      replace H := Option.bind_eq_some_iff.mp H
      obtain ⟨⟨t553, t554⟩, A220, H⟩ := H
      replace H : (if t554 = 0 then (corncriblaw04_MendAny.j1 kj12 (wrap64 (1 + t544)) t545 t546 t550 (t553.toList != a1.toList)) else (corncriblaw04_MendAny.j1 kj12 (wrap64 (1 + t544)) t545 t546 t550 true)) = some r := H
      have A22 := Aside0.mk A220
      clear A220
      have HC23 := Aside0.mk H
      clear H
      obtain ⟨Ao24, co24, eo24⟩ := Kd.R_slice HO_9.out
      subst eo24
      go_upto_region 11 with (first | (go_at_call 42; (with_reducible refine (corncriblaw04_some.calls kj12 _ _ t546 (wrap64 (1 + t544)) _ _ l2 t550 _ ?side1 ?side2 ?side3 ?side4 A21.out).mono ?_); (case side1 => repeat (first | exact (Kd.R_reads' HO_9.out).2.2 | (with_reducible refine Kd.C_alloc ?_ _) | (with_reducible refine Kd.C_drewN ?_ _) | (with_reducible refine Kd.C_drew ?_))); (case side2 => exact (Kd.R_reads' HO_9.out).2.1); (case side3 => repeat (first | exact (Kd.C_below HR2.out HB.out) | (with_reducible refine Kd.C_alloc ?_ _) | (with_reducible refine Kd.C_drewN ?_ _) | (with_reducible refine Kd.C_drew ?_))); (case side4 => exact HC2.out); rintro e w25 ⟨v551, rfl, ho0, hb⟩; have n0_ := Aside0.mk (Kd.R_below (by (with_reducible repeat (first | apply Kd.R_alloc | apply Kd.R_drewN | apply Kd.R_drew)); exact HO_9.out) hb); have n1_ := Aside0.mk (Kd.R_lower ho0 (below_size (by repeat (first | (with_reducible first | exact HB.out | apply below_alloc | apply pw_below_drewN | apply below_drew1 | refine below_set ?_ GE542.out) | exact HB.out)))); have n2_ := Aside0.mk (blk_below (g := gb542) (o := .cells #[.int .i64 a0_0, .int .i64 a0_1] 52 (0, 0)) (by (with_reducible repeat (first | refine blk_drewN ?_ _ | refine blk_drew ?_ | refine blk_alloc ?_ _)); exact BK542.out) hb); have n3_ := Aside0.mk (below_step (by repeat (first | (with_reducible first | exact HB.out | apply below_alloc | apply pw_below_drewN | apply below_drew1 | refine below_set ?_ GE542.out) | exact HB.out)) hb); clear HO_9; clear BK542; clear HB; have HO_9 := n0_; have HO552 := n1_; have BK542 := n2_; have HB := n3_; clear n0_ n1_ n2_ n3_; (try clear hb); (try clear hb2); (try clear hk); (try clear hi); (try clear ho0); obtain ⟨Ao26, co26, eo26⟩ := Kd.R_slice HO552.out; subst eo26) | (go_at_call 40; (with_reducible refine (mend_Object.calls kj12 (wrap64 (1 + t544)) t545 _ _ t550 t553 t554 _ ?side1 ?side2 A22.out).mono ?_); (case side1 => repeat (first | exact (Kd.R_reads' HO552.out).2.2 | (with_reducible refine Kd.C_alloc ?_ _) | (with_reducible refine Kd.C_drewN ?_ _) | (with_reducible refine Kd.C_drew ?_))); (case side2 => exact (Kd.R_reads' HO552.out).2.1); rintro e w27 ⟨rfl, hb⟩; have n0_ := Aside0.mk (Kd.R_below (by (with_reducible repeat (first | apply Kd.R_alloc | apply Kd.R_drewN | apply Kd.R_drew)); exact HO_9.out) hb); have n1_ := Aside0.mk (Kd.R_below (by (with_reducible repeat (first | apply Kd.R_alloc | apply Kd.R_drewN | apply Kd.R_drew)); exact HO552.out) hb); have n2_ := Aside0.mk (blk_below (g := gb542) (o := .cells #[.int .i64 a0_0, .int .i64 a0_1] 52 (0, 0)) (by (with_reducible repeat (first | refine blk_drewN ?_ _ | refine blk_drew ?_ | refine blk_alloc ?_ _)); exact BK542.out) hb); have n3_ := Aside0.mk (below_step (by repeat (first | (with_reducible first | exact HB.out | apply below_alloc | apply pw_below_drewN | apply below_drew1 | refine below_set ?_ GE542.out) | exact HB.out)) hb); clear HO_9; clear HO552; clear BK542; clear HB; have HO_9 := n0_; have HO552 := n1_; have BK542 := n2_; have HB := n3_; clear n0_ n1_ n2_ n3_; (try clear hb); (try clear hb2); (try clear hk); (try clear hi)))
      repeat (go_quiet (first | (go_at_call 42; (with_reducible refine (corncriblaw04_some.calls kj12 _ _ t546 (wrap64 (1 + t544)) _ _ l2 t550 _ ?side1 ?side2 ?side3 ?side4 A21.out).mono ?_); (case side1 => repeat (first | exact (Kd.R_reads' HO_9.out).2.2 | (with_reducible refine Kd.C_alloc ?_ _) | (with_reducible refine Kd.C_drewN ?_ _) | (with_reducible refine Kd.C_drew ?_))); (case side2 => exact (Kd.R_reads' HO_9.out).2.1); (case side3 => repeat (first | exact (Kd.C_below HR2.out HB.out) | (with_reducible refine Kd.C_alloc ?_ _) | (with_reducible refine Kd.C_drewN ?_ _) | (with_reducible refine Kd.C_drew ?_))); (case side4 => exact HC2.out); rintro e w25 ⟨v551, rfl, ho0, hb⟩; have n0_ := Aside0.mk (Kd.R_below (by (with_reducible repeat (first | apply Kd.R_alloc | apply Kd.R_drewN | apply Kd.R_drew)); exact HO_9.out) hb); have n1_ := Aside0.mk (Kd.R_lower ho0 (below_size (by repeat (first | (with_reducible first | exact HB.out | apply below_alloc | apply pw_below_drewN | apply below_drew1 | refine below_set ?_ GE542.out) | exact HB.out)))); have n2_ := Aside0.mk (blk_below (g := gb542) (o := .cells #[.int .i64 a0_0, .int .i64 a0_1] 52 (0, 0)) (by (with_reducible repeat (first | refine blk_drewN ?_ _ | refine blk_drew ?_ | refine blk_alloc ?_ _)); exact BK542.out) hb); have n3_ := Aside0.mk (below_step (by repeat (first | (with_reducible first | exact HB.out | apply below_alloc | apply pw_below_drewN | apply below_drew1 | refine below_set ?_ GE542.out) | exact HB.out)) hb); clear HO_9; clear BK542; clear HB; have HO_9 := n0_; have HO552 := n1_; have BK542 := n2_; have HB := n3_; clear n0_ n1_ n2_ n3_; (try clear hb); (try clear hb2); (try clear hk); (try clear hi); (try clear ho0); obtain ⟨Ao26, co26, eo26⟩ := Kd.R_slice HO552.out; subst eo26) | (go_at_call 40; (with_reducible refine (mend_Object.calls kj12 (wrap64 (1 + t544)) t545 _ _ t550 t553 t554 _ ?side1 ?side2 A22.out).mono ?_); (case side1 => repeat (first | exact (Kd.R_reads' HO552.out).2.2 | (with_reducible refine Kd.C_alloc ?_ _) | (with_reducible refine Kd.C_drewN ?_ _) | (with_reducible refine Kd.C_drew ?_))); (case side2 => exact (Kd.R_reads' HO552.out).2.1); rintro e w27 ⟨rfl, hb⟩; have n0_ := Aside0.mk (Kd.R_below (by (with_reducible repeat (first | apply Kd.R_alloc | apply Kd.R_drewN | apply Kd.R_drew)); exact HO_9.out) hb); have n1_ := Aside0.mk (Kd.R_below (by (with_reducible repeat (first | apply Kd.R_alloc | apply Kd.R_drewN | apply Kd.R_drew)); exact HO552.out) hb); have n2_ := Aside0.mk (blk_below (g := gb542) (o := .cells #[.int .i64 a0_0, .int .i64 a0_1] 52 (0, 0)) (by (with_reducible repeat (first | refine blk_drewN ?_ _ | refine blk_drew ?_ | refine blk_alloc ?_ _)); exact BK542.out) hb); have n3_ := Aside0.mk (below_step (by repeat (first | (with_reducible first | exact HB.out | apply below_alloc | apply pw_below_drewN | apply below_drew1 | refine below_set ?_ GE542.out) | exact HB.out)) hb); clear HO_9; clear HO552; clear BK542; clear HB; have HO_9 := n0_; have HO552 := n1_; have BK542 := n2_; have HB := n3_; clear n0_ n1_ n2_ n3_; (try clear hb); (try clear hb2); (try clear hk); (try clear hi))); go_upto_region 11 with (first | (go_at_call 42; (with_reducible refine (corncriblaw04_some.calls kj12 _ _ t546 (wrap64 (1 + t544)) _ _ l2 t550 _ ?side1 ?side2 ?side3 ?side4 A21.out).mono ?_); (case side1 => repeat (first | exact (Kd.R_reads' HO_9.out).2.2 | (with_reducible refine Kd.C_alloc ?_ _) | (with_reducible refine Kd.C_drewN ?_ _) | (with_reducible refine Kd.C_drew ?_))); (case side2 => exact (Kd.R_reads' HO_9.out).2.1); (case side3 => repeat (first | exact (Kd.C_below HR2.out HB.out) | (with_reducible refine Kd.C_alloc ?_ _) | (with_reducible refine Kd.C_drewN ?_ _) | (with_reducible refine Kd.C_drew ?_))); (case side4 => exact HC2.out); rintro e w25 ⟨v551, rfl, ho0, hb⟩; have n0_ := Aside0.mk (Kd.R_below (by (with_reducible repeat (first | apply Kd.R_alloc | apply Kd.R_drewN | apply Kd.R_drew)); exact HO_9.out) hb); have n1_ := Aside0.mk (Kd.R_lower ho0 (below_size (by repeat (first | (with_reducible first | exact HB.out | apply below_alloc | apply pw_below_drewN | apply below_drew1 | refine below_set ?_ GE542.out) | exact HB.out)))); have n2_ := Aside0.mk (blk_below (g := gb542) (o := .cells #[.int .i64 a0_0, .int .i64 a0_1] 52 (0, 0)) (by (with_reducible repeat (first | refine blk_drewN ?_ _ | refine blk_drew ?_ | refine blk_alloc ?_ _)); exact BK542.out) hb); have n3_ := Aside0.mk (below_step (by repeat (first | (with_reducible first | exact HB.out | apply below_alloc | apply pw_below_drewN | apply below_drew1 | refine below_set ?_ GE542.out) | exact HB.out)) hb); clear HO_9; clear BK542; clear HB; have HO_9 := n0_; have HO552 := n1_; have BK542 := n2_; have HB := n3_; clear n0_ n1_ n2_ n3_; (try clear hb); (try clear hb2); (try clear hk); (try clear hi); (try clear ho0); obtain ⟨Ao26, co26, eo26⟩ := Kd.R_slice HO552.out; subst eo26) | (go_at_call 40; (with_reducible refine (mend_Object.calls kj12 (wrap64 (1 + t544)) t545 _ _ t550 t553 t554 _ ?side1 ?side2 A22.out).mono ?_); (case side1 => repeat (first | exact (Kd.R_reads' HO552.out).2.2 | (with_reducible refine Kd.C_alloc ?_ _) | (with_reducible refine Kd.C_drewN ?_ _) | (with_reducible refine Kd.C_drew ?_))); (case side2 => exact (Kd.R_reads' HO552.out).2.1); rintro e w27 ⟨rfl, hb⟩; have n0_ := Aside0.mk (Kd.R_below (by (with_reducible repeat (first | apply Kd.R_alloc | apply Kd.R_drewN | apply Kd.R_drew)); exact HO_9.out) hb); have n1_ := Aside0.mk (Kd.R_below (by (with_reducible repeat (first | apply Kd.R_alloc | apply Kd.R_drewN | apply Kd.R_drew)); exact HO552.out) hb); have n2_ := Aside0.mk (blk_below (g := gb542) (o := .cells #[.int .i64 a0_0, .int .i64 a0_1] 52 (0, 0)) (by (with_reducible repeat (first | refine blk_drewN ?_ _ | refine blk_drew ?_ | refine blk_alloc ?_ _)); exact BK542.out) hb); have n3_ := Aside0.mk (below_step (by repeat (first | (with_reducible first | exact HB.out | apply below_alloc | apply pw_below_drewN | apply below_drew1 | refine below_set ?_ GE542.out) | exact HB.out)) hb); clear HO_9; clear HO552; clear BK542; clear HB; have HO_9 := n0_; have HO552 := n1_; have BK542 := n2_; have HB := n3_; clear n0_ n1_ n2_ n3_; (try clear hb); (try clear hb2); (try clear hk); (try clear hi))))
      (try simp only [Act.put, List.setIfInBounds_toArray, List.set_cons_zero, List.set_cons_succ])
      go_cut [65] (fun v65 wc => ∃ (kq : Nat) (x65_22 : Bool), v65 = .bool x65_22 ∧ Aside0 (corncriblaw04_MendAny.j1 kq (wrap64 (1 + t544)) t545 t546 t550 x65_22 = some r) ∧ Aside0 (kq ≤ kj12) ∧ Aside0 (Kd.R Kd.string 9 wc w.heap.size (fun _ => True) (.slice Ao24 t546.length co24) t546) ∧ Aside0 (Kd.R k62 62 wc w.heap.size (fun _ => True) (.slice Ao26 t550.length co26) t550) ∧ Aside0 (wc.heap[gb542]? = some (.cells #[.int .i64 a0_0, .int .i64 a0_1] 52 (0, 0))) ∧ Aside0 (Below w.heap.size w wc))
      case first =>
       have H := HC23.out
       clear HC23
       by_cases c28 : t554 = 0
       ·rw [if_pos c28] at H
        have c28b0 : (t554 == 0) = true := beq_iff_eq.mpr c28
        have c28b1 : (t554 != 0) = false := bne_eq_false_iff_eq.mpr c28
        clear c28
        (first | rw [c28b0] | (simp only [i64_w, i32_w]; rw [c28b0]) | skip)
        have H' := Aside0.mk H
        clear H
        go_wp2
        repeat (go_quiet (fail); try go_wp2)
        go_meet
        case rel => exact ⟨_, ((t553.toList != a1.toList)), (by first | rfl | (simp; done) | (simp [*]; done)), H', ⟨by have := HJ12.out; first | omega | exact Nat.le_refl _⟩, ⟨by (with_reducible repeat (first | apply Kd.R_alloc | apply Kd.R_drewN | apply Kd.R_drew)); exact HO_9.out⟩, ⟨by (with_reducible repeat (first | apply Kd.R_alloc | apply Kd.R_drewN | apply Kd.R_drew)); exact HO552.out⟩, ⟨by (with_reducible repeat (first | refine blk_drewN ?_ _ | refine blk_drew ?_ | refine blk_alloc ?_ _)); exact BK542.out⟩, ⟨by repeat (first | (with_reducible first | exact HB.out | apply below_alloc | apply pw_below_drewN | apply below_drew1 | refine below_set ?_ GE542.out) | exact HB.out)⟩⟩
       ·rw [if_neg c28] at H
        have c28b0 : (t554 == 0) = false := beq_eq_false_iff_ne.mpr c28
        have c28b1 : (t554 != 0) = true := bne_iff_ne.mpr c28
        (first | rw [c28b0] | (simp only [i64_w, i32_w]; rw [c28b0]) | skip)
        have H' := Aside0.mk H
        clear H
        go_wp2
        repeat (go_quiet (fail); try go_wp2)
        go_meet
        case rel => exact ⟨_, (true), (by first | rfl | (simp; done) | (simp [*]; done)), H', ⟨by have := HJ12.out; first | omega | exact Nat.le_refl _⟩, ⟨by (with_reducible repeat (first | apply Kd.R_alloc | apply Kd.R_drewN | apply Kd.R_drew)); exact HO_9.out⟩, ⟨by (with_reducible repeat (first | apply Kd.R_alloc | apply Kd.R_drewN | apply Kd.R_drew)); exact HO552.out⟩, ⟨by (with_reducible repeat (first | refine blk_drewN ?_ _ | refine blk_drew ?_ | refine blk_alloc ?_ _)); exact BK542.out⟩, ⟨by repeat (first | (with_reducible first | exact HB.out | apply below_alloc | apply pw_below_drewN | apply below_drew1 | refine below_set ?_ GE542.out) | exact HB.out)⟩⟩
      case rest =>
       clear HC23
       try clear c1
       try clear c2
       try clear p2
       try clear c5
       try clear p6
       try clear c8
       try clear c8b0
       try clear c8b1
       try clear c12
       try clear c18
       try clear c18b0
       try clear c18b1
       try clear c20
       try clear c28
       try clear c28b0
       try clear c28b1
       try clear hcz11_0
       try clear hcz11_1
       try clear hcz16_0
       try clear hcz16_1
       try clear hfz11_0
       try clear hfz11_1
       try clear hfz16_0
       try clear hfz16_1
       try clear p2
       try clear p6
       obtain ⟨kq, x65_22, rfl, HA, HJ22, HO_9, HO_11, BK542, HB⟩ := hcut
       cases kq with
       | zero => exact absurd HA.out (by simp [corncriblaw04_MendAny.j1])
       | succ kj22 =>
        have H := HA.out
        clear HA
        simp only [corncriblaw04_MendAny.j1] at H
        by_cases c29 : x65_22 = true
        ·subst c29
         have H1 : (some false) = some r := by rw [if_pos rfl] at H; exact H
         clear H
         have H := H1
         clear H1
         obtain rfl := Option.some.inj H
         go_wp2
         repeat (go_quiet (fail); try go_wp2)
         go_ret
         exact ⟨by first | rfl | (simp [errW_none, errW_some] <;> rfl) | (simp [*, errW_none, errW_some] <;> rfl), by repeat (first | (with_reducible first | exact HB.out | apply below_alloc | apply pw_below_drewN | apply below_drew1 | refine below_set ?_ GE542.out) | exact HB.out)⟩
        ·replace c29 := Bool.eq_false_iff.mpr c29
         subst c29
         have H1 : (corncriblaw04_MendAny.l0 kj22 (wrap64 (1 + t544)) t545 t546 t550 (t546.length : Int) 0) = some r := by rw [if_neg (show ¬ (false = true) by decide)] at H; exact H
         clear H
         have H := H1
         clear H1
         have H' := Aside0.mk H
         clear H
         go_wp2
         repeat (go_quiet (fail); try go_wp2)
         go_loopg [68] kj22 (fun kq v68 w' => ∃ (x68_3 : Int), v68 = .int .i64 x68_3 ∧ Aside0 (corncriblaw04_MendAny.l0 kq (wrap64 (1 + t544)) t545 t546 t550 (t546.length : Int) x68_3 = some r) ∧ Aside0 (kq ≤ kj22) ∧ Aside0 (Kd.R Kd.string 9 w' w.heap.size (fun _ => True) (.slice Ao24 t546.length co24) t546) ∧ Aside0 (Kd.R k62 62 w' w.heap.size (fun _ => True) (.slice Ao26 t550.length co26) t550) ∧ Aside0 (w'.heap[gb542]? = some (.cells #[.int .i64 a0_0, .int .i64 a0_1] 52 (0, 0))) ∧ Aside0 (Below w.heap.size w w'))
         case atStart => exact ⟨(0), (by first | rfl | (simp; done) | (simp [*]; done)), H', ⟨Nat.le_refl _⟩, ⟨by (with_reducible repeat (first | apply Kd.R_alloc | apply Kd.R_drewN | apply Kd.R_drew)); exact HO_9.out⟩, ⟨by (with_reducible repeat (first | apply Kd.R_alloc | apply Kd.R_drewN | apply Kd.R_drew)); exact HO_11.out⟩, ⟨by (with_reducible repeat (first | refine blk_drewN ?_ _ | refine blk_drew ?_ | refine blk_alloc ?_ _)); exact BK542.out⟩, ⟨by repeat (first | (with_reducible first | exact HB.out | apply below_alloc | apply pw_below_drewN | apply below_drew1 | refine below_set ?_ GE542.out) | exact HB.out)⟩⟩
         case round =>
          clear H'
          try clear c1
          try clear c2
          try clear p2
          try clear c5
          try clear p6
          try clear c8
          try clear c8b0
          try clear c8b1
          try clear c12
          try clear c18
          try clear c18b0
          try clear c18b1
          try clear c20
          try clear c28
          try clear c28b0
          try clear c28b1
          try clear c29
          try clear hcz11_0
          try clear hcz11_1
          try clear hcz16_0
          try clear hcz16_1
          try clear hfz11_0
          try clear hfz11_1
          try clear hfz16_0
          try clear hfz16_1
          try clear p2
          try clear p6
          obtain ⟨x68_3, rfl, HA, HK3, HO_9, HO_11, BK542, HB⟩ := hrel
          cases gk with
          | zero => exact absurd HA.out (by simp [corncriblaw04_MendAny.l0])
          | succ k3 =>
           have H := HA.out
           clear HA
           simp only [corncriblaw04_MendAny.l0] at H
           by_cases c30 : x68_3 < (t546.length : Int)
           ·rw [if_pos c30] at H
            have c30b0 : decide (x68_3 < (t546.length : Int)) = true := decide_eq_true c30
            clear c30
            replace H := Option.bind_eq_some_iff.mp H
            obtain ⟨⟨t555, t556⟩, A310, H⟩ := H
            replace H : (if t556 = 0 then (if 0 ≤ x68_3 then (if x68_3 < (t546.length : Int) then (if t555.toList = (rdOf ByteArray.empty t546 x68_3).toList then (corncriblaw04_MendAny.l0 k3 (wrap64 (1 + t544)) t545 t546 t550 (t546.length : Int) (wrap64 (x68_3 + 1))) else (some false)) else (none)) else (none)) else (some false)) = some r := H
            have A31 := Aside0.mk A310
            clear A310
            by_cases c32 : t556 = 0
            ·rw [if_pos c32] at H
             have c32b0 : (t556 == 0) = true := beq_iff_eq.mpr c32
             have c32b1 : (t556 != 0) = false := bne_eq_false_iff_eq.mpr c32
             clear c32
             by_cases c33 : 0 ≤ x68_3
             ·rw [if_pos c33] at H
              have c33b0 : decide (0 ≤ x68_3) = true := decide_eq_true c33
              clear c33
              by_cases c34 : x68_3 < (t546.length : Int)
              ·rw [if_pos c34] at H
               have c34b0 : decide (x68_3 < (t546.length : Int)) = true := decide_eq_true c34
               clear c34
               by_cases c35 : t555.toList = (rdOf ByteArray.empty t546 x68_3).toList
               ·rw [if_pos c35] at H
                have c35b0 : (t555.toList == (rdOf ByteArray.empty t546 x68_3).toList) = true := beq_iff_eq.mpr c35
                have c35b1 : (t555.toList != (rdOf ByteArray.empty t546 x68_3).toList) = false := bne_eq_false_iff_eq.mpr c35
                clear c35
                have H' := Aside0.mk H
                clear H
                go_wp2_with (first | (go_at_call 43; (with_reducible refine (mend_One.calls k3 (wrap64 (1 + t544)) t545 _ _ t550 x68_3 t555 t556 _ ?side1 ?side2 A31.out).mono ?_); (case side1 => repeat (first | exact (Kd.R_reads' HO_11.out).2.2 | (with_reducible refine Kd.C_alloc ?_ _) | (with_reducible refine Kd.C_drewN ?_ _) | (with_reducible refine Kd.C_drew ?_))); (case side2 => exact (Kd.R_reads' HO_11.out).2.1); rintro e w36 ⟨rfl, hb⟩; have n0_ := Aside0.mk (Kd.R_below (by (with_reducible repeat (first | apply Kd.R_alloc | apply Kd.R_drewN | apply Kd.R_drew)); exact HO_9.out) hb); have n1_ := Aside0.mk (Kd.R_below (by (with_reducible repeat (first | apply Kd.R_alloc | apply Kd.R_drewN | apply Kd.R_drew)); exact HO_11.out) hb); have n2_ := Aside0.mk (blk_below (g := gb542) (o := .cells #[.int .i64 a0_0, .int .i64 a0_1] 52 (0, 0)) (by (with_reducible repeat (first | refine blk_drewN ?_ _ | refine blk_drew ?_ | refine blk_alloc ?_ _)); exact BK542.out) hb); have n3_ := Aside0.mk (below_step (by repeat (first | (with_reducible first | exact HB.out | apply below_alloc | apply pw_below_drewN | apply below_drew1 | refine below_set ?_ GE542.out) | exact HB.out)) hb); clear HO_9; clear HO_11; clear BK542; clear HB; have HO_9 := n0_; have HO_11 := n1_; have BK542 := n2_; have HB := n3_; clear n0_ n1_ n2_ n3_; (try clear hb); (try clear hb2); (try clear hk); (try clear hi); have p557 : 0 ≤ (x68_3 : Int) := of_decide_eq_true (by first | (with_reducible assumption) | assumption); have q557 : x68_3 < (t546.length : Int) := of_decide_eq_true (by first | (with_reducible assumption) | assumption); obtain ⟨ad557, e557, hx557_0⟩ := Kd.at_string (Kd.R_reads' HO_9.out).2.2 x68_3 p557 q557; cases e557; replace p557 := eq_true p557; replace q557 := eq_true q557))
                repeat (go_quiet (first | (go_at_call 43; (with_reducible refine (mend_One.calls k3 (wrap64 (1 + t544)) t545 _ _ t550 x68_3 t555 t556 _ ?side1 ?side2 A31.out).mono ?_); (case side1 => repeat (first | exact (Kd.R_reads' HO_11.out).2.2 | (with_reducible refine Kd.C_alloc ?_ _) | (with_reducible refine Kd.C_drewN ?_ _) | (with_reducible refine Kd.C_drew ?_))); (case side2 => exact (Kd.R_reads' HO_11.out).2.1); rintro e w36 ⟨rfl, hb⟩; have n0_ := Aside0.mk (Kd.R_below (by (with_reducible repeat (first | apply Kd.R_alloc | apply Kd.R_drewN | apply Kd.R_drew)); exact HO_9.out) hb); have n1_ := Aside0.mk (Kd.R_below (by (with_reducible repeat (first | apply Kd.R_alloc | apply Kd.R_drewN | apply Kd.R_drew)); exact HO_11.out) hb); have n2_ := Aside0.mk (blk_below (g := gb542) (o := .cells #[.int .i64 a0_0, .int .i64 a0_1] 52 (0, 0)) (by (with_reducible repeat (first | refine blk_drewN ?_ _ | refine blk_drew ?_ | refine blk_alloc ?_ _)); exact BK542.out) hb); have n3_ := Aside0.mk (below_step (by repeat (first | (with_reducible first | exact HB.out | apply below_alloc | apply pw_below_drewN | apply below_drew1 | refine below_set ?_ GE542.out) | exact HB.out)) hb); clear HO_9; clear HO_11; clear BK542; clear HB; have HO_9 := n0_; have HO_11 := n1_; have BK542 := n2_; have HB := n3_; clear n0_ n1_ n2_ n3_; (try clear hb); (try clear hb2); (try clear hk); (try clear hi); have p557 : 0 ≤ (x68_3 : Int) := of_decide_eq_true (by first | (with_reducible assumption) | assumption); have q557 : x68_3 < (t546.length : Int) := of_decide_eq_true (by first | (with_reducible assumption) | assumption); obtain ⟨ad557, e557, hx557_0⟩ := Kd.at_string (Kd.R_reads' HO_9.out).2.2 x68_3 p557 q557; cases e557; replace p557 := eq_true p557; replace q557 := eq_true q557)); try go_wp2_with (first | (go_at_call 43; (with_reducible refine (mend_One.calls k3 (wrap64 (1 + t544)) t545 _ _ t550 x68_3 t555 t556 _ ?side1 ?side2 A31.out).mono ?_); (case side1 => repeat (first | exact (Kd.R_reads' HO_11.out).2.2 | (with_reducible refine Kd.C_alloc ?_ _) | (with_reducible refine Kd.C_drewN ?_ _) | (with_reducible refine Kd.C_drew ?_))); (case side2 => exact (Kd.R_reads' HO_11.out).2.1); rintro e w36 ⟨rfl, hb⟩; have n0_ := Aside0.mk (Kd.R_below (by (with_reducible repeat (first | apply Kd.R_alloc | apply Kd.R_drewN | apply Kd.R_drew)); exact HO_9.out) hb); have n1_ := Aside0.mk (Kd.R_below (by (with_reducible repeat (first | apply Kd.R_alloc | apply Kd.R_drewN | apply Kd.R_drew)); exact HO_11.out) hb); have n2_ := Aside0.mk (blk_below (g := gb542) (o := .cells #[.int .i64 a0_0, .int .i64 a0_1] 52 (0, 0)) (by (with_reducible repeat (first | refine blk_drewN ?_ _ | refine blk_drew ?_ | refine blk_alloc ?_ _)); exact BK542.out) hb); have n3_ := Aside0.mk (below_step (by repeat (first | (with_reducible first | exact HB.out | apply below_alloc | apply pw_below_drewN | apply below_drew1 | refine below_set ?_ GE542.out) | exact HB.out)) hb); clear HO_9; clear HO_11; clear BK542; clear HB; have HO_9 := n0_; have HO_11 := n1_; have BK542 := n2_; have HB := n3_; clear n0_ n1_ n2_ n3_; (try clear hb); (try clear hb2); (try clear hk); (try clear hi); have p557 : 0 ≤ (x68_3 : Int) := of_decide_eq_true (by first | (with_reducible assumption) | assumption); have q557 : x68_3 < (t546.length : Int) := of_decide_eq_true (by first | (with_reducible assumption) | assumption); obtain ⟨ad557, e557, hx557_0⟩ := Kd.at_string (Kd.R_reads' HO_9.out).2.2 x68_3 p557 q557; cases e557; replace p557 := eq_true p557; replace q557 := eq_true q557)))
                go_roundg k3
                case measure => have := HJ12.out; have := HJ22.out; have := HK3.out; omega
                case rel => exact ⟨(wrap64 (x68_3 + 1)), (by first | rfl | (simp; done) | (simp [*]; done)), H', ⟨by have := HJ12.out; have := HJ22.out; have := HK3.out; omega⟩, ⟨by (with_reducible repeat (first | apply Kd.R_alloc | apply Kd.R_drewN | apply Kd.R_drew)); exact HO_9.out⟩, ⟨by (with_reducible repeat (first | apply Kd.R_alloc | apply Kd.R_drewN | apply Kd.R_drew)); exact HO_11.out⟩, ⟨by (with_reducible repeat (first | refine blk_drewN ?_ _ | refine blk_drew ?_ | refine blk_alloc ?_ _)); exact BK542.out⟩, ⟨by repeat (first | (with_reducible first | exact HB.out | apply below_alloc | apply pw_below_drewN | apply below_drew1 | refine below_set ?_ GE542.out) | exact HB.out)⟩⟩
               ·rw [if_neg c35] at H
                have c35b0 : (t555.toList == (rdOf ByteArray.empty t546 x68_3).toList) = false := beq_eq_false_iff_ne.mpr c35
                have c35b1 : (t555.toList != (rdOf ByteArray.empty t546 x68_3).toList) = true := bne_iff_ne.mpr c35
                obtain rfl := Option.some.inj H
                go_wp2_with (first | (go_at_call 43; (with_reducible refine (mend_One.calls k3 (wrap64 (1 + t544)) t545 _ _ t550 x68_3 t555 t556 _ ?side1 ?side2 A31.out).mono ?_); (case side1 => repeat (first | exact (Kd.R_reads' HO_11.out).2.2 | (with_reducible refine Kd.C_alloc ?_ _) | (with_reducible refine Kd.C_drewN ?_ _) | (with_reducible refine Kd.C_drew ?_))); (case side2 => exact (Kd.R_reads' HO_11.out).2.1); rintro e w37 ⟨rfl, hb⟩; have n0_ := Aside0.mk (Kd.R_below (by (with_reducible repeat (first | apply Kd.R_alloc | apply Kd.R_drewN | apply Kd.R_drew)); exact HO_9.out) hb); have n1_ := Aside0.mk (Kd.R_below (by (with_reducible repeat (first | apply Kd.R_alloc | apply Kd.R_drewN | apply Kd.R_drew)); exact HO_11.out) hb); have n2_ := Aside0.mk (blk_below (g := gb542) (o := .cells #[.int .i64 a0_0, .int .i64 a0_1] 52 (0, 0)) (by (with_reducible repeat (first | refine blk_drewN ?_ _ | refine blk_drew ?_ | refine blk_alloc ?_ _)); exact BK542.out) hb); have n3_ := Aside0.mk (below_step (by repeat (first | (with_reducible first | exact HB.out | apply below_alloc | apply pw_below_drewN | apply below_drew1 | refine below_set ?_ GE542.out) | exact HB.out)) hb); clear HO_9; clear HO_11; clear BK542; clear HB; have HO_9 := n0_; have HO_11 := n1_; have BK542 := n2_; have HB := n3_; clear n0_ n1_ n2_ n3_; (try clear hb); (try clear hb2); (try clear hk); (try clear hi); have p557 : 0 ≤ (x68_3 : Int) := of_decide_eq_true (by first | (with_reducible assumption) | assumption); have q557 : x68_3 < (t546.length : Int) := of_decide_eq_true (by first | (with_reducible assumption) | assumption); obtain ⟨ad557, e557, hx557_0⟩ := Kd.at_string (Kd.R_reads' HO_9.out).2.2 x68_3 p557 q557; cases e557; replace p557 := eq_true p557; replace q557 := eq_true q557))
                repeat (go_quiet (first | (go_at_call 43; (with_reducible refine (mend_One.calls k3 (wrap64 (1 + t544)) t545 _ _ t550 x68_3 t555 t556 _ ?side1 ?side2 A31.out).mono ?_); (case side1 => repeat (first | exact (Kd.R_reads' HO_11.out).2.2 | (with_reducible refine Kd.C_alloc ?_ _) | (with_reducible refine Kd.C_drewN ?_ _) | (with_reducible refine Kd.C_drew ?_))); (case side2 => exact (Kd.R_reads' HO_11.out).2.1); rintro e w37 ⟨rfl, hb⟩; have n0_ := Aside0.mk (Kd.R_below (by (with_reducible repeat (first | apply Kd.R_alloc | apply Kd.R_drewN | apply Kd.R_drew)); exact HO_9.out) hb); have n1_ := Aside0.mk (Kd.R_below (by (with_reducible repeat (first | apply Kd.R_alloc | apply Kd.R_drewN | apply Kd.R_drew)); exact HO_11.out) hb); have n2_ := Aside0.mk (blk_below (g := gb542) (o := .cells #[.int .i64 a0_0, .int .i64 a0_1] 52 (0, 0)) (by (with_reducible repeat (first | refine blk_drewN ?_ _ | refine blk_drew ?_ | refine blk_alloc ?_ _)); exact BK542.out) hb); have n3_ := Aside0.mk (below_step (by repeat (first | (with_reducible first | exact HB.out | apply below_alloc | apply pw_below_drewN | apply below_drew1 | refine below_set ?_ GE542.out) | exact HB.out)) hb); clear HO_9; clear HO_11; clear BK542; clear HB; have HO_9 := n0_; have HO_11 := n1_; have BK542 := n2_; have HB := n3_; clear n0_ n1_ n2_ n3_; (try clear hb); (try clear hb2); (try clear hk); (try clear hi); have p557 : 0 ≤ (x68_3 : Int) := of_decide_eq_true (by first | (with_reducible assumption) | assumption); have q557 : x68_3 < (t546.length : Int) := of_decide_eq_true (by first | (with_reducible assumption) | assumption); obtain ⟨ad557, e557, hx557_0⟩ := Kd.at_string (Kd.R_reads' HO_9.out).2.2 x68_3 p557 q557; cases e557; replace p557 := eq_true p557; replace q557 := eq_true q557)); try go_wp2_with (first | (go_at_call 43; (with_reducible refine (mend_One.calls k3 (wrap64 (1 + t544)) t545 _ _ t550 x68_3 t555 t556 _ ?side1 ?side2 A31.out).mono ?_); (case side1 => repeat (first | exact (Kd.R_reads' HO_11.out).2.2 | (with_reducible refine Kd.C_alloc ?_ _) | (with_reducible refine Kd.C_drewN ?_ _) | (with_reducible refine Kd.C_drew ?_))); (case side2 => exact (Kd.R_reads' HO_11.out).2.1); rintro e w37 ⟨rfl, hb⟩; have n0_ := Aside0.mk (Kd.R_below (by (with_reducible repeat (first | apply Kd.R_alloc | apply Kd.R_drewN | apply Kd.R_drew)); exact HO_9.out) hb); have n1_ := Aside0.mk (Kd.R_below (by (with_reducible repeat (first | apply Kd.R_alloc | apply Kd.R_drewN | apply Kd.R_drew)); exact HO_11.out) hb); have n2_ := Aside0.mk (blk_below (g := gb542) (o := .cells #[.int .i64 a0_0, .int .i64 a0_1] 52 (0, 0)) (by (with_reducible repeat (first | refine blk_drewN ?_ _ | refine blk_drew ?_ | refine blk_alloc ?_ _)); exact BK542.out) hb); have n3_ := Aside0.mk (below_step (by repeat (first | (with_reducible first | exact HB.out | apply below_alloc | apply pw_below_drewN | apply below_drew1 | refine below_set ?_ GE542.out) | exact HB.out)) hb); clear HO_9; clear HO_11; clear BK542; clear HB; have HO_9 := n0_; have HO_11 := n1_; have BK542 := n2_; have HB := n3_; clear n0_ n1_ n2_ n3_; (try clear hb); (try clear hb2); (try clear hk); (try clear hi); have p557 : 0 ≤ (x68_3 : Int) := of_decide_eq_true (by first | (with_reducible assumption) | assumption); have q557 : x68_3 < (t546.length : Int) := of_decide_eq_true (by first | (with_reducible assumption) | assumption); obtain ⟨ad557, e557, hx557_0⟩ := Kd.at_string (Kd.R_reads' HO_9.out).2.2 x68_3 p557 q557; cases e557; replace p557 := eq_true p557; replace q557 := eq_true q557)))
                go_ret
                exact ⟨by first | rfl | (simp [errW_none, errW_some] <;> rfl) | (simp [*, errW_none, errW_some] <;> rfl), by repeat (first | (with_reducible first | exact HB.out | apply below_alloc | apply pw_below_drewN | apply below_drew1 | refine below_set ?_ GE542.out) | exact HB.out)⟩
              ·rw [if_neg c34] at H
               exact absurd H (by simp)
             ·rw [if_neg c33] at H
              exact absurd H (by simp)
            ·rw [if_neg c32] at H
             have c32b0 : (t556 == 0) = false := beq_eq_false_iff_ne.mpr c32
             have c32b1 : (t556 != 0) = true := bne_iff_ne.mpr c32
             obtain rfl := Option.some.inj H
             go_wp2_with (first | (go_at_call 43; (with_reducible refine (mend_One.calls k3 (wrap64 (1 + t544)) t545 _ _ t550 x68_3 t555 t556 _ ?side1 ?side2 A31.out).mono ?_); (case side1 => repeat (first | exact (Kd.R_reads' HO_11.out).2.2 | (with_reducible refine Kd.C_alloc ?_ _) | (with_reducible refine Kd.C_drewN ?_ _) | (with_reducible refine Kd.C_drew ?_))); (case side2 => exact (Kd.R_reads' HO_11.out).2.1); rintro e w38 ⟨rfl, hb⟩; have n0_ := Aside0.mk (Kd.R_below (by (with_reducible repeat (first | apply Kd.R_alloc | apply Kd.R_drewN | apply Kd.R_drew)); exact HO_9.out) hb); have n1_ := Aside0.mk (Kd.R_below (by (with_reducible repeat (first | apply Kd.R_alloc | apply Kd.R_drewN | apply Kd.R_drew)); exact HO_11.out) hb); have n2_ := Aside0.mk (blk_below (g := gb542) (o := .cells #[.int .i64 a0_0, .int .i64 a0_1] 52 (0, 0)) (by (with_reducible repeat (first | refine blk_drewN ?_ _ | refine blk_drew ?_ | refine blk_alloc ?_ _)); exact BK542.out) hb); have n3_ := Aside0.mk (below_step (by repeat (first | (with_reducible first | exact HB.out | apply below_alloc | apply pw_below_drewN | apply below_drew1 | refine below_set ?_ GE542.out) | exact HB.out)) hb); clear HO_9; clear HO_11; clear BK542; clear HB; have HO_9 := n0_; have HO_11 := n1_; have BK542 := n2_; have HB := n3_; clear n0_ n1_ n2_ n3_; (try clear hb); (try clear hb2); (try clear hk); (try clear hi)))
             repeat (go_quiet (first | (go_at_call 43; (with_reducible refine (mend_One.calls k3 (wrap64 (1 + t544)) t545 _ _ t550 x68_3 t555 t556 _ ?side1 ?side2 A31.out).mono ?_); (case side1 => repeat (first | exact (Kd.R_reads' HO_11.out).2.2 | (with_reducible refine Kd.C_alloc ?_ _) | (with_reducible refine Kd.C_drewN ?_ _) | (with_reducible refine Kd.C_drew ?_))); (case side2 => exact (Kd.R_reads' HO_11.out).2.1); rintro e w38 ⟨rfl, hb⟩; have n0_ := Aside0.mk (Kd.R_below (by (with_reducible repeat (first | apply Kd.R_alloc | apply Kd.R_drewN | apply Kd.R_drew)); exact HO_9.out) hb); have n1_ := Aside0.mk (Kd.R_below (by (with_reducible repeat (first | apply Kd.R_alloc | apply Kd.R_drewN | apply Kd.R_drew)); exact HO_11.out) hb); have n2_ := Aside0.mk (blk_below (g := gb542) (o := .cells #[.int .i64 a0_0, .int .i64 a0_1] 52 (0, 0)) (by (with_reducible repeat (first | refine blk_drewN ?_ _ | refine blk_drew ?_ | refine blk_alloc ?_ _)); exact BK542.out) hb); have n3_ := Aside0.mk (below_step (by repeat (first | (with_reducible first | exact HB.out | apply below_alloc | apply pw_below_drewN | apply below_drew1 | refine below_set ?_ GE542.out) | exact HB.out)) hb); clear HO_9; clear HO_11; clear BK542; clear HB; have HO_9 := n0_; have HO_11 := n1_; have BK542 := n2_; have HB := n3_; clear n0_ n1_ n2_ n3_; (try clear hb); (try clear hb2); (try clear hk); (try clear hi))); try go_wp2_with (first | (go_at_call 43; (with_reducible refine (mend_One.calls k3 (wrap64 (1 + t544)) t545 _ _ t550 x68_3 t555 t556 _ ?side1 ?side2 A31.out).mono ?_); (case side1 => repeat (first | exact (Kd.R_reads' HO_11.out).2.2 | (with_reducible refine Kd.C_alloc ?_ _) | (with_reducible refine Kd.C_drewN ?_ _) | (with_reducible refine Kd.C_drew ?_))); (case side2 => exact (Kd.R_reads' HO_11.out).2.1); rintro e w38 ⟨rfl, hb⟩; have n0_ := Aside0.mk (Kd.R_below (by (with_reducible repeat (first | apply Kd.R_alloc | apply Kd.R_drewN | apply Kd.R_drew)); exact HO_9.out) hb); have n1_ := Aside0.mk (Kd.R_below (by (with_reducible repeat (first | apply Kd.R_alloc | apply Kd.R_drewN | apply Kd.R_drew)); exact HO_11.out) hb); have n2_ := Aside0.mk (blk_below (g := gb542) (o := .cells #[.int .i64 a0_0, .int .i64 a0_1] 52 (0, 0)) (by (with_reducible repeat (first | refine blk_drewN ?_ _ | refine blk_drew ?_ | refine blk_alloc ?_ _)); exact BK542.out) hb); have n3_ := Aside0.mk (below_step (by repeat (first | (with_reducible first | exact HB.out | apply below_alloc | apply pw_below_drewN | apply below_drew1 | refine below_set ?_ GE542.out) | exact HB.out)) hb); clear HO_9; clear HO_11; clear BK542; clear HB; have HO_9 := n0_; have HO_11 := n1_; have BK542 := n2_; have HB := n3_; clear n0_ n1_ n2_ n3_; (try clear hb); (try clear hb2); (try clear hk); (try clear hi))))
             go_ret
             exact ⟨by first | rfl | (simp [errW_none, errW_some] <;> rfl) | (simp [*, errW_none, errW_some] <;> rfl), by repeat (first | (with_reducible first | exact HB.out | apply below_alloc | apply pw_below_drewN | apply below_drew1 | refine below_set ?_ GE542.out) | exact HB.out)⟩
           ·rw [if_neg c30] at H
            have c30b0 : decide (x68_3 < (t546.length : Int)) = false := decide_eq_false c30
            clear c30
            obtain ⟨ji39, hji39⟩ : ∃ j_ : Int, (wrap64 ((wrap64 (1 + t544)) - 1)) = j_ := ⟨_, rfl⟩
            replace H : (if 0 ≤ (ji39) then (if (ji39) ≤ (t550.length : Int) then ((mend_Object.f k3 (wrap64 (1 + t544)) t545 (t550.take ((ji39) : Int).toNat)).bind fun bt562 => (some (bt562.2 == 40))) else (none)) else (none)) = some r := by first | (rw [hji39] at H; exact H) | (simp only [hji39] at H ⊢; exact H)
            have hji39w : (IntKind.i64.wrap ((wrap64 (1 + t544)) - 1)) = ji39 := (i64_w _).trans hji39
            by_cases c40 : 0 ≤ (ji39)
            ·rw [if_pos c40] at H
             have c40b0 := eq_true c40
             have c40b1 : decide (0 ≤ (ji39)) = true := decide_eq_true c40
             clear c40
             by_cases c41 : (ji39) ≤ (t550.length : Int)
             ·rw [if_pos c41] at H
              have c41b0 := eq_true c41
              have c41b1 : decide ((ji39) ≤ (t550.length : Int)) = true := decide_eq_true c41
              clear c41
              obtain ⟨y558, hy558⟩ : ∃ y_ : List (S62), y_ = (t550.take ((ji39) : Int).toNat) := ⟨_, rfl⟩
              replace H : ((mend_Object.f k3 (wrap64 (1 + t544)) t545 y558).bind fun bt562 => (some (bt562.2 == 40))) = some r := by first | (rw [hy558]; with_reducible exact H) | (have H2_ := (Option.bind_some _ _).symm.trans H; rw [hy558]; with_reducible exact H2_) | (have H2_ := (Option.bind_some _ _).symm.trans H; with_reducible exact H2_) | with_reducible exact H | (rw [hy558]; exact H) | exact H
              have Ny558 := Aside0.mk hy558
              clear hy558
              replace H := Option.bind_eq_some_iff.mp H
              obtain ⟨⟨t562, t563⟩, A420, H⟩ := H
              replace H : (some (t563 == 40)) = some r := H
              have A42 := Aside0.mk A420
              clear A420
              obtain rfl := Option.some.inj H
              have q43 : ((ji39) : Int) ≤ ((t550.length : Int) : Int) := of_decide_eq_true (by first | (with_reducible assumption) | assumption)
              obtain ⟨i043, hi043, _, hsz43, _⟩ := info_parts info62
              have hroom43 : t550.length ≤ co26 := (Kd.R_reads' HO_11.out).2.1
              have hC43 : Kd.C k62 _ Ao26 t550.length t550 := (Kd.R_reads' HO_11.out).2.2
              have hcut43 := cut_to (P := Tryd.prog) 47 62 .i64 Tryd.underlying47 hi043 Ao26 t550.length co26 (ji39) (of_decide_eq_true (by first | (with_reducible assumption) | assumption)) q43 hroom43
              have hr43 := Kd.C_take (m := ((ji39) : Int).toNat) hC43 (by omega)
              have hy43 : y558.length = ((ji39) : Int).toNat := (by rw [Ny558.out, List.length_take]; omega)
              rw [← Ny558.out] at hr43
              rw [← hy43] at hcut43
              have HR561 := Aside0.mk hr43
              have HC561 := Aside0.mk (show y558.length ≤ co26 from by omega)
              clear hr43 hC43 hroom43 hi043 hsz43
              have KY43 := Aside0.mk hy43
              clear hy43
              have KL43 := Aside0.mk (show ((ji39) : Int).toNat ≤ t550.length from by omega)
              replace q43 := eq_true q43
              go_wp2_with (first | (go_at_call 40; (with_reducible refine (mend_Object.calls k3 (wrap64 (1 + t544)) t545 _ _ y558 t562 t563 _ ?side1 ?side2 A42.out).mono ?_); (case side1 => repeat (first | exact (by repeat (first | (with_reducible exact HR561.out) | (with_reducible refine Kd.C_alloc ?_ _) | (with_reducible refine Kd.C_drewN ?_ _) | (with_reducible refine Kd.C_drew ?_) | exact HR561.out)) | (with_reducible refine Kd.C_alloc ?_ _) | (with_reducible refine Kd.C_drewN ?_ _) | (with_reducible refine Kd.C_drew ?_))); (case side2 => exact HC561.out); rintro e w44 ⟨rfl, hb⟩; have n0_ := Aside0.mk (Kd.R_below (by (with_reducible repeat (first | apply Kd.R_alloc | apply Kd.R_drewN | apply Kd.R_drew)); exact HO_9.out) hb); have n1_ := Aside0.mk (Kd.R_below (by (with_reducible repeat (first | apply Kd.R_alloc | apply Kd.R_drewN | apply Kd.R_drew)); exact HO_11.out) hb); have n2_ := Aside0.mk (blk_below (g := gb542) (o := .cells #[.int .i64 a0_0, .int .i64 a0_1] 52 (0, 0)) (by (with_reducible repeat (first | refine blk_drewN ?_ _ | refine blk_drew ?_ | refine blk_alloc ?_ _)); exact BK542.out) hb); have n3_ := Aside0.mk (Kd.C_below (by repeat (first | (with_reducible exact HR561.out) | (with_reducible refine Kd.C_alloc ?_ _) | (with_reducible refine Kd.C_drewN ?_ _) | (with_reducible refine Kd.C_drew ?_) | exact HR561.out)) hb); have n4_ := Aside0.mk (below_step (by repeat (first | (with_reducible first | exact HB.out | apply below_alloc | apply pw_below_drewN | apply below_drew1 | refine below_set ?_ GE542.out) | exact HB.out)) hb); clear HO_9; clear HO_11; clear BK542; clear HR561; clear HB; have HO_9 := n0_; have HO_11 := n1_; have BK542 := n2_; have HR561 := n3_; have HB := n4_; clear n0_ n1_ n2_ n3_ n4_; (try clear hb); (try clear hb2); (try clear hk); (try clear hi)))
              repeat (go_quiet (first | (go_at_call 40; (with_reducible refine (mend_Object.calls k3 (wrap64 (1 + t544)) t545 _ _ y558 t562 t563 _ ?side1 ?side2 A42.out).mono ?_); (case side1 => repeat (first | exact (by repeat (first | (with_reducible exact HR561.out) | (with_reducible refine Kd.C_alloc ?_ _) | (with_reducible refine Kd.C_drewN ?_ _) | (with_reducible refine Kd.C_drew ?_) | exact HR561.out)) | (with_reducible refine Kd.C_alloc ?_ _) | (with_reducible refine Kd.C_drewN ?_ _) | (with_reducible refine Kd.C_drew ?_))); (case side2 => exact HC561.out); rintro e w44 ⟨rfl, hb⟩; have n0_ := Aside0.mk (Kd.R_below (by (with_reducible repeat (first | apply Kd.R_alloc | apply Kd.R_drewN | apply Kd.R_drew)); exact HO_9.out) hb); have n1_ := Aside0.mk (Kd.R_below (by (with_reducible repeat (first | apply Kd.R_alloc | apply Kd.R_drewN | apply Kd.R_drew)); exact HO_11.out) hb); have n2_ := Aside0.mk (blk_below (g := gb542) (o := .cells #[.int .i64 a0_0, .int .i64 a0_1] 52 (0, 0)) (by (with_reducible repeat (first | refine blk_drewN ?_ _ | refine blk_drew ?_ | refine blk_alloc ?_ _)); exact BK542.out) hb); have n3_ := Aside0.mk (Kd.C_below (by repeat (first | (with_reducible exact HR561.out) | (with_reducible refine Kd.C_alloc ?_ _) | (with_reducible refine Kd.C_drewN ?_ _) | (with_reducible refine Kd.C_drew ?_) | exact HR561.out)) hb); have n4_ := Aside0.mk (below_step (by repeat (first | (with_reducible first | exact HB.out | apply below_alloc | apply pw_below_drewN | apply below_drew1 | refine below_set ?_ GE542.out) | exact HB.out)) hb); clear HO_9; clear HO_11; clear BK542; clear HR561; clear HB; have HO_9 := n0_; have HO_11 := n1_; have BK542 := n2_; have HR561 := n3_; have HB := n4_; clear n0_ n1_ n2_ n3_ n4_; (try clear hb); (try clear hb2); (try clear hk); (try clear hi))); try go_wp2_with (first | (go_at_call 40; (with_reducible refine (mend_Object.calls k3 (wrap64 (1 + t544)) t545 _ _ y558 t562 t563 _ ?side1 ?side2 A42.out).mono ?_); (case side1 => repeat (first | exact (by repeat (first | (with_reducible exact HR561.out) | (with_reducible refine Kd.C_alloc ?_ _) | (with_reducible refine Kd.C_drewN ?_ _) | (with_reducible refine Kd.C_drew ?_) | exact HR561.out)) | (with_reducible refine Kd.C_alloc ?_ _) | (with_reducible refine Kd.C_drewN ?_ _) | (with_reducible refine Kd.C_drew ?_))); (case side2 => exact HC561.out); rintro e w44 ⟨rfl, hb⟩; have n0_ := Aside0.mk (Kd.R_below (by (with_reducible repeat (first | apply Kd.R_alloc | apply Kd.R_drewN | apply Kd.R_drew)); exact HO_9.out) hb); have n1_ := Aside0.mk (Kd.R_below (by (with_reducible repeat (first | apply Kd.R_alloc | apply Kd.R_drewN | apply Kd.R_drew)); exact HO_11.out) hb); have n2_ := Aside0.mk (blk_below (g := gb542) (o := .cells #[.int .i64 a0_0, .int .i64 a0_1] 52 (0, 0)) (by (with_reducible repeat (first | refine blk_drewN ?_ _ | refine blk_drew ?_ | refine blk_alloc ?_ _)); exact BK542.out) hb); have n3_ := Aside0.mk (Kd.C_below (by repeat (first | (with_reducible exact HR561.out) | (with_reducible refine Kd.C_alloc ?_ _) | (with_reducible refine Kd.C_drewN ?_ _) | (with_reducible refine Kd.C_drew ?_) | exact HR561.out)) hb); have n4_ := Aside0.mk (below_step (by repeat (first | (with_reducible first | exact HB.out | apply below_alloc | apply pw_below_drewN | apply below_drew1 | refine below_set ?_ GE542.out) | exact HB.out)) hb); clear HO_9; clear HO_11; clear BK542; clear HR561; clear HB; have HO_9 := n0_; have HO_11 := n1_; have BK542 := n2_; have HR561 := n3_; have HB := n4_; clear n0_ n1_ n2_ n3_ n4_; (try clear hb); (try clear hb2); (try clear hk); (try clear hi))))
              go_ret
              exact ⟨by first | rfl | (simp [errW_none, errW_some] <;> rfl) | (simp only [← hji39]; first | rfl | (simp [errW_none, errW_some] <;> rfl)) | (simp [*, errW_none, errW_some] <;> rfl), by repeat (first | (with_reducible first | exact HB.out | apply below_alloc | apply pw_below_drewN | apply below_drew1 | refine below_set ?_ GE542.out) | exact HB.out)⟩
             ·rw [if_neg c41] at H
              exact absurd H (by simp)
            ·rw [if_neg c40] at H
             exact absurd H (by simp)
 ·replace c5 := Bool.eq_false_iff.mpr c5
  subst c5
  have H1 : (some false) = some r := by rw [if_neg (show ¬ (false = true) by decide)] at H; exact H
  clear H
  have H := H1
  clear H1
  obtain rfl := Option.some.inj H
  go_enter Tryd.func12, Tryd.ntmps12
  go_wp2_with (first | ((with_reducible refine gate_dst (N := 3) rfl ?_); (try (refine gate_guard (by rfl) ?_; dsimp only)); refine box_event ?hg (N := 3) ?hd (cs := #[.int .i64 a0_0, .int .i64 a0_1]) (t := 52) ?hr ?_; (case hd => rfl); (case hg => rfl); (case hr => first | (go_simp; done) | (go_simp; rfl)); intro gb542 hg w45 hbox hb; have n0_ := Aside0.mk (below_step (by repeat (first | (with_reducible first | exact HB.out | apply below_alloc | apply pw_below_drewN | apply below_drew1) | exact HB.out)) hb); have n1_ := Aside0.mk (hbox); have n2_ := Aside0.mk ((by rw [hg]; exact (below_size (by repeat (first | (with_reducible first | exact HB.out | apply below_alloc | apply pw_below_drewN | apply below_drew1) | exact HB.out))) : w.heap.size ≤ gb542)); have n3_ := Aside0.mk ((by rw [hg]; exact (below_size (by repeat (first | (with_reducible first | exact HB.out | apply below_alloc | apply pw_below_drewN | apply below_drew1) | exact HB.out))) : w.heap.size ≤ gb542)); clear HB; have HB := n0_; have BK542 := n1_; have GW542 := n2_; have GE542 := n3_; clear n0_ n1_ n2_ n3_; clear hb hbox hg) | (go_at_call 32; (with_reducible refine (corncriblaw04_works.calls k  false _ A4.out).mono ?_); rintro e w46 ⟨rfl, hb⟩; have n0_ := Aside0.mk (blk_below (g := gb542) (o := .cells #[.int .i64 a0_0, .int .i64 a0_1] 52 (0, 0)) (by (with_reducible repeat (first | refine blk_drewN ?_ _ | refine blk_drew ?_ | refine blk_alloc ?_ _)); exact BK542.out) hb); have n1_ := Aside0.mk (below_step (by repeat (first | (with_reducible first | exact HB.out | apply below_alloc | apply pw_below_drewN | apply below_drew1 | refine below_set ?_ GE542.out) | exact HB.out)) hb); clear BK542; clear HB; have BK542 := n0_; have HB := n1_; clear n0_ n1_; (try clear hb); (try clear hb2); (try clear hk); (try clear hi)))
  repeat (go_quiet (first | ((with_reducible refine gate_dst (N := 3) rfl ?_); (try (refine gate_guard (by rfl) ?_; dsimp only)); refine box_event ?hg (N := 3) ?hd (cs := #[.int .i64 a0_0, .int .i64 a0_1]) (t := 52) ?hr ?_; (case hd => rfl); (case hg => rfl); (case hr => first | (go_simp; done) | (go_simp; rfl)); intro gb542 hg w45 hbox hb; have n0_ := Aside0.mk (below_step (by repeat (first | (with_reducible first | exact HB.out | apply below_alloc | apply pw_below_drewN | apply below_drew1) | exact HB.out)) hb); have n1_ := Aside0.mk (hbox); have n2_ := Aside0.mk ((by rw [hg]; exact (below_size (by repeat (first | (with_reducible first | exact HB.out | apply below_alloc | apply pw_below_drewN | apply below_drew1) | exact HB.out))) : w.heap.size ≤ gb542)); have n3_ := Aside0.mk ((by rw [hg]; exact (below_size (by repeat (first | (with_reducible first | exact HB.out | apply below_alloc | apply pw_below_drewN | apply below_drew1) | exact HB.out))) : w.heap.size ≤ gb542)); clear HB; have HB := n0_; have BK542 := n1_; have GW542 := n2_; have GE542 := n3_; clear n0_ n1_ n2_ n3_; clear hb hbox hg) | (go_at_call 32; (with_reducible refine (corncriblaw04_works.calls k  false _ A4.out).mono ?_); rintro e w46 ⟨rfl, hb⟩; have n0_ := Aside0.mk (blk_below (g := gb542) (o := .cells #[.int .i64 a0_0, .int .i64 a0_1] 52 (0, 0)) (by (with_reducible repeat (first | refine blk_drewN ?_ _ | refine blk_drew ?_ | refine blk_alloc ?_ _)); exact BK542.out) hb); have n1_ := Aside0.mk (below_step (by repeat (first | (with_reducible first | exact HB.out | apply below_alloc | apply pw_below_drewN | apply below_drew1 | refine below_set ?_ GE542.out) | exact HB.out)) hb); clear BK542; clear HB; have BK542 := n0_; have HB := n1_; clear n0_ n1_; (try clear hb); (try clear hb2); (try clear hk); (try clear hi))); try go_wp2_with (first | ((with_reducible refine gate_dst (N := 3) rfl ?_); (try (refine gate_guard (by rfl) ?_; dsimp only)); refine box_event ?hg (N := 3) ?hd (cs := #[.int .i64 a0_0, .int .i64 a0_1]) (t := 52) ?hr ?_; (case hd => rfl); (case hg => rfl); (case hr => first | (go_simp; done) | (go_simp; rfl)); intro gb542 hg w45 hbox hb; have n0_ := Aside0.mk (below_step (by repeat (first | (with_reducible first | exact HB.out | apply below_alloc | apply pw_below_drewN | apply below_drew1) | exact HB.out)) hb); have n1_ := Aside0.mk (hbox); have n2_ := Aside0.mk ((by rw [hg]; exact (below_size (by repeat (first | (with_reducible first | exact HB.out | apply below_alloc | apply pw_below_drewN | apply below_drew1) | exact HB.out))) : w.heap.size ≤ gb542)); have n3_ := Aside0.mk ((by rw [hg]; exact (below_size (by repeat (first | (with_reducible first | exact HB.out | apply below_alloc | apply pw_below_drewN | apply below_drew1) | exact HB.out))) : w.heap.size ≤ gb542)); clear HB; have HB := n0_; have BK542 := n1_; have GW542 := n2_; have GE542 := n3_; clear n0_ n1_ n2_ n3_; clear hb hbox hg) | (go_at_call 32; (with_reducible refine (corncriblaw04_works.calls k  false _ A4.out).mono ?_); rintro e w46 ⟨rfl, hb⟩; have n0_ := Aside0.mk (blk_below (g := gb542) (o := .cells #[.int .i64 a0_0, .int .i64 a0_1] 52 (0, 0)) (by (with_reducible repeat (first | refine blk_drewN ?_ _ | refine blk_drew ?_ | refine blk_alloc ?_ _)); exact BK542.out) hb); have n1_ := Aside0.mk (below_step (by repeat (first | (with_reducible first | exact HB.out | apply below_alloc | apply pw_below_drewN | apply below_drew1 | refine below_set ?_ GE542.out) | exact HB.out)) hb); clear BK542; clear HB; have BK542 := n0_; have HB := n1_; clear n0_ n1_; (try clear hb); (try clear hb2); (try clear hk); (try clear hi))))
  go_ret
  exact ⟨by first | rfl | (simp [errW_none, errW_some] <;> rfl) | (simp [*, errW_none, errW_some] <;> rfl), by repeat (first | (with_reducible first | exact HB.out | apply below_alloc | apply pw_below_drewN | apply below_drew1 | refine below_set ?_ GE542.out) | exact HB.out)⟩

end Go.Proofs.YtegmmefijihdeaaDoor.PS
namespace Go.Proofs.YtegmmefijihdeaaDoor.PS
open Go.RowKit Go.Proofs.YtegmmefijihdeaaDoorW.PrintWords Go.Proofs.YtegmmefijihdeaaDoorW.PrintLast Go.Proofs.YtegmmefijihdeaaDoorW.PrintMore Go.Proofs.YtegmmefijihdeaaDoor.Gf Go.Proofs.YtegmmefijihdeaaDoor.Fld Go.Proofs.YtegmmefijihdeaaDoor.Grd Go.Proofs.YtegmmefijihdeaaDoor.Rowb Go.Proofs.YtegmmefijihdeaaDoor.Read
set_option linter.unusedVariables false
set_option linter.unusedSimpArgs false
theorem oneV_in (L : List ByteArray) (i : Nat) (h : i < L.length) : oneV L (i : Int) = (L[i], 0) := by
  unfold oneV
  rw [if_neg (by omega), if_neg (by omega), rdOf_nat L i h]
section
variable {K M : Nat} {o : ByteArray} {l : List S62} (h1 : 1 ≤ K) (h2 : K + M ≤ 255) (ho : o.size ≤ 2048) (hK : K = l.length) (hp : Picked (encL K M o) l)
include h1 h2 ho hK hp
theorem any_rounds (d : Nat) : ∀ i, i + d = K + M → ∀ k, d + 257 ≤ k → corncriblaw04_MendAny.l0 k (K : Int) (M : Int) (encL K M o) l ((encL K M o).length : Int) (i : Int) = some true := by
  obtain ⟨g, hn⟩ := picked_good h1 h2 ho (by omega) hp
  have hd := picked_data h1 h2 ho (by omega) hp
  have hal : (encL K M o).length = K + M := encL_len K M o
  induction d with
  | zero =>
    intro i hi k hk
    obtain ⟨m, rfl, hm⟩ := pred_of (K := 256) (k := k) (by omega)
    have hf := few_check g (K - 1) (by omega)
    have hnum : numsOk (l.take (K - 1)) = true := numsOk_mk fun x hx => by
      obtain ⟨a, b, _⟩ := hp.rng x (List.mem_of_mem_take hx)
      omega
    have hb := bad_data hnum (by rw [hf]; decide) m
    rw [hf] at hb
    simp only [corncriblaw04_MendAny.l0]
    rw [if_neg (by omega), w64_in ((K : Int) - 1) (by omega) (by omega), if_pos (by omega), if_pos (by omega), show ((K : Int) - 1).toNat = K - 1 by omega]
    have hob : mend_Object.f m (K : Int) (M : Int) (l.take (K - 1)) = some (⟨#[]⟩, 40) := by
      unfold mend_Object.f
      rw [hb, Option.bind_some, if_neg (by decide)]
    rw [hob, Option.bind_some]
    rfl
  | succ d ih =>
    intro i hi k hk
    obtain ⟨m, rfl, hm⟩ := pred_of (K := d + 257) (k := k) (by omega)
    have hil : i < (encL K M o).length := by omega
    have h1' := g.one_f (i : Int) m (by omega)
    rw [hd, hn, ← encL_all, oneV_in _ i hil] at h1'
    simp only [corncriblaw04_MendAny.l0]
    rw [if_pos (by omega), h1', Option.bind_some, if_pos rfl, if_pos (by omega), if_pos (by omega), rdOf_nat _ i hil, if_pos rfl, w64_in ((i : Int) + 1) (by omega) (by omega)]
    exact ih (i + 1) (by omega) m hm
end
theorem any_pure (a0 a1 : Int) (o : ByteArray) (picks : List Int) (h0 : (Lit.int .i64 a0).wf = true) (h1 : (Lit.int .i64 a1).wf = true) (hp : ∀ x, x ∈ picks → (Lit.int .i64 x).wf = true) : corncriblaw04_MendAny.f 900 a0 a1 o picks = some true := by
  obtain ⟨y, hy, e1⟩ := among_f a0 6 (wf_i64 h0).1 (wf_i64 h0).2 (by omega) (by omega)
  obtain ⟨M, hM, e2⟩ := among_f a1 5 (wf_i64 h1).1 (wf_i64 h1).2 (by omega) (by omega)
  have e1' : corncribbook_Among.f a0 6 = some (y : Int) := e1
  have e2' : corncribbook_Among.f a1 5 = some (M : Int) := e2
  unfold corncriblaw04_MendAny.f
  rw [mworks_k 900 (by decide), Option.bind_some, if_pos rfl, e1', Option.bind_some, e2', Option.bind_some]
  obtain ⟨K, hK⟩ : ∃ K, K = 1 + y := ⟨_, rfl⟩
  have hKi : wrap64 (1 + (y : Int)) = (K : Int) := by rw [w64_in _ (by omega) (by omega)]; omega
  rw [hKi]
  by_cases ho : (o.size : Int) > 400
  · rw [if_pos ho]
  · have henc : encV (K : Int) (M : Int) o = (encL K M o, 0) := by
      unfold encV
      rw [if_pos (codeB_in (by omega) (by omega)), if_pos (by omega)]
      rfl
    have hal : (encL K M o).length = K + M := encL_len K M o
    rw [if_neg ho, encode_f, henc, Option.bind_some, if_pos rfl]
    simp only
    rw [w64_in ((K : Int) + (M : Int)) (by omega) (by omega), hal]
    obtain ⟨r, hr1, hr2, hr3⟩ := some_f (encL K M o) K picks (by omega) (by omega) (fun x hx => wf_i64 (hp x hx)) 899 (by omega)
    obtain ⟨g, hn⟩ := picked_good (by omega) (by omega) (by omega) (by omega) hr3
    have hd := picked_data (by omega) (by omega) (by omega) (by omega) hr3
    have hob := g.object_f 899 (by omega)
    have hjs := join_split K o (by omega) (by omega) (by omega)
    unfold stripe_Join.f at hjs
    have hjv : joinV (splitL K o) = (o, 0) := by
      split at hjs
      · exact Option.some.inj hjs
      · cases hjs
    rw [hd, hjv] at hob
    have hj : (((K + M : Nat) : Int) != (K : Int) + (M : Int)) = false := by simp
    rw [hj]
    show corncriblaw04_MendAny.j0 (899 + 1) o picks (K : Int) (M : Int) (encL K M o) false = some true
    simp only [corncriblaw04_MendAny.j0]
    rw [if_neg (by decide), hr1, Option.bind_some, hob, Option.bind_some, if_pos rfl]
    simp only
    rw [show (o.toList != o.toList) = false by simp]
    show corncriblaw04_MendAny.j1 (898 + 1) (K : Int) (M : Int) (encL K M o) r false = some true
    simp only [corncriblaw04_MendAny.j1]
    rw [if_neg (by decide)]
    exact any_rounds (by omega) (by omega) (by omega) hr2.symm hr3 (K + M) 0 (by omega) 898 (by omega)
theorem openIntsM : Opens Tryd.prog (Kd.slice 3 (Kd.int .i64)) 56 (fun l => l.length * 8 ≤ 140737488351232 ∧ ∀ s, s ∈ l → (Lit.int .i64 s).wf = true) := opens_slice Tryd.underlying56 (by kernel_rfl) (by kernel_rfl) openIntM
theorem any_walk (W : World) (x0 : Int × Int) (g0 : (Lit.int .i64 x0.1).wf = true ∧ (Lit.int .i64 x0.2).wf = true) (x1 : ByteArray) (g1 : x1.size ≤ 140737488351232) {A : Option Addr} {cap : Nat} {l : List Int} (hc : l.length ≤ cap) (hr : Kd.C (Kd.int .i64) W A l.length l) (g : l.length * 8 ≤ 140737488351232 ∧ ∀ s, s ∈ l → (Lit.int .i64 s).wf = true) :
    Calls Tryd.prog 12 #[.agg #[.int .i64 x0.1, .int .i64 x0.2], .string x1, .slice A l.length cap] W fun e W' => e = .returned (.bool true) ∧ Below W.heap.size W W' :=
  corncriblaw04_MendAny.calls 900 x0.1 x0.2 x1 A cap l true W hr hc (any_pure x0.1 x0.2 x1 l g0.1 g0.2 g.2)
end Go.Proofs.YtegmmefijihdeaaDoor.PS
