/- Texts of this proof, one behind the other (merged by a program of this session). -/
import Derived.Test.YtegmmefijihdeaaDoorM242456
import Derived.Test.YtegmmefijihdeaaDoorM1ee7bc
import Derived.Test.YtegmmefijihdeaaDoorMda869c
import Derived.Test.YtegmmefijihdeaaDoorMc26e73
namespace Go.Proofs.YtegmmefijihdeaaDoor.PS
open Go.RowKit Go.Proofs.YtegmmefijihdeaaDoorW.PrintWords Go.Proofs.YtegmmefijihdeaaDoorW.PrintLast Go.Proofs.YtegmmefijihdeaaDoorW.PrintMore Go.Proofs.YtegmmefijihdeaaDoor.Gf Go.Proofs.YtegmmefijihdeaaDoor.Fld Go.Proofs.YtegmmefijihdeaaDoor.Grd Go.Proofs.YtegmmefijihdeaaDoor.Rowb
set_option linter.unusedVariables false
set_option linter.unusedSimpArgs false
theorem pieces_flat (s : List UInt8) (n : Nat) : ∀ K, K * n ≤ s.length → ((List.range K).map fun i => (s.drop (i * n)).take n).flatten = s.take (K * n)
  | 0, _ => by simp
  | K + 1, h => by
    have hk : K * n ≤ s.length := by rw [Nat.succ_mul] at h; omega
    rw [List.range_succ, List.map_append, List.flatten_append, pieces_flat s n K hk, Nat.succ_mul, List.take_add]
    simp
theorem flat_split (K : Nat) (o : ByteArray) (h1 : 1 ≤ K) : flat (splitL K o) = plainL K o := by
  have hl := plain_len K o h1
  have h := pieces_flat (plainL K o) (sizeN K o.size) K (by rw [hl, Nat.mul_comm]; exact Nat.le_refl _)
  rw [List.take_of_length_le (by rw [hl, Nat.mul_comm]; exact Nat.le_refl _)] at h
  rw [← h]
  unfold flat splitL
  rw [List.map_map]
  congr 1
theorem long_plain (K : Nat) (o : ByteArray) (ho : o.size ≤ 2048) : longOf (plainL K o) = o.size := by
  have e : ∀ j, j < 4 → (plainL K o).getD j 0 = (be4 o.size).getD j 0 := fun j hj => by
    unfold plainL
    rw [List.getD_eq_getElem?_getD, List.append_assoc, List.getElem?_append_left (by show j < 4; exact hj), ← List.getD_eq_getElem?_getD]
  unfold longOf
  rw [e 0 (by decide), e 1 (by decide), e 2 (by decide), e 3 (by decide)]
  have e3 : ((be4 o.size).getD 2 0).toNat = o.size / 256 := by
    show (UInt8.ofNat (o.size / 256)).toNat = _
    rw [UInt8.toNat_ofNat', Nat.mod_eq_of_lt (by omega)]
  have e4 : ((be4 o.size).getD 3 0).toNat = o.size % 256 := by
    show (UInt8.ofNat (o.size % 256)).toNat = _
    rw [UInt8.toNat_ofNat', Nat.mod_eq_of_lt (by omega)]
  have e1 : ((be4 o.size).getD 0 0).toNat = 0 := rfl
  have e2 : ((be4 o.size).getD 1 0).toNat = 0 := rfl
  rw [e1, e2, e3, e4]
  omega
theorem txt_data (o : ByteArray) : txt o.data.toList = o := by
  unfold txt
  rfl
theorem joinS_plain (K : Nat) (o : ByteArray) (h1 : 1 ≤ K) (ho : o.size ≤ 2048) : joinS K (plainL K o) = (o, 0) := by
  have hl := plain_len K o h1
  have hg := sizeN_ge K o.size h1
  have hol : o.data.toList.length = o.size := Array.length_toList
  have h4 : (be4 o.size).length = 4 := rfl
  unfold joinS
  rw [if_neg (by omega), long_plain K o ho, if_pos ⟨ho, hl.symm⟩]
  have e1 : (plainL K o).drop (4 + o.size) = zeros (sizeN K o.size * K - (4 + o.size)) := by
    unfold plainL
    rw [List.drop_append_of_le_length (by rw [List.length_append, h4, hol]; omega), List.drop_of_length_le (by rw [List.length_append, h4, hol]; omega), List.nil_append]
  have e2 : ((plainL K o).drop 4).take o.size = o.data.toList := by
    unfold plainL
    rw [List.append_assoc, List.drop_append_of_le_length (by omega), List.drop_of_length_le (by omega), List.nil_append, List.take_append_of_le_length (by omega), List.take_of_length_le (by omega)]
  rw [e1, e2, txt_data, if_pos (by unfold zeros; simp)]
theorem join_split (K : Nat) (o : ByteArray) (h1 : 1 ≤ K) (h2 : K ≤ 255) (ho : o.size ≤ 2048) : stripe_Join.f (splitL K o) = some (o, 0) := by
  have hs := sizeN_small K o.size h1 h2 ho
  have hm : sizeN K o.size * K ≤ 2052 * 255 := Nat.mul_le_mul hs h2
  unfold stripe_Join.f joinFits joinV
  rw [flat_split K o h1, plain_len K o h1, if_pos (decide_eq_true (fun _ => by omega)), splitL_len, if_pos ⟨h1, h2⟩, if_pos (splitL_even K o h1), joinS_plain K o h1 ho]
theorem parL_size (k n : Nat) (data : List ByteArray) (r : Nat) : ∀ s, s ∈ parL k n data r → s.size = n := fun s hs => by
  obtain ⟨i, hi, rfl⟩ := List.mem_map.1 hs
  rw [txt_size, acc_len]
theorem encL_len (K M : Nat) (o : ByteArray) : (encL K M o).length = K + M := by unfold encL; rw [List.length_append, splitL_len, parL_len]
theorem encL_size (K M : Nat) (o : ByteArray) (h1 : 1 ≤ K) : ∀ s, s ∈ encL K M o → s.size = sizeN K o.size := fun s hs => by
  rcases List.mem_append.1 hs with hs | hs
  · exact splitL_size K o h1 s hs
  · exact parL_size _ _ _ _ s hs
end Go.Proofs.YtegmmefijihdeaaDoor.PS
namespace Go.Proofs.YtegmmefijihdeaaDoor.PS
open Go.RowKit Go.Proofs.YtegmmefijihdeaaDoorW.PrintWords Go.Proofs.YtegmmefijihdeaaDoorW.PrintLast Go.Proofs.YtegmmefijihdeaaDoorW.PrintMore
attribute [local go_sem] Mk.str_leq Mk.str_gtr Mk.str_geq max2_int min2_int max_two min_two max_three min_three max_four min_four   -- for this text's walks alone
set_option linter.unusedVariables false
set_option linter.unusedSimpArgs false

/-! ### mend_One: function 43 -/
def mend_One.f (k : Nat) (a0 : Int) (a1 : Int) (l2 : List (S62)) (a3 : Int) : Option (ByteArray × Int) := (mend_all.f k a0 a1 l2).bind fun bt537 => (if bt537.2 = 0 then (if a3 < 0 then (some ((⟨#[]⟩ : ByteArray), 1)) else (if a3 ≥ (bt537.1.length : Int) then (some ((⟨#[]⟩ : ByteArray), 1)) else (if 0 ≤ a3 then (if a3 < (bt537.1.length : Int) then (some (rdOf ByteArray.empty bt537.1 a3, 0)) else (none)) else (none)))) else (some ((⟨#[]⟩ : ByteArray), bt537.2)))
theorem mend_One.mono : ∀ a0 a1 a2 a3 k, LeO (mend_One.f k a0 a1 a2 a3) (mend_One.f (k + 1) a0 a1 a2 a3) := by
 intro a0 a1 a2 a3 k
 unfold mend_One.f
 repeat' first
   | (with_reducible exact mend_all.mono _ _ _ _)
   | (with_reducible exact LeO.refl _)
   | (with_reducible exact LeO.none _)
   | (with_reducible refine LeO.ite ?_ ?_)
   | (with_reducible refine LeO.bind ?_ (fun _ => ?_))
   | exact mend_all.mono _ _ _ _
   | exact LeO.none _
   | refine LeO.ite ?_ ?_
   | refine LeO.bind ?_ (fun _ => ?_)
set_option maxHeartbeats 8000000 in
set_option maxRecDepth 100000 in
theorem mend_One.calls (k : Nat) (a0 : Int) (a1 : Int) (A2 : Option Addr) (c2 : Nat) (l2 : List (S62)) (a3 : Int) (r1 : ByteArray) (r2 : Int) (w : World) (hr2 : Kd.C k62 w A2 l2.length l2) (hc2 : l2.length ≤ c2) (h : mend_One.f k a0 a1 l2 a3 = some (r1, r2)) :
  Calls Tryd.prog 43 #[.int .i64 a0, .int .i64 a1, .slice A2 l2.length c2, .int .i64 a3] w fun e w' => e = .returned (.tuple #[.string r1, .int .i64 r2]) ∧ Below w.heap.size w w' := by
 have HR2 := Aside0.mk hr2
 have HC2 := Aside0.mk hc2
 clear hr2 hc2
 have HB := Aside0.mk (Below.refl w.heap.size w)
 have H : ((mend_all.f k a0 a1 l2).bind fun bt537 => (if bt537.2 = 0 then (if a3 < 0 then (some ((⟨#[]⟩ : ByteArray), 1)) else (if a3 ≥ (bt537.1.length : Int) then (some ((⟨#[]⟩ : ByteArray), 1)) else (if 0 ≤ a3 then (if a3 < (bt537.1.length : Int) then (some (rdOf ByteArray.empty bt537.1 a3, 0)) else (none)) else (none)))) else (some ((⟨#[]⟩ : ByteArray), bt537.2)))) = some (r1, r2) := h
 clear h
 replace H := Option.bind_eq_some_iff.mp H
 obtain ⟨⟨t537, t538⟩, A50, H⟩ := H
 replace H : (if t538 = 0 then (if a3 < 0 then (some ((⟨#[]⟩ : ByteArray), 1)) else (if a3 ≥ (t537.length : Int) then (some ((⟨#[]⟩ : ByteArray), 1)) else (if 0 ≤ a3 then (if a3 < (t537.length : Int) then (some (rdOf ByteArray.empty t537 a3, 0)) else (none)) else (none)))) else (some ((⟨#[]⟩ : ByteArray), t538))) = some (r1, r2) := H
 have A5 := Aside0.mk A50
 clear A50
 by_cases c6 : t538 = 0
 ·rw [if_pos c6] at H
  have c6b0 : (t538 == 0) = true := beq_iff_eq.mpr c6
  have c6b1 : (t538 != 0) = false := bne_eq_false_iff_eq.mpr c6
  clear c6
  by_cases c7 : a3 < 0
  ·rw [if_pos c7] at H
   have c7b0 : decide (a3 < 0) = true := decide_eq_true c7
   clear c7
   simp only [Option.some.injEq, Prod.mk.injEq] at H
   obtain ⟨rfl, rfl⟩ := H
   go_enter Tryd.func43, Tryd.ntmps43
   go_wp2_with (first | ((with_reducible refine gate_callee (f := 65) rfl ?_); refine goesL_ (some 16) rfl rfl Tryd.func65 (by kernel_rfl) rfl #[.int .i64 a0, .int .i64 a1, .slice A2 l2.length c2] rfl (by (try simp only [List.map_toArray, List.map_cons, List.map_nil]); first | done | rfl | (simp only [List.length_drop, List.length_take]; rfl)) ?_; (with_reducible refine (mend_all.calls k a0 a1 _ _ l2 t537 t538 _ ?side1 ?side2 A5.out).mono ?_); (case side1 => repeat (first | exact HR2.out | (with_reducible refine Kd.C_alloc ?_ _) | (with_reducible refine Kd.C_drewN ?_ _) | (with_reducible refine Kd.C_drew ?_))); (case side2 => exact HC2.out); rintro e w8 ⟨v539, rfl, ho0, hb⟩; refine ⟨_, rfl, ?_⟩; have n0_ := Aside0.mk (Kd.R_lower ho0 (below_size (by repeat (first | (with_reducible first | exact HB.out | apply below_alloc | apply pw_below_drewN | apply below_drew1) | exact HB.out)))); have n1_ := Aside0.mk (below_step (by repeat (first | (with_reducible first | exact HB.out | apply below_alloc | apply pw_below_drewN | apply below_drew1) | exact HB.out)) hb); clear HB; have HO540 := n0_; have HB := n1_; clear n0_ n1_; (try clear hb); (try clear hb2); (try clear hk); (try clear hi); (try clear ho0)))
   go_ret2
   exact ⟨by first | rfl | (simp [errW_none, errW_some] <;> rfl) | (simp [*, errW_none, errW_some] <;> rfl), by repeat (first | (with_reducible first | exact HB.out | apply below_alloc | apply pw_below_drewN | apply below_drew1) | exact HB.out)⟩
  ·rw [if_neg c7] at H
   have c7b0 : decide (a3 < 0) = false := decide_eq_false c7
   clear c7
   by_cases c9 : a3 ≥ (t537.length : Int)
   ·rw [if_pos c9] at H
    have c9b0 : decide ((t537.length : Int) ≤ a3) = true := decide_eq_true c9
    clear c9
    simp only [Option.some.injEq, Prod.mk.injEq] at H
    obtain ⟨rfl, rfl⟩ := H
    go_enter Tryd.func43, Tryd.ntmps43
    go_wp2_with (first | ((with_reducible refine gate_callee (f := 65) rfl ?_); refine goesL_ (some 16) rfl rfl Tryd.func65 (by kernel_rfl) rfl #[.int .i64 a0, .int .i64 a1, .slice A2 l2.length c2] rfl (by (try simp only [List.map_toArray, List.map_cons, List.map_nil]); first | done | rfl | (simp only [List.length_drop, List.length_take]; rfl)) ?_; (with_reducible refine (mend_all.calls k a0 a1 _ _ l2 t537 t538 _ ?side1 ?side2 A5.out).mono ?_); (case side1 => repeat (first | exact HR2.out | (with_reducible refine Kd.C_alloc ?_ _) | (with_reducible refine Kd.C_drewN ?_ _) | (with_reducible refine Kd.C_drew ?_))); (case side2 => exact HC2.out); rintro e w10 ⟨v539, rfl, ho0, hb⟩; refine ⟨_, rfl, ?_⟩; have n0_ := Aside0.mk (Kd.R_lower ho0 (below_size (by repeat (first | (with_reducible first | exact HB.out | apply below_alloc | apply pw_below_drewN | apply below_drew1) | exact HB.out)))); have n1_ := Aside0.mk (below_step (by repeat (first | (with_reducible first | exact HB.out | apply below_alloc | apply pw_below_drewN | apply below_drew1) | exact HB.out)) hb); clear HB; have HO540 := n0_; have HB := n1_; clear n0_ n1_; (try clear hb); (try clear hb2); (try clear hk); (try clear hi); (try clear ho0); obtain ⟨Ao11, co11, eo11⟩ := Kd.R_slice HO540.out; subst eo11))
    go_ret2
    exact ⟨by first | rfl | (simp [errW_none, errW_some] <;> rfl) | (simp [*, errW_none, errW_some] <;> rfl), by repeat (first | (with_reducible first | exact HB.out | apply below_alloc | apply pw_below_drewN | apply below_drew1) | exact HB.out)⟩
   ·rw [if_neg c9] at H
    have c9b0 : decide ((t537.length : Int) ≤ a3) = false := decide_eq_false c9
    clear c9
    by_cases c12 : 0 ≤ a3
    ·rw [if_pos c12] at H
     have c12b0 : decide (0 ≤ a3) = true := decide_eq_true c12
     clear c12
     by_cases c13 : a3 < (t537.length : Int)
     ·rw [if_pos c13] at H
      have c13b0 : decide (a3 < (t537.length : Int)) = true := decide_eq_true c13
      clear c13
      simp only [Option.some.injEq, Prod.mk.injEq] at H
      obtain ⟨rfl, rfl⟩ := H
      go_enter Tryd.func43, Tryd.ntmps43
      go_wp2_with (first | ((with_reducible refine gate_callee (f := 65) rfl ?_); refine goesL_ (some 16) rfl rfl Tryd.func65 (by kernel_rfl) rfl #[.int .i64 a0, .int .i64 a1, .slice A2 l2.length c2] rfl (by (try simp only [List.map_toArray, List.map_cons, List.map_nil]); first | done | rfl | (simp only [List.length_drop, List.length_take]; rfl)) ?_; (with_reducible refine (mend_all.calls k a0 a1 _ _ l2 t537 t538 _ ?side1 ?side2 A5.out).mono ?_); (case side1 => repeat (first | exact HR2.out | (with_reducible refine Kd.C_alloc ?_ _) | (with_reducible refine Kd.C_drewN ?_ _) | (with_reducible refine Kd.C_drew ?_))); (case side2 => exact HC2.out); rintro e w14 ⟨v539, rfl, ho0, hb⟩; refine ⟨_, rfl, ?_⟩; have n0_ := Aside0.mk (Kd.R_lower ho0 (below_size (by repeat (first | (with_reducible first | exact HB.out | apply below_alloc | apply pw_below_drewN | apply below_drew1) | exact HB.out)))); have n1_ := Aside0.mk (below_step (by repeat (first | (with_reducible first | exact HB.out | apply below_alloc | apply pw_below_drewN | apply below_drew1) | exact HB.out)) hb); clear HB; have HO540 := n0_; have HB := n1_; clear n0_ n1_; (try clear hb); (try clear hb2); (try clear hk); (try clear hi); (try clear ho0); obtain ⟨Ao15, co15, eo15⟩ := Kd.R_slice HO540.out; subst eo15; have p541 : 0 ≤ (a3 : Int) := of_decide_eq_true (by first | (with_reducible assumption) | assumption); have q541 : a3 < (t537.length : Int) := of_decide_eq_true (by first | (with_reducible assumption) | assumption); obtain ⟨ad541, e541, hx541_0⟩ := Kd.at_string (Kd.R_reads' HO540.out).2.2 a3 p541 q541; cases e541; replace p541 := eq_true p541; replace q541 := eq_true q541))
      go_ret2
      exact ⟨by first | rfl | (simp [errW_none, errW_some] <;> rfl) | (simp [*, errW_none, errW_some] <;> rfl), by repeat (first | (with_reducible first | exact HB.out | apply below_alloc | apply pw_below_drewN | apply below_drew1) | exact HB.out)⟩
     ·rw [if_neg c13] at H
      exact absurd H (by simp)
    ·rw [if_neg c12] at H
     exact absurd H (by simp)
 ·rw [if_neg c6] at H
  have c6b0 : (t538 == 0) = false := beq_eq_false_iff_ne.mpr c6
  have c6b1 : (t538 != 0) = true := bne_iff_ne.mpr c6
  simp only [Option.some.injEq, Prod.mk.injEq] at H
  obtain ⟨rfl, rfl⟩ := H
  go_enter Tryd.func43, Tryd.ntmps43
  go_wp2_with (first | ((with_reducible refine gate_callee (f := 65) rfl ?_); refine goesL_ (some 16) rfl rfl Tryd.func65 (by kernel_rfl) rfl #[.int .i64 a0, .int .i64 a1, .slice A2 l2.length c2] rfl (by (try simp only [List.map_toArray, List.map_cons, List.map_nil]); first | done | rfl | (simp only [List.length_drop, List.length_take]; rfl)) ?_; (with_reducible refine (mend_all.calls k a0 a1 _ _ l2 t537 t538 _ ?side1 ?side2 A5.out).mono ?_); (case side1 => repeat (first | exact HR2.out | (with_reducible refine Kd.C_alloc ?_ _) | (with_reducible refine Kd.C_drewN ?_ _) | (with_reducible refine Kd.C_drew ?_))); (case side2 => exact HC2.out); rintro e w16 ⟨v539, rfl, ho0, hb⟩; refine ⟨_, rfl, ?_⟩; have n0_ := Aside0.mk (Kd.R_lower ho0 (below_size (by repeat (first | (with_reducible first | exact HB.out | apply below_alloc | apply pw_below_drewN | apply below_drew1) | exact HB.out)))); have n1_ := Aside0.mk (below_step (by repeat (first | (with_reducible first | exact HB.out | apply below_alloc | apply pw_below_drewN | apply below_drew1) | exact HB.out)) hb); clear HB; have HO540 := n0_; have HB := n1_; clear n0_ n1_; (try clear hb); (try clear hb2); (try clear hk); (try clear hi); (try clear ho0)))
  go_ret2
  exact ⟨by first | rfl | (simp [errW_none, errW_some] <;> rfl) | (simp [*, errW_none, errW_some] <;> rfl), by repeat (first | (with_reducible first | exact HB.out | apply below_alloc | apply pw_below_drewN | apply below_drew1) | exact HB.out)⟩

end Go.Proofs.YtegmmefijihdeaaDoor.PS
namespace Go.Proofs.YtegmmefijihdeaaDoor.PS
open Go.RowKit Go.Proofs.YtegmmefijihdeaaDoorW.PrintWords Go.Proofs.YtegmmefijihdeaaDoorW.PrintLast Go.Proofs.YtegmmefijihdeaaDoorW.PrintMore
attribute [local go_sem] Mk.str_leq Mk.str_gtr Mk.str_geq max2_int min2_int max_two min_two max_three min_three max_four min_four   -- for this text's walks alone
set_option linter.unusedVariables false
set_option linter.unusedSimpArgs false

/-! ### mend_Agree: function 45 -/
def mend_Agree.l0 : Nat → List ByteArray → List (S62) → Int → Int → Option (Bool × Int)
 | 0, _, _, _, _ => none
 | k + 1, x8, x22, x23, x24 => if x24 < x23 then (if 0 ≤ x24 then (if x24 < (x22.length : Int) then (if 0 ≤ ((rd_T62 x22 x24).f0) then (if ((rd_T62 x22 x24).f0) < (x8.length : Int) then (if (rdOf ByteArray.empty x8 ((rd_T62 x22 x24).f0)).toList = ((rd_T62 x22 x24).f1).toList then (mend_Agree.l0 k x8 x22 x23 (wrap64 (x24 + 1))) else (some (false, 0))) else (none)) else (none)) else (none)) else (none)) else (some (true, 0))
def mend_Agree.f (k : Nat) (a0 : Int) (a1 : Int) (l2 : List (S62)) : Option (Bool × Int) := (mend_all.f k a0 a1 l2).bind fun bt579 => (if bt579.2 = 0 then (mend_Agree.l0 k bt579.1 l2 (l2.length : Int) 0) else (some (false, bt579.2)))
theorem mend_Agree.mono_l : ∀ k, (∀ y0 y1 y2 y3, LeO (mend_Agree.l0 k y0 y1 y2 y3) (mend_Agree.l0 (k + 1) y0 y1 y2 y3))
 | 0 => fun _ _ _ _ r h => by simp [mend_Agree.l0] at h
 | k + 1 => by
  have ih0 := mend_Agree.mono_l k
  ·intro y0 y1 y2 y3
   unfold mend_Agree.l0
   repeat' first
   | (with_reducible exact ih0 _ _ _ _)
   | (with_reducible exact mend_all.mono _ _ _ _)
   | (with_reducible exact LeO.refl _)
   | (with_reducible exact LeO.none _)
   | (with_reducible refine LeO.ite ?_ ?_)
   | (with_reducible refine LeO.bind ?_ (fun _ => ?_))
   | exact ih0 _ _ _ _
   | exact mend_all.mono _ _ _ _
   | exact LeO.none _
   | refine LeO.ite ?_ ?_
   | refine LeO.bind ?_ (fun _ => ?_)
theorem mend_Agree.mono : ∀ a0 a1 a2 k, LeO (mend_Agree.f k a0 a1 a2) (mend_Agree.f (k + 1) a0 a1 a2) := by
 intro a0 a1 a2 k
 have ih0 := mend_Agree.mono_l k
 unfold mend_Agree.f
 repeat' first
   | (with_reducible exact ih0 _ _ _ _)
   | (with_reducible exact mend_all.mono _ _ _ _)
   | (with_reducible exact LeO.refl _)
   | (with_reducible exact LeO.none _)
   | (with_reducible refine LeO.ite ?_ ?_)
   | (with_reducible refine LeO.bind ?_ (fun _ => ?_))
   | exact ih0 _ _ _ _
   | exact mend_all.mono _ _ _ _
   | exact LeO.none _
   | refine LeO.ite ?_ ?_
   | refine LeO.bind ?_ (fun _ => ?_)
set_option maxHeartbeats 8000000 in
set_option maxRecDepth 100000 in
theorem mend_Agree.calls (k : Nat) (a0 : Int) (a1 : Int) (A2 : Option Addr) (c2 : Nat) (l2 : List (S62)) (r1 : Bool) (r2 : Int) (w : World) (hr2 : Kd.C k62 w A2 l2.length l2) (hc2 : l2.length ≤ c2) (h : mend_Agree.f k a0 a1 l2 = some (r1, r2)) :
  Calls Tryd.prog 45 #[.int .i64 a0, .int .i64 a1, .slice A2 l2.length c2] w fun e w' => e = .returned (.tuple #[.bool r1, .int .i64 r2]) ∧ Below w.heap.size w w' := by
 have hu62 := Tryd.underlying62
 have HR2 := Aside0.mk hr2
 have HC2 := Aside0.mk hc2
 clear hr2 hc2
 have HB := Aside0.mk (Below.refl w.heap.size w)
 have H : ((mend_all.f k a0 a1 l2).bind fun bt579 => (if bt579.2 = 0 then (mend_Agree.l0 k bt579.1 l2 (l2.length : Int) 0) else (some (false, bt579.2)))) = some (r1, r2) := h
 clear h
 replace H := Option.bind_eq_some_iff.mp H
 obtain ⟨⟨t579, t580⟩, A40, H⟩ := H
 replace H : (if t580 = 0 then (mend_Agree.l0 k t579 l2 (l2.length : Int) 0) else (some (false, t580))) = some (r1, r2) := H
 have A4 := Aside0.mk A40
 clear A40
 by_cases c5 : t580 = 0
 ·rw [if_pos c5] at H
  have c5b0 : (t580 == 0) = true := beq_iff_eq.mpr c5
  have c5b1 : (t580 != 0) = false := bne_eq_false_iff_eq.mpr c5
  clear c5
  have H' := Aside0.mk H
  clear H
  go_enter Tryd.func45, Tryd.ntmps45
  go_wp2_with (first | (go_at_call 65; (with_reducible refine (mend_all.calls k a0 a1 _ _ l2 t579 t580 _ ?side1 ?side2 A4.out).mono ?_); (case side1 => repeat (first | exact HR2.out | (with_reducible refine Kd.C_alloc ?_ _) | (with_reducible refine Kd.C_drewN ?_ _) | (with_reducible refine Kd.C_drew ?_))); (case side2 => exact HC2.out); rintro e w6 ⟨v581, rfl, ho0, hb⟩; have n0_ := Aside0.mk (Kd.R_lower ho0 (below_size (by repeat (first | (with_reducible first | exact HB.out | apply below_alloc | apply pw_below_drewN | apply below_drew1) | exact HB.out)))); have n1_ := Aside0.mk (below_step (by repeat (first | (with_reducible first | exact HB.out | apply below_alloc | apply pw_below_drewN | apply below_drew1) | exact HB.out)) hb); clear HB; have HO582 := n0_; have HB := n1_; clear n0_ n1_; (try clear hb); (try clear hb2); (try clear hk); (try clear hi); (try clear ho0)))
  repeat (go_quiet (first | (go_at_call 65; (with_reducible refine (mend_all.calls k a0 a1 _ _ l2 t579 t580 _ ?side1 ?side2 A4.out).mono ?_); (case side1 => repeat (first | exact HR2.out | (with_reducible refine Kd.C_alloc ?_ _) | (with_reducible refine Kd.C_drewN ?_ _) | (with_reducible refine Kd.C_drew ?_))); (case side2 => exact HC2.out); rintro e w6 ⟨v581, rfl, ho0, hb⟩; have n0_ := Aside0.mk (Kd.R_lower ho0 (below_size (by repeat (first | (with_reducible first | exact HB.out | apply below_alloc | apply pw_below_drewN | apply below_drew1) | exact HB.out)))); have n1_ := Aside0.mk (below_step (by repeat (first | (with_reducible first | exact HB.out | apply below_alloc | apply pw_below_drewN | apply below_drew1) | exact HB.out)) hb); clear HB; have HO582 := n0_; have HB := n1_; clear n0_ n1_; (try clear hb); (try clear hb2); (try clear hk); (try clear hi); (try clear ho0))); try go_wp2_with (first | (go_at_call 65; (with_reducible refine (mend_all.calls k a0 a1 _ _ l2 t579 t580 _ ?side1 ?side2 A4.out).mono ?_); (case side1 => repeat (first | exact HR2.out | (with_reducible refine Kd.C_alloc ?_ _) | (with_reducible refine Kd.C_drewN ?_ _) | (with_reducible refine Kd.C_drew ?_))); (case side2 => exact HC2.out); rintro e w6 ⟨v581, rfl, ho0, hb⟩; have n0_ := Aside0.mk (Kd.R_lower ho0 (below_size (by repeat (first | (with_reducible first | exact HB.out | apply below_alloc | apply pw_below_drewN | apply below_drew1) | exact HB.out)))); have n1_ := Aside0.mk (below_step (by repeat (first | (with_reducible first | exact HB.out | apply below_alloc | apply pw_below_drewN | apply below_drew1) | exact HB.out)) hb); clear HB; have HO582 := n0_; have HB := n1_; clear n0_ n1_; (try clear hb); (try clear hb2); (try clear hk); (try clear hi); (try clear ho0))))
  go_loopg [24] k (fun kq v24 w' => ∃ (x24_1 : Int), v24 = .int .i64 x24_1 ∧ Aside0 (mend_Agree.l0 kq t579 l2 (l2.length : Int) x24_1 = some (r1, r2)) ∧ Aside0 (kq ≤ k) ∧ Aside0 (Kd.R Kd.string 9 w' w.heap.size (fun _ => True) v581 t579) ∧ Aside0 (Below w.heap.size w w'))
  case atStart => exact ⟨(0), (by first | rfl | (simp; done) | (simp [*]; done)), H', ⟨Nat.le_refl _⟩, ⟨by (with_reducible repeat (first | apply Kd.R_alloc | apply Kd.R_drewN | apply Kd.R_drew)); exact HO582.out⟩, ⟨by repeat (first | (with_reducible first | exact HB.out | apply below_alloc | apply pw_below_drewN | apply below_drew1) | exact HB.out)⟩⟩
  case round =>
   clear H'
   try clear c2
   try clear p2
   try clear c4
   try clear c5
   try clear c5b0
   try clear c5b1
   obtain ⟨x24_1, rfl, HA, HK1, HO_8, HB⟩ := hrel
   cases gk with
   | zero => exact absurd HA.out (by simp [mend_Agree.l0])
   | succ k1 =>
    have H := HA.out
    clear HA
    simp only [mend_Agree.l0] at H
    by_cases c7 : x24_1 < (l2.length : Int)
    ·rw [if_pos c7] at H
     have c7b0 : decide (x24_1 < (l2.length : Int)) = true := decide_eq_true c7
     clear c7
     by_cases c8 : 0 ≤ x24_1
     ·rw [if_pos c8] at H
      have c8b0 : decide (0 ≤ x24_1) = true := decide_eq_true c8
      clear c8
      by_cases c9 : x24_1 < (l2.length : Int)
      ·rw [if_pos c9] at H
       have c9b0 : decide (x24_1 < (l2.length : Int)) = true := decide_eq_true c9
       clear c9
       by_cases c10 : 0 ≤ ((rd_T62 l2 x24_1).f0)
       ·rw [if_pos c10] at H
        have c10b0 : decide (0 ≤ ((rd_T62 l2 x24_1).f0)) = true := decide_eq_true c10
        clear c10
        by_cases c11 : ((rd_T62 l2 x24_1).f0) < (t579.length : Int)
        ·rw [if_pos c11] at H
         have c11b0 : decide (((rd_T62 l2 x24_1).f0) < (t579.length : Int)) = true := decide_eq_true c11
         clear c11
         by_cases c12 : (rdOf ByteArray.empty t579 ((rd_T62 l2 x24_1).f0)).toList = ((rd_T62 l2 x24_1).f1).toList
         ·rw [if_pos c12] at H
          have c12b0 : ((rdOf ByteArray.empty t579 ((rd_T62 l2 x24_1).f0)).toList == ((rd_T62 l2 x24_1).f1).toList) = true := beq_iff_eq.mpr c12
          have c12b1 : ((rdOf ByteArray.empty t579 ((rd_T62 l2 x24_1).f0)).toList != ((rd_T62 l2 x24_1).f1).toList) = false := bne_eq_false_iff_eq.mpr c12
          clear c12
          have H' := Aside0.mk H
          clear H
          have p583 : 0 ≤ (x24_1 : Int) := of_decide_eq_true (by first | (with_reducible assumption) | assumption)
          have q583 : x24_1 < (l2.length : Int) := of_decide_eq_true (by first | (with_reducible assumption) | assumption)
          obtain ⟨ad583, e583, hx583_0, hx583_1⟩ := at_T62 HR2.out x24_1 p583 q583
          cases e583
          replace hx583_0 := (HB.out.cell (World.block_lt_of_cell? w _ hx583_0)).trans hx583_0
          replace hx583_1 := (HB.out.cell (World.block_lt_of_cell? w _ hx583_1)).trans hx583_1
          replace p583 := eq_true p583
          replace q583 := eq_true q583
          go_wp2_with (first | ((with_reducible refine gate_dst (N := 11) rfl ?_); refine box_event ?hg (N := 11) ?hd (cs := #[.int .i64 0, .string (⟨#[]⟩ : ByteArray)]) (t := 62) ?hr ?_; (case hd => rfl); (case hg => rfl); (case hr => first | (go_simp; done) | (go_simp; rfl)); intro gb584 hg w13 hbox hb; have n0_ := Aside0.mk (Kd.R_below (by (with_reducible repeat (first | apply Kd.R_alloc | apply Kd.R_drewN | apply Kd.R_drew)); exact HO_8.out) hb); have n1_ := Aside0.mk (below_step (by repeat (first | (with_reducible first | exact HB.out | apply below_alloc | apply pw_below_drewN | apply below_drew1) | exact HB.out)) hb); have n2_ := Aside0.mk (hbox); have n3_ := Aside0.mk ((by rw [hg]; exact (below_size (by repeat (first | (with_reducible first | exact HB.out | apply below_alloc | apply pw_below_drewN | apply below_drew1) | exact HB.out))) : w.heap.size ≤ gb584)); have n4_ := Aside0.mk ((by rw [hg]; exact (below_size (by repeat (first | (with_reducible first | exact HB.out | apply below_alloc | apply pw_below_drewN | apply below_drew1) | exact HB.out))) : w.heap.size ≤ gb584)); clear HO_8; clear HB; have HO_8 := n0_; have HB := n1_; have BK584 := n2_; have GW584 := n3_; have GE584 := n4_; clear n0_ n1_ n2_ n3_ n4_; clear hb hbox hg; have hcz14_0 : w13.cell? ⟨gb584, 0, none⟩ = some (.int .i64 0) := (blk_cell BK584.out 0).trans rfl; have hcz14_1 : w13.cell? ⟨gb584, 1, none⟩ = some (.string (⟨#[]⟩ : ByteArray)) := (blk_cell BK584.out 1).trans rfl; have hfz14_0 := blk_frozen BK584.out 0; have hfz14_1 := blk_frozen BK584.out 1; obtain ⟨Ao15, co15, eo15⟩ := Kd.R_slice HO_8.out; subst eo15; have p585 : 0 ≤ (((rd_T62 l2 x24_1).f0) : Int) := of_decide_eq_true (by first | (with_reducible assumption) | assumption); have q585 : ((rd_T62 l2 x24_1).f0) < (t579.length : Int) := of_decide_eq_true (by first | (with_reducible assumption) | assumption); obtain ⟨ad585, e585, hx585_0⟩ := Kd.at_string (Kd.R_reads' HO_8.out).2.2 ((rd_T62 l2 x24_1).f0) p585 q585; cases e585; have hn585_0 : ad585.block ≠ gb584 := Kd.own_blk (Kd.R_ne HO_8.out BK584.out (by decide)); have hn585_1 : ad585.block ≠ gb584 := Kd.own_blk (Kd.R_ne HO_8.out BK584.out (by decide)); replace hx585_0 := (cell_far (p := ⟨gb584, 0, none⟩) (by first | (rw [add_block]; exact hn585_0) | (show (Addr.add _ _).block ≠ _; rw [add_block]; exact hn585_0) | exact hn585_0) (.int .i64 ((rd_T62 l2 x24_1).f0))).trans hx585_0; replace hx585_0 := (cell_far (p := ⟨gb584, 1, none⟩) (by first | (rw [add_block]; exact hn585_1) | (show (Addr.add _ _).block ≠ _; rw [add_block]; exact hn585_1) | exact hn585_1) (.string ((rd_T62 l2 x24_1).f1))).trans hx585_0; (try have hy585_0 := fun (n_ : Nat) => (show ((((w13.drewN n_).setCell ⟨gb584, 0, none⟩ (.int .i64 ((rd_T62 l2 x24_1).f0))).setCell ⟨gb584, 1, none⟩ (.string ((rd_T62 l2 x24_1).f1)))).cell? _ = some _ from hx585_0)); clear hn585_0; clear hn585_1; replace p585 := eq_true p585; replace q585 := eq_true q585))
          repeat (go_quiet (first | ((with_reducible refine gate_dst (N := 11) rfl ?_); refine box_event ?hg (N := 11) ?hd (cs := #[.int .i64 0, .string (⟨#[]⟩ : ByteArray)]) (t := 62) ?hr ?_; (case hd => rfl); (case hg => rfl); (case hr => first | (go_simp; done) | (go_simp; rfl)); intro gb584 hg w13 hbox hb; have n0_ := Aside0.mk (Kd.R_below (by (with_reducible repeat (first | apply Kd.R_alloc | apply Kd.R_drewN | apply Kd.R_drew)); exact HO_8.out) hb); have n1_ := Aside0.mk (below_step (by repeat (first | (with_reducible first | exact HB.out | apply below_alloc | apply pw_below_drewN | apply below_drew1) | exact HB.out)) hb); have n2_ := Aside0.mk (hbox); have n3_ := Aside0.mk ((by rw [hg]; exact (below_size (by repeat (first | (with_reducible first | exact HB.out | apply below_alloc | apply pw_below_drewN | apply below_drew1) | exact HB.out))) : w.heap.size ≤ gb584)); have n4_ := Aside0.mk ((by rw [hg]; exact (below_size (by repeat (first | (with_reducible first | exact HB.out | apply below_alloc | apply pw_below_drewN | apply below_drew1) | exact HB.out))) : w.heap.size ≤ gb584)); clear HO_8; clear HB; have HO_8 := n0_; have HB := n1_; have BK584 := n2_; have GW584 := n3_; have GE584 := n4_; clear n0_ n1_ n2_ n3_ n4_; clear hb hbox hg; have hcz14_0 : w13.cell? ⟨gb584, 0, none⟩ = some (.int .i64 0) := (blk_cell BK584.out 0).trans rfl; have hcz14_1 : w13.cell? ⟨gb584, 1, none⟩ = some (.string (⟨#[]⟩ : ByteArray)) := (blk_cell BK584.out 1).trans rfl; have hfz14_0 := blk_frozen BK584.out 0; have hfz14_1 := blk_frozen BK584.out 1; obtain ⟨Ao15, co15, eo15⟩ := Kd.R_slice HO_8.out; subst eo15; have p585 : 0 ≤ (((rd_T62 l2 x24_1).f0) : Int) := of_decide_eq_true (by first | (with_reducible assumption) | assumption); have q585 : ((rd_T62 l2 x24_1).f0) < (t579.length : Int) := of_decide_eq_true (by first | (with_reducible assumption) | assumption); obtain ⟨ad585, e585, hx585_0⟩ := Kd.at_string (Kd.R_reads' HO_8.out).2.2 ((rd_T62 l2 x24_1).f0) p585 q585; cases e585; have hn585_0 : ad585.block ≠ gb584 := Kd.own_blk (Kd.R_ne HO_8.out BK584.out (by decide)); have hn585_1 : ad585.block ≠ gb584 := Kd.own_blk (Kd.R_ne HO_8.out BK584.out (by decide)); replace hx585_0 := (cell_far (p := ⟨gb584, 0, none⟩) (by first | (rw [add_block]; exact hn585_0) | (show (Addr.add _ _).block ≠ _; rw [add_block]; exact hn585_0) | exact hn585_0) (.int .i64 ((rd_T62 l2 x24_1).f0))).trans hx585_0; replace hx585_0 := (cell_far (p := ⟨gb584, 1, none⟩) (by first | (rw [add_block]; exact hn585_1) | (show (Addr.add _ _).block ≠ _; rw [add_block]; exact hn585_1) | exact hn585_1) (.string ((rd_T62 l2 x24_1).f1))).trans hx585_0; (try have hy585_0 := fun (n_ : Nat) => (show ((((w13.drewN n_).setCell ⟨gb584, 0, none⟩ (.int .i64 ((rd_T62 l2 x24_1).f0))).setCell ⟨gb584, 1, none⟩ (.string ((rd_T62 l2 x24_1).f1)))).cell? _ = some _ from hx585_0)); clear hn585_0; clear hn585_1; replace p585 := eq_true p585; replace q585 := eq_true q585)); try go_wp2_with (first | ((with_reducible refine gate_dst (N := 11) rfl ?_); refine box_event ?hg (N := 11) ?hd (cs := #[.int .i64 0, .string (⟨#[]⟩ : ByteArray)]) (t := 62) ?hr ?_; (case hd => rfl); (case hg => rfl); (case hr => first | (go_simp; done) | (go_simp; rfl)); intro gb584 hg w13 hbox hb; have n0_ := Aside0.mk (Kd.R_below (by (with_reducible repeat (first | apply Kd.R_alloc | apply Kd.R_drewN | apply Kd.R_drew)); exact HO_8.out) hb); have n1_ := Aside0.mk (below_step (by repeat (first | (with_reducible first | exact HB.out | apply below_alloc | apply pw_below_drewN | apply below_drew1) | exact HB.out)) hb); have n2_ := Aside0.mk (hbox); have n3_ := Aside0.mk ((by rw [hg]; exact (below_size (by repeat (first | (with_reducible first | exact HB.out | apply below_alloc | apply pw_below_drewN | apply below_drew1) | exact HB.out))) : w.heap.size ≤ gb584)); have n4_ := Aside0.mk ((by rw [hg]; exact (below_size (by repeat (first | (with_reducible first | exact HB.out | apply below_alloc | apply pw_below_drewN | apply below_drew1) | exact HB.out))) : w.heap.size ≤ gb584)); clear HO_8; clear HB; have HO_8 := n0_; have HB := n1_; have BK584 := n2_; have GW584 := n3_; have GE584 := n4_; clear n0_ n1_ n2_ n3_ n4_; clear hb hbox hg; have hcz14_0 : w13.cell? ⟨gb584, 0, none⟩ = some (.int .i64 0) := (blk_cell BK584.out 0).trans rfl; have hcz14_1 : w13.cell? ⟨gb584, 1, none⟩ = some (.string (⟨#[]⟩ : ByteArray)) := (blk_cell BK584.out 1).trans rfl; have hfz14_0 := blk_frozen BK584.out 0; have hfz14_1 := blk_frozen BK584.out 1; obtain ⟨Ao15, co15, eo15⟩ := Kd.R_slice HO_8.out; subst eo15; have p585 : 0 ≤ (((rd_T62 l2 x24_1).f0) : Int) := of_decide_eq_true (by first | (with_reducible assumption) | assumption); have q585 : ((rd_T62 l2 x24_1).f0) < (t579.length : Int) := of_decide_eq_true (by first | (with_reducible assumption) | assumption); obtain ⟨ad585, e585, hx585_0⟩ := Kd.at_string (Kd.R_reads' HO_8.out).2.2 ((rd_T62 l2 x24_1).f0) p585 q585; cases e585; have hn585_0 : ad585.block ≠ gb584 := Kd.own_blk (Kd.R_ne HO_8.out BK584.out (by decide)); have hn585_1 : ad585.block ≠ gb584 := Kd.own_blk (Kd.R_ne HO_8.out BK584.out (by decide)); replace hx585_0 := (cell_far (p := ⟨gb584, 0, none⟩) (by first | (rw [add_block]; exact hn585_0) | (show (Addr.add _ _).block ≠ _; rw [add_block]; exact hn585_0) | exact hn585_0) (.int .i64 ((rd_T62 l2 x24_1).f0))).trans hx585_0; replace hx585_0 := (cell_far (p := ⟨gb584, 1, none⟩) (by first | (rw [add_block]; exact hn585_1) | (show (Addr.add _ _).block ≠ _; rw [add_block]; exact hn585_1) | exact hn585_1) (.string ((rd_T62 l2 x24_1).f1))).trans hx585_0; (try have hy585_0 := fun (n_ : Nat) => (show ((((w13.drewN n_).setCell ⟨gb584, 0, none⟩ (.int .i64 ((rd_T62 l2 x24_1).f0))).setCell ⟨gb584, 1, none⟩ (.string ((rd_T62 l2 x24_1).f1)))).cell? _ = some _ from hx585_0)); clear hn585_0; clear hn585_1; replace p585 := eq_true p585; replace q585 := eq_true q585)))
          go_roundg k1
          case measure => have := HK1.out; omega
          case rel => exact ⟨(wrap64 (x24_1 + 1)), (by first | rfl | (simp; done) | (simp [*]; done)), H', ⟨by have := HK1.out; omega⟩, ⟨by (with_reducible repeat (first | apply Kd.R_alloc | apply Kd.R_drewN | apply Kd.R_drew)); exact Kd.R_mono (Kd.R_far (p := ⟨gb584, 1, none⟩) (Kd.R_far (p := ⟨gb584, 0, none⟩) (Kd.R_types HO_8.out BK584.out (by decide)) (fun _ hk => hk.2) (.int .i64 ((rd_T62 l2 x24_1).f0))) (fun _ hk => hk.2) (.string ((rd_T62 l2 x24_1).f1))) (fun _ hk => trivial)⟩, ⟨by repeat (first | (with_reducible first | exact HB.out | apply below_alloc | apply pw_below_drewN | apply below_drew1 | refine below_set ?_ GE584.out) | exact HB.out)⟩⟩
         ·rw [if_neg c12] at H
          have c12b0 : ((rdOf ByteArray.empty t579 ((rd_T62 l2 x24_1).f0)).toList == ((rd_T62 l2 x24_1).f1).toList) = false := beq_eq_false_iff_ne.mpr c12
          have c12b1 : ((rdOf ByteArray.empty t579 ((rd_T62 l2 x24_1).f0)).toList != ((rd_T62 l2 x24_1).f1).toList) = true := bne_iff_ne.mpr c12
          simp only [Option.some.injEq, Prod.mk.injEq] at H
          obtain ⟨rfl, rfl⟩ := H
          have p583 : 0 ≤ (x24_1 : Int) := of_decide_eq_true (by first | (with_reducible assumption) | assumption)
          have q583 : x24_1 < (l2.length : Int) := of_decide_eq_true (by first | (with_reducible assumption) | assumption)
          obtain ⟨ad583, e583, hx583_0, hx583_1⟩ := at_T62 HR2.out x24_1 p583 q583
          cases e583
          replace hx583_0 := (HB.out.cell (World.block_lt_of_cell? w _ hx583_0)).trans hx583_0
          replace hx583_1 := (HB.out.cell (World.block_lt_of_cell? w _ hx583_1)).trans hx583_1
          replace p583 := eq_true p583
          replace q583 := eq_true q583
          go_wp2_with (first | ((with_reducible refine gate_dst (N := 11) rfl ?_); refine box_event ?hg (N := 11) ?hd (cs := #[.int .i64 0, .string (⟨#[]⟩ : ByteArray)]) (t := 62) ?hr ?_; (case hd => rfl); (case hg => rfl); (case hr => first | (go_simp; done) | (go_simp; rfl)); intro gb584 hg w16 hbox hb; have n0_ := Aside0.mk (Kd.R_below (by (with_reducible repeat (first | apply Kd.R_alloc | apply Kd.R_drewN | apply Kd.R_drew)); exact HO_8.out) hb); have n1_ := Aside0.mk (below_step (by repeat (first | (with_reducible first | exact HB.out | apply below_alloc | apply pw_below_drewN | apply below_drew1) | exact HB.out)) hb); have n2_ := Aside0.mk (hbox); have n3_ := Aside0.mk ((by rw [hg]; exact (below_size (by repeat (first | (with_reducible first | exact HB.out | apply below_alloc | apply pw_below_drewN | apply below_drew1) | exact HB.out))) : w.heap.size ≤ gb584)); have n4_ := Aside0.mk ((by rw [hg]; exact (below_size (by repeat (first | (with_reducible first | exact HB.out | apply below_alloc | apply pw_below_drewN | apply below_drew1) | exact HB.out))) : w.heap.size ≤ gb584)); clear HO_8; clear HB; have HO_8 := n0_; have HB := n1_; have BK584 := n2_; have GW584 := n3_; have GE584 := n4_; clear n0_ n1_ n2_ n3_ n4_; clear hb hbox hg; have hcz17_0 : w16.cell? ⟨gb584, 0, none⟩ = some (.int .i64 0) := (blk_cell BK584.out 0).trans rfl; have hcz17_1 : w16.cell? ⟨gb584, 1, none⟩ = some (.string (⟨#[]⟩ : ByteArray)) := (blk_cell BK584.out 1).trans rfl; have hfz17_0 := blk_frozen BK584.out 0; have hfz17_1 := blk_frozen BK584.out 1; obtain ⟨Ao18, co18, eo18⟩ := Kd.R_slice HO_8.out; subst eo18; have p585 : 0 ≤ (((rd_T62 l2 x24_1).f0) : Int) := of_decide_eq_true (by first | (with_reducible assumption) | assumption); have q585 : ((rd_T62 l2 x24_1).f0) < (t579.length : Int) := of_decide_eq_true (by first | (with_reducible assumption) | assumption); obtain ⟨ad585, e585, hx585_0⟩ := Kd.at_string (Kd.R_reads' HO_8.out).2.2 ((rd_T62 l2 x24_1).f0) p585 q585; cases e585; have hn585_0 : ad585.block ≠ gb584 := Kd.own_blk (Kd.R_ne HO_8.out BK584.out (by decide)); have hn585_1 : ad585.block ≠ gb584 := Kd.own_blk (Kd.R_ne HO_8.out BK584.out (by decide)); replace hx585_0 := (cell_far (p := ⟨gb584, 0, none⟩) (by first | (rw [add_block]; exact hn585_0) | (show (Addr.add _ _).block ≠ _; rw [add_block]; exact hn585_0) | exact hn585_0) (.int .i64 ((rd_T62 l2 x24_1).f0))).trans hx585_0; replace hx585_0 := (cell_far (p := ⟨gb584, 1, none⟩) (by first | (rw [add_block]; exact hn585_1) | (show (Addr.add _ _).block ≠ _; rw [add_block]; exact hn585_1) | exact hn585_1) (.string ((rd_T62 l2 x24_1).f1))).trans hx585_0; (try have hy585_0 := fun (n_ : Nat) => (show ((((w16.drewN n_).setCell ⟨gb584, 0, none⟩ (.int .i64 ((rd_T62 l2 x24_1).f0))).setCell ⟨gb584, 1, none⟩ (.string ((rd_T62 l2 x24_1).f1)))).cell? _ = some _ from hx585_0)); clear hn585_0; clear hn585_1; replace p585 := eq_true p585; replace q585 := eq_true q585))
          repeat (go_quiet (first | ((with_reducible refine gate_dst (N := 11) rfl ?_); refine box_event ?hg (N := 11) ?hd (cs := #[.int .i64 0, .string (⟨#[]⟩ : ByteArray)]) (t := 62) ?hr ?_; (case hd => rfl); (case hg => rfl); (case hr => first | (go_simp; done) | (go_simp; rfl)); intro gb584 hg w16 hbox hb; have n0_ := Aside0.mk (Kd.R_below (by (with_reducible repeat (first | apply Kd.R_alloc | apply Kd.R_drewN | apply Kd.R_drew)); exact HO_8.out) hb); have n1_ := Aside0.mk (below_step (by repeat (first | (with_reducible first | exact HB.out | apply below_alloc | apply pw_below_drewN | apply below_drew1) | exact HB.out)) hb); have n2_ := Aside0.mk (hbox); have n3_ := Aside0.mk ((by rw [hg]; exact (below_size (by repeat (first | (with_reducible first | exact HB.out | apply below_alloc | apply pw_below_drewN | apply below_drew1) | exact HB.out))) : w.heap.size ≤ gb584)); have n4_ := Aside0.mk ((by rw [hg]; exact (below_size (by repeat (first | (with_reducible first | exact HB.out | apply below_alloc | apply pw_below_drewN | apply below_drew1) | exact HB.out))) : w.heap.size ≤ gb584)); clear HO_8; clear HB; have HO_8 := n0_; have HB := n1_; have BK584 := n2_; have GW584 := n3_; have GE584 := n4_; clear n0_ n1_ n2_ n3_ n4_; clear hb hbox hg; have hcz17_0 : w16.cell? ⟨gb584, 0, none⟩ = some (.int .i64 0) := (blk_cell BK584.out 0).trans rfl; have hcz17_1 : w16.cell? ⟨gb584, 1, none⟩ = some (.string (⟨#[]⟩ : ByteArray)) := (blk_cell BK584.out 1).trans rfl; have hfz17_0 := blk_frozen BK584.out 0; have hfz17_1 := blk_frozen BK584.out 1; obtain ⟨Ao18, co18, eo18⟩ := Kd.R_slice HO_8.out; subst eo18; have p585 : 0 ≤ (((rd_T62 l2 x24_1).f0) : Int) := of_decide_eq_true (by first | (with_reducible assumption) | assumption); have q585 : ((rd_T62 l2 x24_1).f0) < (t579.length : Int) := of_decide_eq_true (by first | (with_reducible assumption) | assumption); obtain ⟨ad585, e585, hx585_0⟩ := Kd.at_string (Kd.R_reads' HO_8.out).2.2 ((rd_T62 l2 x24_1).f0) p585 q585; cases e585; have hn585_0 : ad585.block ≠ gb584 := Kd.own_blk (Kd.R_ne HO_8.out BK584.out (by decide)); have hn585_1 : ad585.block ≠ gb584 := Kd.own_blk (Kd.R_ne HO_8.out BK584.out (by decide)); replace hx585_0 := (cell_far (p := ⟨gb584, 0, none⟩) (by first | (rw [add_block]; exact hn585_0) | (show (Addr.add _ _).block ≠ _; rw [add_block]; exact hn585_0) | exact hn585_0) (.int .i64 ((rd_T62 l2 x24_1).f0))).trans hx585_0; replace hx585_0 := (cell_far (p := ⟨gb584, 1, none⟩) (by first | (rw [add_block]; exact hn585_1) | (show (Addr.add _ _).block ≠ _; rw [add_block]; exact hn585_1) | exact hn585_1) (.string ((rd_T62 l2 x24_1).f1))).trans hx585_0; (try have hy585_0 := fun (n_ : Nat) => (show ((((w16.drewN n_).setCell ⟨gb584, 0, none⟩ (.int .i64 ((rd_T62 l2 x24_1).f0))).setCell ⟨gb584, 1, none⟩ (.string ((rd_T62 l2 x24_1).f1)))).cell? _ = some _ from hx585_0)); clear hn585_0; clear hn585_1; replace p585 := eq_true p585; replace q585 := eq_true q585)); try go_wp2_with (first | ((with_reducible refine gate_dst (N := 11) rfl ?_); refine box_event ?hg (N := 11) ?hd (cs := #[.int .i64 0, .string (⟨#[]⟩ : ByteArray)]) (t := 62) ?hr ?_; (case hd => rfl); (case hg => rfl); (case hr => first | (go_simp; done) | (go_simp; rfl)); intro gb584 hg w16 hbox hb; have n0_ := Aside0.mk (Kd.R_below (by (with_reducible repeat (first | apply Kd.R_alloc | apply Kd.R_drewN | apply Kd.R_drew)); exact HO_8.out) hb); have n1_ := Aside0.mk (below_step (by repeat (first | (with_reducible first | exact HB.out | apply below_alloc | apply pw_below_drewN | apply below_drew1) | exact HB.out)) hb); have n2_ := Aside0.mk (hbox); have n3_ := Aside0.mk ((by rw [hg]; exact (below_size (by repeat (first | (with_reducible first | exact HB.out | apply below_alloc | apply pw_below_drewN | apply below_drew1) | exact HB.out))) : w.heap.size ≤ gb584)); have n4_ := Aside0.mk ((by rw [hg]; exact (below_size (by repeat (first | (with_reducible first | exact HB.out | apply below_alloc | apply pw_below_drewN | apply below_drew1) | exact HB.out))) : w.heap.size ≤ gb584)); clear HO_8; clear HB; have HO_8 := n0_; have HB := n1_; have BK584 := n2_; have GW584 := n3_; have GE584 := n4_; clear n0_ n1_ n2_ n3_ n4_; clear hb hbox hg; have hcz17_0 : w16.cell? ⟨gb584, 0, none⟩ = some (.int .i64 0) := (blk_cell BK584.out 0).trans rfl; have hcz17_1 : w16.cell? ⟨gb584, 1, none⟩ = some (.string (⟨#[]⟩ : ByteArray)) := (blk_cell BK584.out 1).trans rfl; have hfz17_0 := blk_frozen BK584.out 0; have hfz17_1 := blk_frozen BK584.out 1; obtain ⟨Ao18, co18, eo18⟩ := Kd.R_slice HO_8.out; subst eo18; have p585 : 0 ≤ (((rd_T62 l2 x24_1).f0) : Int) := of_decide_eq_true (by first | (with_reducible assumption) | assumption); have q585 : ((rd_T62 l2 x24_1).f0) < (t579.length : Int) := of_decide_eq_true (by first | (with_reducible assumption) | assumption); obtain ⟨ad585, e585, hx585_0⟩ := Kd.at_string (Kd.R_reads' HO_8.out).2.2 ((rd_T62 l2 x24_1).f0) p585 q585; cases e585; have hn585_0 : ad585.block ≠ gb584 := Kd.own_blk (Kd.R_ne HO_8.out BK584.out (by decide)); have hn585_1 : ad585.block ≠ gb584 := Kd.own_blk (Kd.R_ne HO_8.out BK584.out (by decide)); replace hx585_0 := (cell_far (p := ⟨gb584, 0, none⟩) (by first | (rw [add_block]; exact hn585_0) | (show (Addr.add _ _).block ≠ _; rw [add_block]; exact hn585_0) | exact hn585_0) (.int .i64 ((rd_T62 l2 x24_1).f0))).trans hx585_0; replace hx585_0 := (cell_far (p := ⟨gb584, 1, none⟩) (by first | (rw [add_block]; exact hn585_1) | (show (Addr.add _ _).block ≠ _; rw [add_block]; exact hn585_1) | exact hn585_1) (.string ((rd_T62 l2 x24_1).f1))).trans hx585_0; (try have hy585_0 := fun (n_ : Nat) => (show ((((w16.drewN n_).setCell ⟨gb584, 0, none⟩ (.int .i64 ((rd_T62 l2 x24_1).f0))).setCell ⟨gb584, 1, none⟩ (.string ((rd_T62 l2 x24_1).f1)))).cell? _ = some _ from hx585_0)); clear hn585_0; clear hn585_1; replace p585 := eq_true p585; replace q585 := eq_true q585)))
          go_ret2
          exact ⟨by first | rfl | (simp [errW_none, errW_some] <;> rfl) | (simp [*, errW_none, errW_some] <;> rfl), by repeat (first | (with_reducible first | exact HB.out | apply below_alloc | apply pw_below_drewN | apply below_drew1 | refine below_set ?_ GE584.out) | exact HB.out)⟩
        ·rw [if_neg c11] at H
         exact absurd H (by simp)
       ·rw [if_neg c10] at H
        exact absurd H (by simp)
      ·rw [if_neg c9] at H
       exact absurd H (by simp)
     ·rw [if_neg c8] at H
      exact absurd H (by simp)
    ·rw [if_neg c7] at H
     have c7b0 : decide (x24_1 < (l2.length : Int)) = false := decide_eq_false c7
     clear c7
     simp only [Option.some.injEq, Prod.mk.injEq] at H
     obtain ⟨rfl, rfl⟩ := H
     go_wp2
     repeat (go_quiet (fail); try go_wp2)
     go_ret2
     exact ⟨by first | rfl | (simp [errW_none, errW_some] <;> rfl) | (simp [*, errW_none, errW_some] <;> rfl), by repeat (first | (with_reducible first | exact HB.out | apply below_alloc | apply pw_below_drewN | apply below_drew1) | exact HB.out)⟩
 ·rw [if_neg c5] at H
  have c5b0 : (t580 == 0) = false := beq_eq_false_iff_ne.mpr c5
  have c5b1 : (t580 != 0) = true := bne_iff_ne.mpr c5
  simp only [Option.some.injEq, Prod.mk.injEq] at H
  obtain ⟨rfl, rfl⟩ := H
  go_enter Tryd.func45, Tryd.ntmps45
  go_wp2_with (first | (go_at_call 65; (with_reducible refine (mend_all.calls k a0 a1 _ _ l2 t579 t580 _ ?side1 ?side2 A4.out).mono ?_); (case side1 => repeat (first | exact HR2.out | (with_reducible refine Kd.C_alloc ?_ _) | (with_reducible refine Kd.C_drewN ?_ _) | (with_reducible refine Kd.C_drew ?_))); (case side2 => exact HC2.out); rintro e w19 ⟨v581, rfl, ho0, hb⟩; have n0_ := Aside0.mk (Kd.R_lower ho0 (below_size (by repeat (first | (with_reducible first | exact HB.out | apply below_alloc | apply pw_below_drewN | apply below_drew1) | exact HB.out)))); have n1_ := Aside0.mk (below_step (by repeat (first | (with_reducible first | exact HB.out | apply below_alloc | apply pw_below_drewN | apply below_drew1) | exact HB.out)) hb); clear HB; have HO582 := n0_; have HB := n1_; clear n0_ n1_; (try clear hb); (try clear hb2); (try clear hk); (try clear hi); (try clear ho0)))
  repeat (go_quiet (first | (go_at_call 65; (with_reducible refine (mend_all.calls k a0 a1 _ _ l2 t579 t580 _ ?side1 ?side2 A4.out).mono ?_); (case side1 => repeat (first | exact HR2.out | (with_reducible refine Kd.C_alloc ?_ _) | (with_reducible refine Kd.C_drewN ?_ _) | (with_reducible refine Kd.C_drew ?_))); (case side2 => exact HC2.out); rintro e w19 ⟨v581, rfl, ho0, hb⟩; have n0_ := Aside0.mk (Kd.R_lower ho0 (below_size (by repeat (first | (with_reducible first | exact HB.out | apply below_alloc | apply pw_below_drewN | apply below_drew1) | exact HB.out)))); have n1_ := Aside0.mk (below_step (by repeat (first | (with_reducible first | exact HB.out | apply below_alloc | apply pw_below_drewN | apply below_drew1) | exact HB.out)) hb); clear HB; have HO582 := n0_; have HB := n1_; clear n0_ n1_; (try clear hb); (try clear hb2); (try clear hk); (try clear hi); (try clear ho0))); try go_wp2_with (first | (go_at_call 65; (with_reducible refine (mend_all.calls k a0 a1 _ _ l2 t579 t580 _ ?side1 ?side2 A4.out).mono ?_); (case side1 => repeat (first | exact HR2.out | (with_reducible refine Kd.C_alloc ?_ _) | (with_reducible refine Kd.C_drewN ?_ _) | (with_reducible refine Kd.C_drew ?_))); (case side2 => exact HC2.out); rintro e w19 ⟨v581, rfl, ho0, hb⟩; have n0_ := Aside0.mk (Kd.R_lower ho0 (below_size (by repeat (first | (with_reducible first | exact HB.out | apply below_alloc | apply pw_below_drewN | apply below_drew1) | exact HB.out)))); have n1_ := Aside0.mk (below_step (by repeat (first | (with_reducible first | exact HB.out | apply below_alloc | apply pw_below_drewN | apply below_drew1) | exact HB.out)) hb); clear HB; have HO582 := n0_; have HB := n1_; clear n0_ n1_; (try clear hb); (try clear hb2); (try clear hk); (try clear hi); (try clear ho0))))
  go_ret2
  exact ⟨by first | rfl | (simp [errW_none, errW_some] <;> rfl) | (simp [*, errW_none, errW_some] <;> rfl), by repeat (first | (with_reducible first | exact HB.out | apply below_alloc | apply pw_below_drewN | apply below_drew1) | exact HB.out)⟩

end Go.Proofs.YtegmmefijihdeaaDoor.PS
namespace Go.Proofs.YtegmmefijihdeaaDoor.PS
open Go.RowKit Go.Proofs.YtegmmefijihdeaaDoorW.PrintWords Go.Proofs.YtegmmefijihdeaaDoorW.PrintLast Go.Proofs.YtegmmefijihdeaaDoorW.PrintMore Go.Proofs.YtegmmefijihdeaaDoor.Gf Go.Proofs.YtegmmefijihdeaaDoor.Fld Go.Proofs.YtegmmefijihdeaaDoor.Grd Go.Proofs.YtegmmefijihdeaaDoor.Rowb
set_option linter.unusedVariables false
set_option linter.unusedSimpArgs false
def oneV (L : List ByteArray) (q : Int) : ByteArray × Int := if q < 0 then (⟨#[]⟩, 1) else if q ≥ (L.length : Int) then (⟨#[]⟩, 1) else (rdOf ByteArray.empty L q, 0)
def agGo (L : List ByteArray) (l : List S62) : Nat → Nat → Bool
  | 0, _ => true
  | d + 1, i => if (rdOf ByteArray.empty L (rd_T62 l (i : Int)).f0).toList = (rd_T62 l (i : Int)).f1.toList then agGo L l d (i + 1) else false
def agreeB (L : List ByteArray) (l : List S62) : Bool := agGo L l l.length 0
theorem oneV_eq (L : List ByteArray) (q : Int) : (if q < 0 then (some ((⟨#[]⟩ : ByteArray), (1 : Int))) else (if q ≥ (L.length : Int) then (some ((⟨#[]⟩ : ByteArray), 1)) else (if 0 ≤ q then (if q < (L.length : Int) then (some (rdOf ByteArray.empty L q, 0)) else (none)) else (none)))) = some (oneV L q) := by
  unfold oneV
  by_cases h1 : q < 0
  · rw [if_pos h1, if_pos h1]
  · rw [if_neg h1, if_neg h1]
    by_cases h2 : q ≥ (L.length : Int)
    · rw [if_pos h2, if_pos h2]
    · rw [if_neg h2, if_neg h2, if_pos (by omega), if_pos (by omega)]
section
variable {K M : Nat} {l : List S62} (g : Good K M l)
include g
theorem Good.one_f (q : Int) (n : Nat) (hn : 256 ≤ n) : mend_One.f n (K : Int) (M : Int) l q = some (oneV (allL K M (shardN l) (dataL K M l)) q) := by
  unfold mend_One.f
  rw [g.all_f n hn, Option.bind_some, if_pos rfl]
  exact oneV_eq _ q
theorem Good.agree_from (hl : l.length < 9223372036854775807) (d : Nat) : ∀ i, i + d = l.length → ∀ k, d + 1 ≤ k → mend_Agree.l0 k (allL K M (shardN l) (dataL K M l)) l (l.length : Int) (i : Int) = some (agGo (allL K M (shardN l) (dataL K M l)) l d i, 0) := by
  have hal : (allL K M (shardN l) (dataL K M l)).length = K + M := allL_len g.dataLen
  induction d with
  | zero =>
    intro i hi k hk
    obtain ⟨m, rfl, _⟩ := pred_of (K := 0) hk
    simp only [mend_Agree.l0]
    rw [if_neg (by omega)]
    rfl
  | succ d ih =>
    intro i hi k hk
    obtain ⟨m, rfl, hm⟩ := pred_of hk
    have hil : i < l.length := by omega
    have hr := g.rng i hil
    simp only [mend_Agree.l0]
    unfold agGo
    rw [rdT_nat l i hil, if_pos (by omega), if_pos (by omega), if_pos (by omega), if_pos hr.1, if_pos (by rw [hal]; push_cast; exact hr.2)]
    by_cases e : (rdOf ByteArray.empty (allL K M (shardN l) (dataL K M l)) l[i].f0).toList = l[i].f1.toList
    · rw [if_pos e, if_pos e, w64_in ((i : Int) + 1) (by omega) (by omega)]
      exact ih (i + 1) (by omega) m hm
    · rw [if_neg e, if_neg e]
theorem Good.agree_f (n : Nat) (hn : l.length + 256 ≤ n) (hl : l.length < 9223372036854775807) : mend_Agree.f n (K : Int) (M : Int) l = some (agreeB (allL K M (shardN l) (dataL K M l)) l, 0) := by
  unfold mend_Agree.f
  rw [g.all_f n (by omega), Option.bind_some, if_pos rfl]
  exact g.agree_from hl l.length 0 (by omega) n (by omega)
end
end Go.Proofs.YtegmmefijihdeaaDoor.PS
namespace Go.Proofs.YtegmmefijihdeaaDoor.PS
open Go.RowKit Go.Proofs.YtegmmefijihdeaaDoorW.PrintWords Go.Proofs.YtegmmefijihdeaaDoorW.PrintLast Go.Proofs.YtegmmefijihdeaaDoorW.PrintMore Go.Proofs.YtegmmefijihdeaaDoor.Gf Go.Proofs.YtegmmefijihdeaaDoor.Fld Go.Proofs.YtegmmefijihdeaaDoor.Grd Go.Proofs.YtegmmefijihdeaaDoor.Rowb
open Go.Lib (byteCells byteCells_length)
set_option linter.unusedVariables false
set_option linter.unusedSectionVars false
set_option linter.unusedSimpArgs false
def turned (o : ByteArray) (p : Nat) : ByteArray := txt (o.data.toList.set p (o.data.toList.getD p 0 ^^^ 1))
theorem turned_size (o : ByteArray) (p : Nat) : (turned o p).size = o.size := by
  unfold turned
  rw [txt_size, List.length_set, Array.length_toList]
  rfl
end Go.Proofs.YtegmmefijihdeaaDoor.PS
namespace Go.Proofs.YtegmmefijihdeaaDoor.PS
open Go.RowKit Go.Proofs.YtegmmefijihdeaaDoorW.PrintWords Go.Proofs.YtegmmefijihdeaaDoorW.PrintLast Go.Proofs.YtegmmefijihdeaaDoorW.PrintMore Go.Proofs.YtegmmefijihdeaaDoor.Gf Go.Proofs.YtegmmefijihdeaaDoor.Fld Go.Proofs.YtegmmefijihdeaaDoor.Grd Go.Proofs.YtegmmefijihdeaaDoor.Rowb
open Go.Lib (byteCells byteCells_length)
set_option linter.unusedVariables false
set_option linter.unusedSectionVars false
set_option linter.unusedSimpArgs false
/-- The first shards, numbered. -/
def numL (X : List ByteArray) (i : Nat) : List S62 := (List.range i).map fun j : Nat => (⟨(j : Int), rdOf ByteArray.empty X (j : Int)⟩ : S62)
theorem numL_len (X : List ByteArray) (i : Nat) : (numL X i).length = i := by simp [numL]
theorem numL_get (X : List ByteArray) (i j : Nat) (h : j < (numL X i).length) : (numL X i)[j] = (⟨(j : Int), rdOf ByteArray.empty X (j : Int)⟩ : S62) := by simp [numL]
theorem numL_succ (X : List ByteArray) (i : Nat) : numL X (i + 1) = numL X i ++ [(⟨(i : Int), rdOf ByteArray.empty X (i : Int)⟩ : S62)] := by
  unfold numL
  rw [List.range_succ, List.map_append]
  rfl
def chgL (X Y : List ByteArray) (K n : Nat) : List S62 := (numL X K).set n (⟨(n : Int), rdOf ByteArray.empty Y (n : Int)⟩ : S62)
theorem chgL_len (X Y : List ByteArray) (K n : Nat) : (chgL X Y K n).length = K := by simp [chgL, numL_len]
theorem chgL_get (X Y : List ByteArray) (K n j : Nat) (h : j < (chgL X Y K n).length) : (chgL X Y K n)[j] = (⟨(j : Int), if n = j then rdOf ByteArray.empty Y (j : Int) else rdOf ByteArray.empty X (j : Int)⟩ : S62) := by
  simp only [chgL, List.getElem_set]
  by_cases e : n = j
  · subst e
    rw [if_pos rfl, if_pos rfl]
  · rw [if_neg e, if_neg e, numL_get]
/-- Shards that are the first ones make themselves. -/
theorem self_one {K M : Nat} {l : List S62} (g : Good K M l) (hat : ∀ (j : Nat) (hj : j < l.length), l[j].f0 = (j : Int)) (i : Nat) (hi : i < K) (k : Nat) (hk : 256 ≤ k) : mend_One.f k (K : Int) (M : Int) l (i : Int) = some ((l[i]'(by have := g.len; omega)).f1, 0) := by
  have hlen := g.len
  have hs : ∀ s, s ∈ havS l K → s.size = shardN l := fun s hs => by
    have := even_of g.even.1 s hs
    rw [g.even.2] at this
    exact this
  have hd := g.recover (havS l K) g.havLen hs (fun j hj => by
    rw [hat j (by omega), Int.toNat_natCast, accC_unit K (shardN l) (havS l K) g.havLen hs j hj, g.havAt])
  rw [g.one_f (i : Int) k hk, hd]
  have hil : i < (allL K M (shardN l) (havS l K)).length := by rw [allL_len g.havLen]; omega
  unfold oneV
  rw [if_neg (by omega), if_neg (by omega), rdOf_nat _ i hil, allL_at g.havLen hs i (by omega), accC_unit K (shardN l) (havS l K) g.havLen hs i hi, g.havAt]
theorem rd_enc {K M : Nat} {o : ByteArray} (h1 : 1 ≤ K) (j : Nat) (hj : j < K + M) : (rdOf ByteArray.empty (encL K M o) (j : Int)).size = sizeN K o.size := by
  rw [rdOf_nat _ j (by rw [encL_len]; exact hj)]
  exact encL_size K M o h1 _ (List.getElem_mem _)
section
variable {K M n : Nat} {o o2 : ByteArray} (h1 : 1 ≤ K) (h2 : K + M ≤ 255) (ho : o.size ≤ 2048) (h3 : o2.size = o.size)
include h1 h2 ho h3
theorem chg_size (j : Nat) (h : j < (chgL (encL K M o) (encL K M o2) K n).length) : (chgL (encL K M o) (encL K M o2) K n)[j].f1.size = sizeN K o.size := by
  rw [chgL_get]
  have hj : j < K := by rw [chgL_len] at h; exact h
  show (if n = j then _ else _ : ByteArray).size = _
  by_cases e : n = j
  · rw [if_pos e, rd_enc h1 j (by omega), h3]
  · rw [if_neg e, rd_enc h1 j (by omega)]
theorem chg_good : Good K M (chgL (encL K M o) (encL K M o2) K n) ∧ shardN (chgL (encL K M o) (encL K M o2) K n) = sizeN K o.size := by
  have hl := chgL_len (encL K M o) (encL K M o2) K n
  have h0 : shardN (chgL (encL K M o) (encL K M o2) K n) = sizeN K o.size := by
    unfold shardN
    have : rd_T62 (chgL (encL K M o) (encL K M o2) K n) 0 = (chgL (encL K M o) (encL K M o2) K n)[0]'(by omega) := rdT_nat _ 0 (by omega)
    rw [this]
    exact chg_size h1 h2 ho h3 0 (by omega)
  refine ⟨⟨h1, h2, by omega, fun i h => ?_, fun j i hj h => ?_, fun i h => ?_, ?_⟩, h0⟩
  · rw [chgL_get]
    show 0 ≤ (i : Int) ∧ (i : Int) < _
    omega
  · rw [chgL_get, chgL_get]
    show (j : Int) ≠ (i : Int)
    omega
  · rw [chg_size h1 h2 ho h3 i h]
    exact h0.symm
  · have := sizeN_small K o.size h1 (by omega) ho
    unfold shardN at h0
    omega
theorem chg_one (i : Nat) (hi : i < K) (k : Nat) (hk : 256 ≤ k) : mend_One.f k (K : Int) (M : Int) (chgL (encL K M o) (encL K M o2) K n) (i : Int) = some (((chgL (encL K M o) (encL K M o2) K n)[i]'(by rw [chgL_len]; exact hi)).f1, 0) := by
  obtain ⟨g, hn⟩ := chg_good (n := n) h1 h2 ho h3
  exact self_one g (fun j hj => by rw [chgL_get]) i hi k hk
end
theorem set_read {W : World} {g : Nat} {cur : Array Value} {ty : TypeId} (hb : W.heap[g]? = some (.cells cur ty (0, 0))) (i q : Nat) (v u : Value) (hq : W.cell? ⟨g, q, none⟩ = some u) : (W.setCell ⟨g, i, none⟩ v).cell? ⟨g, q, none⟩ = some (if i = q then v else u) := by
  have h1 := blk_cell (blk_put hb i v rfl) q
  have h2 := blk_cell hb q
  rw [hq] at h2
  rw [h1, Array.getElem?_setIfInBounds]
  by_cases e : i = q
  · have hs : q < cur.size := (Array.getElem?_eq_some_iff.1 h2.symm).1
    rw [if_pos e, if_pos e, if_pos (by omega)]
  · rw [if_neg e, if_neg e, ← h2]
/-- What a row of shards reads as, behind a store into one. -/
theorem shards_put {W : World} {base g cap K : Nat} {l : List S62} (h : Kd.R k62 62 W base (fun _ => True) (.slice (some ⟨g, 0, none⟩) K cap) l) (n : Nat) (hn : n < l.length) (s : ByteArray) :
    W.cell? ⟨g, n * 2 + 1, none⟩ = some (.string l[n].f1) ∧ W.frozen? ⟨g, n * 2 + 1, none⟩ = false ∧ base ≤ g ∧ Kd.C k62 (W.setCell ⟨g, n * 2 + 1, none⟩ (.string s)) (some ⟨g, 0, none⟩) l.length (l.set n ⟨l[n].f0, s⟩) := by
  obtain ⟨_, _, hC⟩ := Kd.R_reads' h
  obtain ⟨g', cap', hv, hbg, _, cur, hblk⟩ := Kd.R_form h (by omega)
  have hgg : g = g' := by injection hv with hv; injection hv with hv; injection hv
  subst hgg
  have e1 : ∀ i : Nat, (⟨g, 0, none⟩ : Addr).add i = ⟨g, i, none⟩ := fun i => by unfold Addr.add; split <;> simp_all
  have hcs : ∀ j (hj : j < l.length), W.cell? ⟨g, j * 2, none⟩ = some (.int .i64 l[j].f0) ∧ W.cell? ⟨g, j * 2 + 1, none⟩ = some (.string l[j].f1) := fun j hj => by
    obtain ⟨ad, hA, c0, c1⟩ := at_T62 hC (j : Int) (by omega) (by omega)
    obtain rfl : (⟨g, 0, none⟩ : Addr) = ad := by injection hA
    rw [rdT_nat l j hj, Int.toNat_natCast] at c0 c1
    rw [e1] at c0 c1
    exact ⟨c0, c1⟩
  refine ⟨(hcs n hn).2, blk_frozen hblk _, hbg, by rw [List.length_set], hC.2.1, fun h0 => ⟨⟨g, 0, none⟩, rfl, fun j p hj => ?_⟩⟩
  have hjl : j < l.length := by
    have := (List.getElem?_eq_some_iff.1 hj).1
    rwa [List.length_set] at this
  obtain ⟨c0, c1⟩ := hcs j hjl
  have d0 := set_read hblk (n * 2 + 1) (j * 2) (.string s) _ c0
  have d1 := set_read hblk (n * 2 + 1) (j * 2 + 1) (.string s) _ c1
  rw [if_neg (by omega)] at d0
  refine ⟨[.int .i64 p.f0, .string p.f1], rfl, k62_mk _ p, fun i u hu => ?_⟩
  rw [e1]
  have hp : p = if n = j then ⟨l[n].f0, s⟩ else l[j] := by
    rw [List.getElem?_eq_getElem (by rw [List.length_set]; exact hjl), List.getElem_set] at hj
    exact (Option.some.inj hj).symm
  have hi : i = 0 ∨ i = 1 := by
    have := (List.getElem?_eq_some_iff.1 hu).1
    simp at this
    omega
  by_cases e : n = j
  · subst e
    rw [if_pos rfl] at d1 hp
    subst hp
    rcases hi with rfl | rfl
    · simp at hu
      subst hu
      exact d0
    · simp at hu
      subst hu
      exact d1
  · rw [if_neg (by omega)] at d1
    rw [if_neg e] at hp
    subst hp
    rcases hi with rfl | rfl
    · simp at hu
      subst hu
      exact d0
    · simp at hu
      subst hu
      exact d1
end Go.Proofs.YtegmmefijihdeaaDoor.PS
