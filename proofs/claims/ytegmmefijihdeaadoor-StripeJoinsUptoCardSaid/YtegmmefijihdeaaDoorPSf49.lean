-- WRITTEN BY A PROGRAM (mk.py of this session, over the kit's print.py, some functions given by hand). Lean checks it.
import Derived.Test.YtegmmefijihdeaaDoorPS0
import Derived.Test.YtegmmefijihdeaaDoorPSf16
namespace Go.Proofs.YtegmmefijihdeaaDoor.PS
open Go.RowKit Go.Proofs.YtegmmefijihdeaaDoorW.PrintWords Go.Proofs.YtegmmefijihdeaaDoorW.PrintLast Go.Proofs.YtegmmefijihdeaaDoorW.PrintMore
attribute [local go_sem] Mk.str_leq Mk.str_gtr Mk.str_geq max2_int min2_int max_two min_two max_three min_three max_four min_four   -- for this text's walks alone
set_option linter.unusedVariables false
set_option linter.unusedSimpArgs false

/-! ### corncribref03_Plain: function 49 -/
def corncribref03_Plain.l0 : Nat → ByteArray → List Int → Int → Option (ByteArray)
 | 0, _, _, _ => none
 | k + 1, x1, x7, x8 => if x8 < (x1.size : Int) then (if 0 ≤ x8 then (if 0 ≤ (wrap64 (4 + x8)) then (if (wrap64 (4 + x8)) < (x7.length : Int) then (corncribref03_Plain.l0 k x1 (x7.set ((wrap64 (4 + x8)) : Int).toNat (bt x1 x8)) (wrap64 (x8 + 1))) else (none)) else (none)) else (none)) else (some (strOfNums x7))
def corncribref03_Plain.f (k : Nat) (a0 : Int) (a1 : ByteArray) : Option (ByteArray) := (corncribref03_Size.f a0 (a1.size : Int)).bind fun bt103 => (if 0 ≤ (wrap64 (bt103.1 * a0)) then (if (wrap64 (bt103.1 * a0) : Int).toNat ≤ 281474976710656 then ((some (List.replicate (wrap64 (bt103.1 * a0) : Int).toNat 0 : List Int)).bind fun y105 => (if 0 < (y105.length : Int) then (if 1 < (y105.length : Int) then (if 2 < (y105.length : Int) then (if 3 < (y105.length : Int) then (corncribref03_Plain.l0 k a1 ((((y105.set (0 : Int).toNat (((a1.size : Int) / 16777216) % 256)).set (1 : Int).toNat (((a1.size : Int) / 65536) % 256)).set (2 : Int).toNat (((a1.size : Int) / 256) % 256)).set (3 : Int).toNat (((a1.size : Int)) % 256)) 0) else (none)) else (none)) else (none)) else (none))) else (none)) else (none))
theorem corncribref03_Plain.mono_l : ∀ k, (∀ y0 y1 y2, LeO (corncribref03_Plain.l0 k y0 y1 y2) (corncribref03_Plain.l0 (k + 1) y0 y1 y2))
 | 0 => fun _ _ _ r h => by simp [corncribref03_Plain.l0] at h
 | k + 1 => by
  have ih0 := corncribref03_Plain.mono_l k
  ·intro y0 y1 y2
   unfold corncribref03_Plain.l0
   repeat' first
   | (with_reducible exact ih0 _ _ _)
   | (with_reducible exact LeO.refl _)
   | (with_reducible exact LeO.none _)
   | (with_reducible refine LeO.ite ?_ ?_)
   | (with_reducible refine LeO.bind ?_ (fun _ => ?_))
   | exact ih0 _ _ _
   | exact LeO.none _
   | refine LeO.ite ?_ ?_
   | refine LeO.bind ?_ (fun _ => ?_)
theorem corncribref03_Plain.mono : ∀ a0 a1 k, LeO (corncribref03_Plain.f k a0 a1) (corncribref03_Plain.f (k + 1) a0 a1) := by
 intro a0 a1 k
 have ih0 := corncribref03_Plain.mono_l k
 unfold corncribref03_Plain.f
 repeat' first
   | (with_reducible exact ih0 _ _ _)
   | (with_reducible exact LeO.refl _)
   | (with_reducible exact LeO.none _)
   | (with_reducible refine LeO.ite ?_ ?_)
   | (with_reducible refine LeO.bind ?_ (fun _ => ?_))
   | exact ih0 _ _ _
   | exact LeO.none _
   | refine LeO.ite ?_ ?_
   | refine LeO.bind ?_ (fun _ => ?_)
set_option maxHeartbeats 8000000 in
set_option maxRecDepth 100000 in
theorem corncribref03_Plain.calls (k : Nat) (a0 : Int) (a1 : ByteArray) (r : ByteArray) (w : World) (h : corncribref03_Plain.f k a0 a1 = some r) :
  Calls Tryd.prog 49 #[.int .i64 a0, .string a1] w fun e w' => e = .returned (.string r) ∧ Below w.heap.size w w' := by
 have HB := Aside0.mk (Below.refl w.heap.size w)
 have H : ((corncribref03_Size.f a0 (a1.size : Int)).bind fun bt103 => (if 0 ≤ (wrap64 (bt103.1 * a0)) then (if (wrap64 (bt103.1 * a0) : Int).toNat ≤ 281474976710656 then ((some (List.replicate (wrap64 (bt103.1 * a0) : Int).toNat 0 : List Int)).bind fun y105 => (if 0 < (y105.length : Int) then (if 1 < (y105.length : Int) then (if 2 < (y105.length : Int) then (if 3 < (y105.length : Int) then (corncribref03_Plain.l0 k a1 ((((y105.set (0 : Int).toNat (((a1.size : Int) / 16777216) % 256)).set (1 : Int).toNat (((a1.size : Int) / 65536) % 256)).set (2 : Int).toNat (((a1.size : Int) / 256) % 256)).set (3 : Int).toNat (((a1.size : Int)) % 256)) 0) else (none)) else (none)) else (none)) else (none))) else (none)) else (none))) = some r := h
 clear h
 replace H := Option.bind_eq_some_iff.mp H
 obtain ⟨⟨t103, t104⟩, A30, H⟩ := H
 replace H : (if 0 ≤ (wrap64 (t103 * a0)) then (if (wrap64 (t103 * a0) : Int).toNat ≤ 281474976710656 then ((some (List.replicate (wrap64 (t103 * a0) : Int).toNat 0 : List Int)).bind fun y105 => (if 0 < (y105.length : Int) then (if 1 < (y105.length : Int) then (if 2 < (y105.length : Int) then (if 3 < (y105.length : Int) then (corncribref03_Plain.l0 k a1 ((((y105.set (0 : Int).toNat (((a1.size : Int) / 16777216) % 256)).set (1 : Int).toNat (((a1.size : Int) / 65536) % 256)).set (2 : Int).toNat (((a1.size : Int) / 256) % 256)).set (3 : Int).toNat (((a1.size : Int)) % 256)) 0) else (none)) else (none)) else (none)) else (none))) else (none)) else (none)) = some r := H
 have A3 := Aside0.mk A30
 clear A30
 obtain ⟨ji4, hji4⟩ : ∃ j_ : Int, (wrap64 (t103 * a0)) = j_ := ⟨_, rfl⟩
 replace H : (if 0 ≤ (ji4) then (if (ji4 : Int).toNat ≤ 281474976710656 then ((some (List.replicate (ji4 : Int).toNat 0 : List Int)).bind fun y105 => (if 0 < (y105.length : Int) then (if 1 < (y105.length : Int) then (if 2 < (y105.length : Int) then (if 3 < (y105.length : Int) then (corncribref03_Plain.l0 k a1 ((((y105.set (0 : Int).toNat (((a1.size : Int) / 16777216) % 256)).set (1 : Int).toNat (((a1.size : Int) / 65536) % 256)).set (2 : Int).toNat (((a1.size : Int) / 256) % 256)).set (3 : Int).toNat (((a1.size : Int)) % 256)) 0) else (none)) else (none)) else (none)) else (none))) else (none)) else (none)) = some r := by first | (rw [hji4] at H; exact H) | (simp only [hji4] at H ⊢; exact H)
 (try rw [hji4] at A3)
 have hji4w : (IntKind.i64.wrap (t103 * a0)) = ji4 := (i64_w _).trans hji4
 by_cases c5 : 0 ≤ (ji4)
 ·rw [if_pos c5] at H
  have c5b0 := eq_true c5
  have c5b1 : decide (0 ≤ (ji4)) = true := decide_eq_true c5
  clear c5
  by_cases c6 : (ji4 : Int).toNat ≤ 281474976710656
  ·rw [if_pos c6] at H
   have c6b0 := eq_true c6
   have c6b1 : decide ((ji4 : Int).toNat ≤ 281474976710656) = true := decide_eq_true c6
   clear c6
   obtain ⟨y105, hy105⟩ : ∃ y_ : List Int, y_ = (List.replicate (ji4 : Int).toNat 0) := ⟨_, rfl⟩
   replace H : (if 0 < (y105.length : Int) then (if 1 < (y105.length : Int) then (if 2 < (y105.length : Int) then (if 3 < (y105.length : Int) then (corncribref03_Plain.l0 k a1 ((((y105.set (0 : Int).toNat (((a1.size : Int) / 16777216) % 256)).set (1 : Int).toNat (((a1.size : Int) / 65536) % 256)).set (2 : Int).toNat (((a1.size : Int) / 256) % 256)).set (3 : Int).toNat (((a1.size : Int)) % 256)) 0) else (none)) else (none)) else (none)) else (none)) = some r := by first | (rw [hy105]; with_reducible exact H) | (have H2_ := (Option.bind_some _ _).symm.trans H; rw [hy105]; with_reducible exact H2_) | (have H2_ := (Option.bind_some _ _).symm.trans H; with_reducible exact H2_) | with_reducible exact H | (rw [hy105]; exact H) | exact H
   have Ny105 := Aside0.mk hy105
   clear hy105
   by_cases c7 : 0 < (y105.length : Int)
   ·rw [if_pos c7] at H
    have c7b0 : decide (0 < (y105.length : Int)) = true := decide_eq_true c7
    have c7b1 : decide (0 < y105.length) = true := decide_eq_true (by omega)
    clear c7
    obtain ⟨y108, hy108⟩ : ∃ y_ : List Int, y_ = (y105.set (0 : Int).toNat (((a1.size : Int) / 16777216) % 256)) := ⟨_, rfl⟩
    replace H : (if 1 < (y105.length : Int) then (if 2 < (y105.length : Int) then (if 3 < (y105.length : Int) then (corncribref03_Plain.l0 k a1 (((y108.set (1 : Int).toNat (((a1.size : Int) / 65536) % 256)).set (2 : Int).toNat (((a1.size : Int) / 256) % 256)).set (3 : Int).toNat (((a1.size : Int)) % 256)) 0) else (none)) else (none)) else (none)) = some r := by first | (rw [hy108]; with_reducible exact H) | (have H2_ := (Option.bind_some _ _).symm.trans H; rw [hy108]; with_reducible exact H2_) | (have H2_ := (Option.bind_some _ _).symm.trans H; with_reducible exact H2_) | with_reducible exact H | (rw [hy108]; exact H) | exact H
    have Ny108 := Aside0.mk hy108
    clear hy108
    by_cases c9 : 1 < (y105.length : Int)
    ·rw [if_pos c9] at H
     have c9b0 : decide (1 < (y105.length : Int)) = true := decide_eq_true c9
     have c9b1 : decide (1 < y105.length) = true := decide_eq_true (by omega)
     clear c9
     obtain ⟨y109, hy109⟩ : ∃ y_ : List Int, y_ = (y108.set (1 : Int).toNat (((a1.size : Int) / 65536) % 256)) := ⟨_, rfl⟩
     replace H : (if 2 < (y105.length : Int) then (if 3 < (y105.length : Int) then (corncribref03_Plain.l0 k a1 ((y109.set (2 : Int).toNat (((a1.size : Int) / 256) % 256)).set (3 : Int).toNat (((a1.size : Int)) % 256)) 0) else (none)) else (none)) = some r := by first | (rw [hy109]; with_reducible exact H) | (have H2_ := (Option.bind_some _ _).symm.trans H; rw [hy109]; with_reducible exact H2_) | (have H2_ := (Option.bind_some _ _).symm.trans H; with_reducible exact H2_) | with_reducible exact H | (rw [hy109]; exact H) | exact H
     have Ny109 := Aside0.mk hy109
     clear hy109
     by_cases c11 : 2 < (y105.length : Int)
     ·rw [if_pos c11] at H
      have c11b0 : decide (2 < (y105.length : Int)) = true := decide_eq_true c11
      have c11b1 : decide (2 < y105.length) = true := decide_eq_true (by omega)
      clear c11
      obtain ⟨y110, hy110⟩ : ∃ y_ : List Int, y_ = (y109.set (2 : Int).toNat (((a1.size : Int) / 256) % 256)) := ⟨_, rfl⟩
      replace H : (if 3 < (y105.length : Int) then (corncribref03_Plain.l0 k a1 (y110.set (3 : Int).toNat (((a1.size : Int)) % 256)) 0) else (none)) = some r := by first | (rw [hy110]; with_reducible exact H) | (have H2_ := (Option.bind_some _ _).symm.trans H; rw [hy110]; with_reducible exact H2_) | (have H2_ := (Option.bind_some _ _).symm.trans H; with_reducible exact H2_) | with_reducible exact H | (rw [hy110]; exact H) | exact H
      have Ny110 := Aside0.mk hy110
      clear hy110
      by_cases c13 : 3 < (y105.length : Int)
      ·rw [if_pos c13] at H
       have c13b0 : decide (3 < (y105.length : Int)) = true := decide_eq_true c13
       have c13b1 : decide (3 < y105.length) = true := decide_eq_true (by omega)
       clear c13
       obtain ⟨y111, hy111⟩ : ∃ y_ : List Int, y_ = (y110.set (3 : Int).toNat (((a1.size : Int)) % 256)) := ⟨_, rfl⟩
       replace H : (corncribref03_Plain.l0 k a1 y111 0) = some r := by first | (rw [hy111]; with_reducible exact H) | (have H2_ := (Option.bind_some _ _).symm.trans H; rw [hy111]; with_reducible exact H2_) | (have H2_ := (Option.bind_some _ _).symm.trans H; with_reducible exact H2_) | with_reducible exact H | (rw [hy111]; exact H) | exact H
       have Ny111 := Aside0.mk hy111
       clear hy111
       have H' := Aside0.mk H
       clear H
       go_enter Tryd.func49, Tryd.ntmps49
       go_wp2_with (first | ((with_reducible refine gate_callee (f := 16) rfl ?_); refine goesL_ (some 13) rfl rfl Tryd.func16 (by kernel_rfl) rfl #[.int .i64 a0, .int .i64 (a1.size : Int)] rfl (by (try simp only [List.map_toArray, List.map_cons, List.map_nil]); first | done | rfl | (simp only [List.length_drop, List.length_take]; rfl)) ?_; (with_reducible refine (corncribref03_Size.calls a0 (a1.size : Int) t103 t104 _ A3.out).mono ?_); rintro e w' ⟨rfl, ⟨nd, rfl⟩⟩; refine ⟨_, rfl, ?_⟩) | ((with_reducible refine gate_dst (N := 19) rfl ?_); refine Kd.R_make (Kd.int .u8) _ 5 rfl (N := 19) rfl 60 _ _ rfl ji4 rfl rfl Tryd.underlying60 (.int .u8 0) 1 info5 rfl (by decide) (by omega) 0 (ok := fun _ => True) (okp := fun _ => True) rfl (fun _ hk => hk) trivial (of_decide_eq_true (by first | (with_reducible assumption) | assumption)) (Nat.le_trans (Nat.mul_le_mul_right _ (of_decide_eq_true (by first | (with_reducible assumption) | assumption) : ji4.toNat ≤ 281474976710656)) (by omega)) (Below.refl _ _) (Nat.le_refl _) ?_; intro v106 w15 ho16 hb hg_ hnew_; clear hg_ hnew_; (first | rw [← Ny105.out] at ho16 | (simp only [Int.reduceToNat] at ho16; rw [← Ny105.out] at ho16)); have n0_ := Aside0.mk (Kd.R_lower ho16 (below_size (by repeat (first | (with_reducible first | exact HB.out | apply below_alloc | apply pw_below_drewN | apply below_drew1) | exact HB.out)))); have n1_ := Aside0.mk (below_step (by repeat (first | (with_reducible first | exact HB.out | apply below_alloc | apply pw_below_drewN | apply below_drew1) | exact HB.out)) hb); clear HB; have HO107 := n0_; have HB := n1_; clear n0_ n1_; clear hb ho16; have p8 : 0 ≤ (0 : Int) := (by omega); have q8 : (0 : Int) < ((y105.length : Int) : Int) := of_decide_eq_true (by first | (with_reducible assumption) | assumption); have qi8 : (0 < y105.length) = True := eq_true (by omega); obtain ⟨go8, co8, eo8, gb8, gl8, cl8, HG8⟩ := Kd.R_form HO107.out (by omega); (first | cases eo8 | (injection eo8 with ea_ en_ ec_; (first | subst ea_ | (injection ea_ with ea_; subst ea_)); subst ec_; clear en_)); have GB8 := Aside0.mk gb8; have GG8 := Aside0.mk HG8; clear gb8 gl8 HG8; obtain ⟨hx8_0, hf8_0⟩ := Kd.R_celln 0 HO107.out (0 : Int) p8 q8; (try rw [show ((0 : Int)).toNat = 0 from rfl] at hx8_0); (try simp only [Nat.reduceMul, Nat.zero_mul, Nat.zero_add, Nat.reduceAdd] at hx8_0); (try rw [show ((0 : Int)).toNat = 0 from rfl] at hf8_0); (try simp only [Nat.reduceMul, Nat.zero_mul, Nat.zero_add, Nat.reduceAdd] at hf8_0); replace p8 := eq_true p8; replace q8 := eq_true q8; obtain ⟨hy17_, hz17_⟩ := Kd.R_celln 0 HO107.out (0 : Int) (by omega) (of_decide_eq_true (by first | (with_reducible assumption) | assumption)); (try simp only [Int.reduceToNat, Int.toNat_zero, Int.toNat_ofNat, Nat.reduceMul, Nat.zero_mul, Nat.zero_add] at hy17_ hz17_); (try rw [show ((0 : Int)).toNat = 0 from rfl] at hy17_); (try rw [show ((0 : Int)).toNat = 0 from rfl] at hz17_); have HP17 := Kd.R_putg HO107.out (0 : Int) (((a1.size : Int) / 16777216) % 256)) | ((with_reducible refine gate_store (t := 5) (p := 25) rfl ?_); refine store_event (t := 5) (p := 25) (v := ?vo_w18) (w1 := (w15.setCell ⟨go8, (0 : Int).toNat, none⟩ (.int .u8 (((a1.size : Int) / 16777216) % 256)))) ?hg ?ho ?hn ?hr ?_; (case ho => rfl); (case hg => rfl); (case hn => rfl); (case hr => first | (go_simp; done) | (go_simp; rfl)); intro w18 hw; have hg : w15.grownBy w18 (some go8) := (by rw [hw]; exact HP17.2); have hp_ : Kd.R (Kd.int .u8) 5 w18 w.heap.size (fun _ => True) (.slice (some ⟨go8, 0, none⟩) y105.length co8) y108 := (by rw [hw, Ny108.out]; exact HP17.1); clear HP17; have n0_ := Aside0.mk (hp_); have n1_ := Aside0.mk ((by rw [hw]; exact below_set (HB.out) GB8.out : Below w.heap.size w w18)); clear HO107; clear HB; have HO107 := n0_; have HB := n1_; clear n0_ n1_; clear hg hw hp_; have p10 : 0 ≤ (1 : Int) := (by omega); have q10 : (1 : Int) < ((y105.length : Int) : Int) := of_decide_eq_true (by first | (with_reducible assumption) | assumption); have qi10 : (1 < y105.length) = True := eq_true (by omega); obtain ⟨hx10_0, hf10_0⟩ := Kd.R_celln 0 HO107.out (1 : Int) p10 q10; (try rw [show ((1 : Int)).toNat = 1 from rfl] at hx10_0); (try simp only [Nat.reduceMul, Nat.zero_mul, Nat.zero_add, Nat.reduceAdd] at hx10_0); (try rw [show ((1 : Int)).toNat = 1 from rfl] at hf10_0); (try simp only [Nat.reduceMul, Nat.zero_mul, Nat.zero_add, Nat.reduceAdd] at hf10_0); replace p10 := eq_true p10; replace q10 := eq_true q10; obtain ⟨hy19_, hz19_⟩ := Kd.R_celln 0 HO107.out (1 : Int) (by omega) (of_decide_eq_true (by first | (with_reducible assumption) | assumption)); (try simp only [Int.reduceToNat, Int.toNat_zero, Int.toNat_ofNat, Nat.reduceMul, Nat.zero_mul, Nat.zero_add] at hy19_ hz19_); (try rw [show ((1 : Int)).toNat = 1 from rfl] at hy19_); (try rw [show ((1 : Int)).toNat = 1 from rfl] at hz19_); have HP19 := Kd.R_putg HO107.out (1 : Int) (((a1.size : Int) / 65536) % 256)) | ((with_reducible refine gate_store (t := 5) (p := 31) rfl ?_); refine store_event (t := 5) (p := 31) (v := ?vo_w20) (w1 := (w18.setCell ⟨go8, (1 : Int).toNat, none⟩ (.int .u8 (((a1.size : Int) / 65536) % 256)))) ?hg ?ho ?hn ?hr ?_; (case ho => rfl); (case hg => rfl); (case hn => rfl); (case hr => first | (go_simp; done) | (go_simp; rfl)); intro w20 hw; have hg : w18.grownBy w20 (some go8) := (by rw [hw]; exact HP19.2); have hp_ : Kd.R (Kd.int .u8) 5 w20 w.heap.size (fun _ => True) (.slice (some ⟨go8, 0, none⟩) y105.length co8) y109 := (by rw [hw, Ny109.out]; exact HP19.1); clear HP19; have n0_ := Aside0.mk (hp_); have n1_ := Aside0.mk ((by rw [hw]; exact below_set (HB.out) GB8.out : Below w.heap.size w w20)); clear HO107; clear HB; have HO107 := n0_; have HB := n1_; clear n0_ n1_; clear hg hw hp_; have p12 : 0 ≤ (2 : Int) := (by omega); have q12 : (2 : Int) < ((y105.length : Int) : Int) := of_decide_eq_true (by first | (with_reducible assumption) | assumption); have qi12 : (2 < y105.length) = True := eq_true (by omega); obtain ⟨hx12_0, hf12_0⟩ := Kd.R_celln 0 HO107.out (2 : Int) p12 q12; (try rw [show ((2 : Int)).toNat = 2 from rfl] at hx12_0); (try simp only [Nat.reduceMul, Nat.zero_mul, Nat.zero_add, Nat.reduceAdd] at hx12_0); (try rw [show ((2 : Int)).toNat = 2 from rfl] at hf12_0); (try simp only [Nat.reduceMul, Nat.zero_mul, Nat.zero_add, Nat.reduceAdd] at hf12_0); replace p12 := eq_true p12; replace q12 := eq_true q12; obtain ⟨hy21_, hz21_⟩ := Kd.R_celln 0 HO107.out (2 : Int) (by omega) (of_decide_eq_true (by first | (with_reducible assumption) | assumption)); (try simp only [Int.reduceToNat, Int.toNat_zero, Int.toNat_ofNat, Nat.reduceMul, Nat.zero_mul, Nat.zero_add] at hy21_ hz21_); (try rw [show ((2 : Int)).toNat = 2 from rfl] at hy21_); (try rw [show ((2 : Int)).toNat = 2 from rfl] at hz21_); have HP21 := Kd.R_putg HO107.out (2 : Int) (((a1.size : Int) / 256) % 256)) | ((with_reducible refine gate_store (t := 5) (p := 37) rfl ?_); refine store_event (t := 5) (p := 37) (v := ?vo_w22) (w1 := (w20.setCell ⟨go8, (2 : Int).toNat, none⟩ (.int .u8 (((a1.size : Int) / 256) % 256)))) ?hg ?ho ?hn ?hr ?_; (case ho => rfl); (case hg => rfl); (case hn => rfl); (case hr => first | (go_simp; done) | (go_simp; rfl)); intro w22 hw; have hg : w20.grownBy w22 (some go8) := (by rw [hw]; exact HP21.2); have hp_ : Kd.R (Kd.int .u8) 5 w22 w.heap.size (fun _ => True) (.slice (some ⟨go8, 0, none⟩) y105.length co8) y110 := (by rw [hw, Ny110.out]; exact HP21.1); clear HP21; have n0_ := Aside0.mk (hp_); have n1_ := Aside0.mk ((by rw [hw]; exact below_set (HB.out) GB8.out : Below w.heap.size w w22)); clear HO107; clear HB; have HO107 := n0_; have HB := n1_; clear n0_ n1_; clear hg hw hp_; have p14 : 0 ≤ (3 : Int) := (by omega); have q14 : (3 : Int) < ((y105.length : Int) : Int) := of_decide_eq_true (by first | (with_reducible assumption) | assumption); have qi14 : (3 < y105.length) = True := eq_true (by omega); obtain ⟨hx14_0, hf14_0⟩ := Kd.R_celln 0 HO107.out (3 : Int) p14 q14; (try rw [show ((3 : Int)).toNat = 3 from rfl] at hx14_0); (try simp only [Nat.reduceMul, Nat.zero_mul, Nat.zero_add, Nat.reduceAdd] at hx14_0); (try rw [show ((3 : Int)).toNat = 3 from rfl] at hf14_0); (try simp only [Nat.reduceMul, Nat.zero_mul, Nat.zero_add, Nat.reduceAdd] at hf14_0); replace p14 := eq_true p14; replace q14 := eq_true q14; obtain ⟨hy23_, hz23_⟩ := Kd.R_celln 0 HO107.out (3 : Int) (by omega) (of_decide_eq_true (by first | (with_reducible assumption) | assumption)); (try simp only [Int.reduceToNat, Int.toNat_zero, Int.toNat_ofNat, Nat.reduceMul, Nat.zero_mul, Nat.zero_add] at hy23_ hz23_); (try rw [show ((3 : Int)).toNat = 3 from rfl] at hy23_); (try rw [show ((3 : Int)).toNat = 3 from rfl] at hz23_); have HP23 := Kd.R_putg HO107.out (3 : Int) (((a1.size : Int)) % 256)) | ((with_reducible refine gate_store (t := 5) (p := 42) rfl ?_); refine store_event (t := 5) (p := 42) (v := ?vo_w24) (w1 := (w22.setCell ⟨go8, (3 : Int).toNat, none⟩ (.int .u8 (((a1.size : Int)) % 256)))) ?hg ?ho ?hn ?hr ?_; (case ho => rfl); (case hg => rfl); (case hn => rfl); (case hr => first | (go_simp; done) | (go_simp; rfl)); intro w24 hw; have hg : w22.grownBy w24 (some go8) := (by rw [hw]; exact HP23.2); have hp_ : Kd.R (Kd.int .u8) 5 w24 w.heap.size (fun _ => True) (.slice (some ⟨go8, 0, none⟩) y105.length co8) y111 := (by rw [hw, Ny111.out]; exact HP23.1); clear HP23; have n0_ := Aside0.mk (hp_); have n1_ := Aside0.mk ((by rw [hw]; exact below_set (HB.out) GB8.out : Below w.heap.size w w24)); clear HO107; clear HB; have HO107 := n0_; have HB := n1_; clear n0_ n1_; clear hg hw hp_))
       go_loopg [8] k (fun kq v8 w' => ∃ (x7_1 : List Int) (x8_1 : Int), v8 = .int .i64 x8_1 ∧ Aside0 (corncribref03_Plain.l0 kq a1 x7_1 x8_1 = some r) ∧ Aside0 (kq ≤ k) ∧ Aside0 (Kd.R (Kd.int .u8) 5 w' w.heap.size (fun _ => True) (.slice (some ⟨go8, 0, none⟩) y105.length co8) x7_1) ∧ Aside0 (Below w.heap.size w w'))
       case atStart => exact ⟨(y111), (0), (by first | rfl | (simp; done) | (simp [*]; done)), H', ⟨Nat.le_refl _⟩, ⟨by (with_reducible repeat (first | apply Kd.R_alloc | apply Kd.R_drewN | apply Kd.R_drew)); exact HO107.out⟩, ⟨by repeat (first | (with_reducible first | exact HB.out | apply below_alloc | apply pw_below_drewN | apply below_drew1) | exact HB.out)⟩⟩
       case round =>
        clear H'
        try clear c1
        try clear p1
        try clear q1
        try clear hx1
        try clear qi1
        try clear p2
        try clear c4
        try clear c5
        try clear c5b0
        try clear c5b1
        try clear c6
        try clear c6b0
        try clear c6b1
        try clear p6
        try clear c7
        try clear c7b0
        try clear c7b1
        try clear p8
        try clear q8
        try clear hx8
        try clear qi8
        try clear hf8
        try clear c9
        try clear c9b0
        try clear c9b1
        try clear p10
        try clear q10
        try clear hx10
        try clear qi10
        try clear hf10
        try clear c11
        try clear c11b0
        try clear c11b1
        try clear p12
        try clear q12
        try clear hx12
        try clear qi12
        try clear hf12
        try clear c13
        try clear c13b0
        try clear c13b1
        try clear p14
        try clear q14
        try clear hx14
        try clear qi14
        try clear hf14
        try clear c16
        try clear hx10_0
        try clear hx12_0
        try clear hx14_0
        try clear hx8_0
        try clear p10
        try clear p12
        try clear p14
        try clear p8
        try clear q10
        try clear q12
        try clear q14
        try clear q8
        obtain ⟨x7_1, x8_1, rfl, HA, HK1, HO_7, HB⟩ := hrel
        have hl7_1 := (Kd.R_reads' HO_7.out).1
        rw [hl7_1] at HO_7
        (try simp only [hl7_1])
        cases gk with
        | zero => exact absurd HA.out (by simp [corncribref03_Plain.l0])
        | succ k1 =>
         have H := HA.out
         clear HA
         simp only [corncribref03_Plain.l0] at H
         by_cases c25 : x8_1 < (a1.size : Int)
         ·rw [if_pos c25] at H
          have c25b0 : decide (x8_1 < (a1.size : Int)) = true := decide_eq_true c25
          clear c25
          by_cases c26 : 0 ≤ x8_1
          ·rw [if_pos c26] at H
           have c26b0 : decide (0 ≤ x8_1) = true := decide_eq_true c26
           clear c26
           obtain ⟨ji28, hji28⟩ : ∃ j_ : Int, (wrap64 (4 + x8_1)) = j_ := ⟨_, rfl⟩
           replace H : (if 0 ≤ (ji28) then (if (ji28) < (x7_1.length : Int) then (corncribref03_Plain.l0 k1 a1 (x7_1.set ((ji28) : Int).toNat (bt a1 x8_1)) (wrap64 (x8_1 + 1))) else (none)) else (none)) = some r := by first | (rw [hji28] at H; exact H) | (simp only [hji28] at H ⊢; exact H)
           have hji28w : (IntKind.i64.wrap (4 + x8_1)) = ji28 := (i64_w _).trans hji28
           by_cases c29 : 0 ≤ (ji28)
           ·rw [if_pos c29] at H
            have c29b0 : decide (0 ≤ (ji28)) = true := decide_eq_true c29
            clear c29
            by_cases c30 : (ji28) < (x7_1.length : Int)
            ·rw [if_pos c30] at H
             have c30b0 : decide ((ji28) < (x7_1.length : Int)) = true := decide_eq_true c30
             clear c30
             obtain ⟨y112, hy112⟩ : ∃ y_ : List Int, y_ = (x7_1.set ((ji28) : Int).toNat (bt a1 x8_1)) := ⟨_, rfl⟩
             replace H : (corncribref03_Plain.l0 k1 a1 y112 (wrap64 (x8_1 + 1))) = some r := by first | (rw [hy112]; with_reducible exact H) | (have H2_ := (Option.bind_some _ _).symm.trans H; rw [hy112]; with_reducible exact H2_) | (have H2_ := (Option.bind_some _ _).symm.trans H; with_reducible exact H2_) | with_reducible exact H | (rw [hy112]; exact H) | exact H
             have Ny112 := Aside0.mk hy112
             clear hy112
             have H' := Aside0.mk H
             clear H
             have p27 : 0 ≤ (x8_1 : Int) := of_decide_eq_true (by first | (with_reducible assumption) | assumption)
             have q27 : x8_1 < (a1.size : Int) := of_decide_eq_true (by first | (with_reducible assumption) | assumption)
             have hx27 := bt_at a1 x8_1
             replace p27 := eq_true p27
             replace q27 := eq_true q27
             have p31 : 0 ≤ ((ji28) : Int) := of_decide_eq_true (by first | (with_reducible assumption) | assumption)
             have q31 : ((ji28) : Int) < ((x7_1.length : Int) : Int) := of_decide_eq_true (by first | (with_reducible assumption) | assumption)
             obtain ⟨hx31_0, hf31_0⟩ := Kd.R_celln 0 HO_7.out ((ji28) : Int) p31 q31
             replace p31 := eq_true p31
             replace q31 := eq_true q31
             have HP32 := Kd.R_putg HO_7.out ((ji28) : Int) (bt a1 x8_1)
             go_wp2_with (first | ((with_reducible refine gate_store (t := 5) (p := 55) rfl ?_); refine store_event (t := 5) (p := 55) (v := ?vo_w33) (w1 := (wr.setCell ⟨go8, ((ji28) : Int).toNat, none⟩ (.int .u8 (bt a1 x8_1)))) ?hg ?ho ?hn ?hr ?_; (case ho => rfl); (case hg => rfl); (case hn => rfl); (case hr => first | (go_simp; done) | (go_simp; rfl)); intro w33 hw; have hg : wr.grownBy w33 (some go8) := (by rw [hw]; exact HP32.2); have hp_ : Kd.R (Kd.int .u8) 5 w33 w.heap.size (fun _ => True) (.slice (some ⟨go8, 0, none⟩) x7_1.length co8) y112 := (by rw [hw, Ny112.out]; exact HP32.1); clear HP32; have n0_ := Aside0.mk (hp_); have n1_ := Aside0.mk ((by rw [hw]; exact below_set (HB.out) GB8.out : Below w.heap.size w w33)); clear HO_7; clear HB; have HO_7 := n0_; have HB := n1_; clear n0_ n1_; clear hg hw hp_))
             (try simp only [← hl7_1])
             go_roundg k1
             case measure => have := HK1.out; omega
             case rel => exact ⟨(y112), (wrap64 (x8_1 + 1)), (by first | rfl | (simp; done) | (simp [*]; done)), H', ⟨by have := HK1.out; omega⟩, ⟨by (try simp only [hl7_1]); (with_reducible repeat (first | apply Kd.R_alloc | apply Kd.R_drewN | apply Kd.R_drew)); exact HO_7.out⟩, ⟨by repeat (first | (with_reducible first | exact HB.out | apply below_alloc | apply pw_below_drewN | apply below_drew1) | exact HB.out)⟩⟩
            ·rw [if_neg c30] at H
             exact absurd H (by simp)
           ·rw [if_neg c29] at H
            exact absurd H (by simp)
          ·rw [if_neg c26] at H
           exact absurd H (by simp)
         ·rw [if_neg c25] at H
          have c25b0 : decide (x8_1 < (a1.size : Int)) = false := decide_eq_false c25
          clear c25
          obtain rfl := Option.some.inj H
          have hcv34 := own_string (P := Tryd.prog) Tryd.underlying60 Tryd.underlying5 Tryd.underlying9 (Kd.own_of_R HO_7.out)
          go_wp2
          go_ret
          exact ⟨by first | rfl | (simp [errW_none, errW_some] <;> rfl) | (simp only [← hji4]; first | rfl | (simp [errW_none, errW_some] <;> rfl)) | (simp [*, errW_none, errW_some] <;> rfl), by repeat (first | (with_reducible first | exact HB.out | apply below_alloc | apply pw_below_drewN | apply below_drew1) | exact HB.out)⟩
      ·rw [if_neg c13] at H
       exact absurd H (by simp)
     ·rw [if_neg c11] at H
      exact absurd H (by simp)
    ·rw [if_neg c9] at H
     exact absurd H (by simp)
   ·rw [if_neg c7] at H
    exact absurd H (by simp)
  ·rw [if_neg c6] at H
   exact absurd H (by simp)
 ·rw [if_neg c5] at H
  exact absurd H (by simp)

end Go.Proofs.YtegmmefijihdeaaDoor.PS
