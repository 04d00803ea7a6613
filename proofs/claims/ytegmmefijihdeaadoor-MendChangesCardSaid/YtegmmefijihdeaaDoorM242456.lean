/- Texts of this proof, one behind the other (merged by a program of this session). -/
import Derived.Test.YtegmmefijihdeaaDoorM1ee7bc
import Derived.Test.YtegmmefijihdeaaDoorW
import Derived.Deep.Slices
import Derived.ChangeSame
import Derived.SizedLaws
import Derived.Test.YtegmmefijihdeaaDoorProg
import Derived.Maps.OwnSet
import Derived.Maps.RangeWalk
import Derived.Maps.Ext
import Derived.WalkKit
import Derived.WalkArith
namespace Go.Proofs.YtegmmefijihdeaaDoor.PS
open Go.RowKit Go.Proofs.YtegmmefijihdeaaDoorW.PrintWords Go.Proofs.YtegmmefijihdeaaDoorW.PrintLast Go.Proofs.YtegmmefijihdeaaDoorW.PrintMore
attribute [local go_sem] Mk.str_leq Mk.str_gtr Mk.str_geq max2_int min2_int max_two min_two max_three min_three max_four min_four   -- for this text's walks alone
set_option linter.unusedVariables false
set_option linter.unusedSimpArgs false

/-! ### corncribref03_Plain: function 49 -/
def corncribref03_Plain.l0 : Nat → ByteArray → List Int → Int → Option (ByteArray)
 | 0, _, _, _ => none
 | k + 1, x1, x7, x8 => if x8 < (x1.size : Int) then (if 0 ≤ x8 then (if 0 ≤ (wrap64 (4 + x8)) then (if (wrap64 (4 + x8)) < (x7.length : Int) then (corncribref03_Plain.l0 k x1 (x7.set ((wrap64 (4 + x8)) : Int).toNat (bt x1 x8)) (wrap64 (x8 + 1))) else (none)) else (none)) else (none)) else (some (strOfNums x7))
def corncribref03_Plain.f (k : Nat) (a0 : Int) (a1 : ByteArray) : Option (ByteArray) := (corncribref03_Size.f a0 (a1.size : Int)).bind fun bt103 => (if 0 ≤ (wrap64 (bt103.1 * a0)) then (if (wrap64 (bt103.1 * a0) : Int).toNat ≤ 281474976710656 then ((some (List.replicate (wrap64 (bt103.1 * a0) : Int).toNat 0 : List Int)).bind fun y105 => (if 0 < (y105.length : Int) then (if 1 < (y105.length : Int) then (if 2 < (y105.length : Int) then (if 3 < (y105.length : Int) then (corncribref03_Plain.l0 k a1 ((((y105.set (0 : Int).toNat (((a1.size : Int) / 16777216) % 256)).set (1 : Int).toNat (((a1.size : Int) / 65536) % 256)).set (2 : Int).toNat (((a1.size : Int) / 256) % 256)).set (3 : Int).toNat (((a1.size : Int)) % 256)) 0) else (none)) else (none)) else (none)) else (none))) else (none)) else (none))
theorem corncribref03_Plain.mono_l : ∀ k, (∀ y0 y1 y2, LeO (corncribref03_Plain.l0 k y0 y1 y2) (corncribref03_Plain.l0 (k + 1) y0 y1 y2))
 | 0 => fun _ _ _ r h => by simp [corncribref03_Plain.l0] at h
 | k + 1 => by
  have ih0 := corncribref03_Plain.mono_l k
  ·intro y0 y1 y2
   unfold corncribref03_Plain.l0
   repeat' first
   | (with_reducible exact ih0 _ _ _)
   | (with_reducible exact LeO.refl _)
   | (with_reducible exact LeO.none _)
   | (with_reducible refine LeO.ite ?_ ?_)
   | (with_reducible refine LeO.bind ?_ (fun _ => ?_))
   | exact ih0 _ _ _
   | exact LeO.none _
   | refine LeO.ite ?_ ?_
   | refine LeO.bind ?_ (fun _ => ?_)
theorem corncribref03_Plain.mono : ∀ a0 a1 k, LeO (corncribref03_Plain.f k a0 a1) (corncribref03_Plain.f (k + 1) a0 a1) := by
 intro a0 a1 k
 have ih0 := corncribref03_Plain.mono_l k
 unfold corncribref03_Plain.f
 repeat' first
   | (with_reducible exact ih0 _ _ _)
   | (with_reducible exact LeO.refl _)
   | (with_reducible exact LeO.none _)
   | (with_reducible refine LeO.ite ?_ ?_)
   | (with_reducible refine LeO.bind ?_ (fun _ => ?_))
   | exact ih0 _ _ _
   | exact LeO.none _
   | refine LeO.ite ?_ ?_
   | refine LeO.bind ?_ (fun _ => ?_)
set_option maxHeartbeats 8000000 in
set_option maxRecDepth 100000 in
theorem corncribref03_Plain.calls (k : Nat) (a0 : Int) (a1 : ByteArray) (r : ByteArray) (w : World) (h : corncribref03_Plain.f k a0 a1 = some r) :
  Calls Tryd.prog 49 #[.int .i64 a0, .string a1] w fun e w' => e = .returned (.string r) ∧ Below w.heap.size w w' := by
 have HB := Aside0.mk (Below.refl w.heap.size w)
 have H : ((corncribref03_Size.f a0 (a1.size : Int)).bind fun bt103 => (if 0 ≤ (wrap64 (bt103.1 * a0)) then (if (wrap64 (bt103.1 * a0) : Int).toNat ≤ 281474976710656 then ((some (List.replicate (wrap64 (bt103.1 * a0) : Int).toNat 0 : List Int)).bind fun y105 => (if 0 < (y105.length : Int) then (if 1 < (y105.length : Int) then (if 2 < (y105.length : Int) then (if 3 < (y105.length : Int) then (corncribref03_Plain.l0 k a1 ((((y105.set (0 : Int).toNat (((a1.size : Int) / 16777216) % 256)).set (1 : Int).toNat (((a1.size : Int) / 65536) % 256)).set (2 : Int).toNat (((a1.size : Int) / 256) % 256)).set (3 : Int).toNat (((a1.size : Int)) % 256)) 0) else (none)) else (none)) else (none)) else (none))) else (none)) else (none))) = some r := h
 clear h
 replace H := Option.bind_eq_some_iff.mp H
 obtain ⟨⟨t103, t104⟩, A30, H⟩ := H
 replace H : (if 0 ≤ (wrap64 (t103 * a0)) then (if (wrap64 (t103 * a0) : Int).toNat ≤ 281474976710656 then ((some (List.replicate (wrap64 (t103 * a0) : Int).toNat 0 : List Int)).bind fun y105 => (if 0 < (y105.length : Int) then (if 1 < (y105.length : Int) then (if 2 < (y105.length : Int) then (if 3 < (y105.length : Int) then (corncribref03_Plain.l0 k a1 ((((y105.set (0 : Int).toNat (((a1.size : Int) / 16777216) % 256)).set (1 : Int).toNat (((a1.size : Int) / 65536) % 256)).set (2 : Int).toNat (((a1.size : Int) / 256) % 256)).set (3 : Int).toNat (((a1.size : Int)) % 256)) 0) else (none)) else (none)) else (none)) else (none))) else (none)) else (none)) = some r := H
 have A3 := Aside0.mk A30
 clear A30
 obtain ⟨ji4, hji4⟩ : ∃ j_ : Int, (wrap64 (t103 * a0)) = j_ := ⟨_, rfl⟩
 replace H : (if 0 ≤ (ji4) then (if (ji4 : Int).toNat ≤ 281474976710656 then ((some (List.replicate (ji4 : Int).toNat 0 : List Int)).bind fun y105 => (if 0 < (y105.length : Int) then (if 1 < (y105.length : Int) then (if 2 < (y105.length : Int) then (if 3 < (y105.length : Int) then (corncribref03_Plain.l0 k a1 ((((y105.set (0 : Int).toNat (((a1.size : Int) / 16777216) % 256)).set (1 : Int).toNat (((a1.size : Int) / 65536) % 256)).set (2 : Int).toNat (((a1.size : Int) / 256) % 256)).set (3 : Int).toNat (((a1.size : Int)) % 256)) 0) else (none)) else (none)) else (none)) else (none))) else (none)) else (none)) = some r := by first | (rw [hji4] at H; exact H) | (simp only [hji4] at H ⊢; exact H)
 (try rw [hji4] at A3)
 have hji4w : (IntKind.i64.wrap (t103 * a0)) = ji4 := (i64_w _).trans hji4
 by_cases c5 : 0 ≤ (ji4)
 ·rw [if_pos c5] at H
  have c5b0 := eq_true c5
  have c5b1 : decide (0 ≤ (ji4)) = true := decide_eq_true c5
  clear c5
  by_cases c6 : (ji4 : Int).toNat ≤ 281474976710656
  ·rw [if_pos c6] at H
   have c6b0 := eq_true c6
   have c6b1 : decide ((ji4 : Int).toNat ≤ 281474976710656) = true := decide_eq_true c6
   clear c6
   obtain ⟨y105, hy105⟩ : ∃ y_ : List Int, y_ = (List.replicate (ji4 : Int).toNat 0) := ⟨_, rfl⟩
   replace H : (if 0 < (y105.length : Int) then (if 1 < (y105.length : Int) then (if 2 < (y105.length : Int) then (if 3 < (y105.length : Int) then (corncribref03_Plain.l0 k a1 ((((y105.set (0 : Int).toNat (((a1.size : Int) / 16777216) % 256)).set (1 : Int).toNat (((a1.size : Int) / 65536) % 256)).set (2 : Int).toNat (((a1.size : Int) / 256) % 256)).set (3 : Int).toNat (((a1.size : Int)) % 256)) 0) else (none)) else (none)) else (none)) else (none)) = some r := by first | (rw [hy105]; with_reducible exact H) | (have H2_ := (Option.bind_some _ _).symm.trans H; rw [hy105]; with_reducible exact H2_) | (have H2_ := (Option.bind_some _ _).symm.trans H; with_reducible exact H2_) | with_reducible exact H | (rw [hy105]; exact H) | exact H
   have Ny105 := Aside0.mk hy105
   clear hy105
   by_cases c7 : 0 < (y105.length : Int)
   ·rw [if_pos c7] at H
    have c7b0 : decide (0 < (y105.length : Int)) = true := decide_eq_true c7
    have c7b1 : decide (0 < y105.length) = true := decide_eq_true (by omega)
    clear c7
    obtain ⟨y108, hy108⟩ : ∃ y_ : List Int, y_ = (y105.set (0 : Int).toNat (((a1.size : Int) / 16777216) % 256)) := ⟨_, rfl⟩
    replace H : (if 1 < (y105.length : Int) then (if 2 < (y105.length : Int) then (if 3 < (y105.length : Int) then (corncribref03_Plain.l0 k a1 (((y108.set (1 : Int).toNat (((a1.size : Int) / 65536) % 256)).set (2 : Int).toNat (((a1.size : Int) / 256) % 256)).set (3 : Int).toNat (((a1.size : Int)) % 256)) 0) else (none)) else (none)) else (none)) = some r := by first | (rw [hy108]; with_reducible exact H) | (have H2_ := (Option.bind_some _ _).symm.trans H; rw [hy108]; with_reducible exact H2_) | (have H2_ := (Option.bind_some _ _).symm.trans H; with_reducible exact H2_) | with_reducible exact H | (rw [hy108]; exact H) | exact H
    have Ny108 := Aside0.mk hy108
    clear hy108
    by_cases c9 : 1 < (y105.length : Int)
    ·rw [if_pos c9] at H
     have c9b0 : decide (1 < (y105.length : Int)) = true := decide_eq_true c9
     have c9b1 : decide (1 < y105.length) = true := decide_eq_true (by omega)
     clear c9
     obtain ⟨y109, hy109⟩ : ∃ y_ : List Int, y_ = (y108.set (1 : Int).toNat (((a1.size : Int) / 65536) % 256)) := ⟨_, rfl⟩
     replace H : (if 2 < (y105.length : Int) then (if 3 < (y105.length : Int) then (corncribref03_Plain.l0 k a1 ((y109.set (2 : Int).toNat (((a1.size : Int) / 256) % 256)).set (3 : Int).toNat (((a1.size : Int)) % 256)) 0) else (none)) else (none)) = some r := by first | (rw [hy109]; with_reducible exact H) | (have H2_ := (Option.bind_some _ _).symm.trans H; rw [hy109]; with_reducible exact H2_) | (have H2_ := (Option.bind_some _ _).symm.trans H; with_reducible exact H2_) | with_reducible exact H | (rw [hy109]; exact H) | exact H
     have Ny109 := Aside0.mk hy109
     clear hy109
     by_cases c11 : 2 < (y105.length : Int)
     ·rw [if_pos c11] at H
      have c11b0 : decide (2 < (y105.length : Int)) = true := decide_eq_true c11
      have c11b1 : decide (2 < y105.length) = true := decide_eq_true (by omega)
      clear c11
      obtain ⟨y110, hy110⟩ : ∃ y_ : List Int, y_ = (y109.set (2 : Int).toNat (((a1.size : Int) / 256) % 256)) := ⟨_, rfl⟩
      replace H : (if 3 < (y105.length : Int) then (corncribref03_Plain.l0 k a1 (y110.set (3 : Int).toNat (((a1.size : Int)) % 256)) 0) else (none)) = some r := by first | (rw [hy110]; with_reducible exact H) | (have H2_ := (Option.bind_some _ _).symm.trans H; rw [hy110]; with_reducible exact H2_) | (have H2_ := (Option.bind_some _ _).symm.trans H; with_reducible exact H2_) | with_reducible exact H | (rw [hy110]; exact H) | exact H
      have Ny110 := Aside0.mk hy110
      clear hy110
      by_cases c13 : 3 < (y105.length : Int)
      ·rw [if_pos c13] at H
       have c13b0 : decide (3 < (y105.length : Int)) = true := decide_eq_true c13
       have c13b1 : decide (3 < y105.length) = true := decide_eq_true (by omega)
       clear c13
       obtain ⟨y111, hy111⟩ : ∃ y_ : List Int, y_ = (y110.set (3 : Int).toNat (((a1.size : Int)) % 256)) := ⟨_, rfl⟩
       replace H : (corncribref03_Plain.l0 k a1 y111 0) = some r := by first | (rw [hy111]; with_reducible exact H) | (have H2_ := (Option.bind_some _ _).symm.trans H; rw [hy111]; with_reducible exact H2_) | (have H2_ := (Option.bind_some _ _).symm.trans H; with_reducible exact H2_) | with_reducible exact H | (rw [hy111]; exact H) | exact H
       have Ny111 := Aside0.mk hy111
       clear hy111
       have H' := Aside0.mk H
       clear H
       go_enter Tryd.func49, Tryd.ntmps49
       go_wp2_with (first | ((with_reducible refine gate_callee (f := 16) rfl ?_); refine goesL_ (some 13) rfl rfl Tryd.func16 (by kernel_rfl) rfl #[.int .i64 a0, .int .i64 (a1.size : Int)] rfl (by (try simp only [List.map_toArray, List.map_cons, List.map_nil]); first | done | rfl | (simp only [List.length_drop, List.length_take]; rfl)) ?_; (with_reducible refine (corncribref03_Size.calls a0 (a1.size : Int) t103 t104 _ A3.out).mono ?_); rintro e w' ⟨rfl, ⟨nd, rfl⟩⟩; refine ⟨_, rfl, ?_⟩) | ((with_reducible refine gate_dst (N := 19) rfl ?_); refine Kd.R_make (Kd.int .u8) _ 5 rfl (N := 19) rfl 60 _ _ rfl ji4 rfl rfl Tryd.underlying60 (.int .u8 0) 1 info5 rfl (by decide) (by omega) 0 (ok := fun _ => True) (okp := fun _ => True) rfl (fun _ hk => hk) trivial (of_decide_eq_true (by first | (with_reducible assumption) | assumption)) (Nat.le_trans (Nat.mul_le_mul_right _ (of_decide_eq_true (by first | (with_reducible assumption) | assumption) : ji4.toNat ≤ 281474976710656)) (by omega)) (Below.refl _ _) (Nat.le_refl _) ?_; intro v106 w15 ho16 hb hg_ hnew_; clear hg_ hnew_; (first | rw [← Ny105.out] at ho16 | (simp only [Int.reduceToNat] at ho16; rw [← Ny105.out] at ho16)); have n0_ := Aside0.mk (Kd.R_lower ho16 (below_size (by repeat (first | (with_reducible first | exact HB.out | apply below_alloc | apply pw_below_drewN | apply below_drew1) | exact HB.out)))); have n1_ := Aside0.mk (below_step (by repeat (first | (with_reducible first | exact HB.out | apply below_alloc | apply pw_below_drewN | apply below_drew1) | exact HB.out)) hb); clear HB; have HO107 := n0_; have HB := n1_; clear n0_ n1_; clear hb ho16; have p8 : 0 ≤ (0 : Int) := (by omega); have q8 : (0 : Int) < ((y105.length : Int) : Int) := of_decide_eq_true (by first | (with_reducible assumption) | assumption); have qi8 : (0 < y105.length) = True := eq_true (by omega); obtain ⟨go8, co8, eo8, gb8, gl8, cl8, HG8⟩ := Kd.R_form HO107.out (by omega); (first | cases eo8 | (injection eo8 with ea_ en_ ec_; (first | subst ea_ | (injection ea_ with ea_; subst ea_)); subst ec_; clear en_)); have GB8 := Aside0.mk gb8; have GG8 := Aside0.mk HG8; clear gb8 gl8 HG8; obtain ⟨hx8_0, hf8_0⟩ := Kd.R_celln 0 HO107.out (0 : Int) p8 q8; (try rw [show ((0 : Int)).toNat = 0 from rfl] at hx8_0); (try simp only [Nat.reduceMul, Nat.zero_mul, Nat.zero_add, Nat.reduceAdd] at hx8_0); (try rw [show ((0 : Int)).toNat = 0 from rfl] at hf8_0); (try simp only [Nat.reduceMul, Nat.zero_mul, Nat.zero_add, Nat.reduceAdd] at hf8_0); replace p8 := eq_true p8; replace q8 := eq_true q8; obtain ⟨hy17_, hz17_⟩ := Kd.R_celln 0 HO107.out (0 : Int) (by omega) (of_decide_eq_true (by first | (with_reducible assumption) | assumption)); (try simp only [Int.reduceToNat, Int.toNat_zero, Int.toNat_ofNat, Nat.reduceMul, Nat.zero_mul, Nat.zero_add] at hy17_ hz17_); (try rw [show ((0 : Int)).toNat = 0 from rfl] at hy17_); (try rw [show ((0 : Int)).toNat = 0 from rfl] at hz17_); have HP17 := Kd.R_putg HO107.out (0 : Int) (((a1.size : Int) / 16777216) % 256)) | ((with_reducible refine gate_store (t := 5) (p := 25) rfl ?_); refine store_event (t := 5) (p := 25) (v := ?vo_w18) (w1 := (w15.setCell ⟨go8, (0 : Int).toNat, none⟩ (.int .u8 (((a1.size : Int) / 16777216) % 256)))) ?hg ?ho ?hn ?hr ?_; (case ho => rfl); (case hg => rfl); (case hn => rfl); (case hr => first | (go_simp; done) | (go_simp; rfl)); intro w18 hw; have hg : w15.grownBy w18 (some go8) := (by rw [hw]; exact HP17.2); have hp_ : Kd.R (Kd.int .u8) 5 w18 w.heap.size (fun _ => True) (.slice (some ⟨go8, 0, none⟩) y105.length co8) y108 := (by rw [hw, Ny108.out]; exact HP17.1); clear HP17; have n0_ := Aside0.mk (hp_); have n1_ := Aside0.mk ((by rw [hw]; exact below_set (HB.out) GB8.out : Below w.heap.size w w18)); clear HO107; clear HB; have HO107 := n0_; have HB := n1_; clear n0_ n1_; clear hg hw hp_; have p10 : 0 ≤ (1 : Int) := (by omega); have q10 : (1 : Int) < ((y105.length : Int) : Int) := of_decide_eq_true (by first | (with_reducible assumption) | assumption); have qi10 : (1 < y105.length) = True := eq_true (by omega); obtain ⟨hx10_0, hf10_0⟩ := Kd.R_celln 0 HO107.out (1 : Int) p10 q10; (try rw [show ((1 : Int)).toNat = 1 from rfl] at hx10_0); (try simp only [Nat.reduceMul, Nat.zero_mul, Nat.zero_add, Nat.reduceAdd] at hx10_0); (try rw [show ((1 : Int)).toNat = 1 from rfl] at hf10_0); (try simp only [Nat.reduceMul, Nat.zero_mul, Nat.zero_add, Nat.reduceAdd] at hf10_0); replace p10 := eq_true p10; replace q10 := eq_true q10; obtain ⟨hy19_, hz19_⟩ := Kd.R_celln 0 HO107.out (1 : Int) (by omega) (of_decide_eq_true (by first | (with_reducible assumption) | assumption)); (try simp only [Int.reduceToNat, Int.toNat_zero, Int.toNat_ofNat, Nat.reduceMul, Nat.zero_mul, Nat.zero_add] at hy19_ hz19_); (try rw [show ((1 : Int)).toNat = 1 from rfl] at hy19_); (try rw [show ((1 : Int)).toNat = 1 from rfl] at hz19_); have HP19 := Kd.R_putg HO107.out (1 : Int) (((a1.size : Int) / 65536) % 256)) | ((with_reducible refine gate_store (t := 5) (p := 31) rfl ?_); refine store_event (t := 5) (p := 31) (v := ?vo_w20) (w1 := (w18.setCell ⟨go8, (1 : Int).toNat, none⟩ (.int .u8 (((a1.size : Int) / 65536) % 256)))) ?hg ?ho ?hn ?hr ?_; (case ho => rfl); (case hg => rfl); (case hn => rfl); (case hr => first | (go_simp; done) | (go_simp; rfl)); intro w20 hw; have hg : w18.grownBy w20 (some go8) := (by rw [hw]; exact HP19.2); have hp_ : Kd.R (Kd.int .u8) 5 w20 w.heap.size (fun _ => True) (.slice (some ⟨go8, 0, none⟩) y105.length co8) y109 := (by rw [hw, Ny109.out]; exact HP19.1); clear HP19; have n0_ := Aside0.mk (hp_); have n1_ := Aside0.mk ((by rw [hw]; exact below_set (HB.out) GB8.out : Below w.heap.size w w20)); clear HO107; clear HB; have HO107 := n0_; have HB := n1_; clear n0_ n1_; clear hg hw hp_; have p12 : 0 ≤ (2 : Int) := (by omega); have q12 : (2 : Int) < ((y105.length : Int) : Int) := of_decide_eq_true (by first | (with_reducible assumption) | assumption); have qi12 : (2 < y105.length) = True := eq_true (by omega); obtain ⟨hx12_0, hf12_0⟩ := Kd.R_celln 0 HO107.out (2 : Int) p12 q12; (try rw [show ((2 : Int)).toNat = 2 from rfl] at hx12_0); (try simp only [Nat.reduceMul, Nat.zero_mul, Nat.zero_add, Nat.reduceAdd] at hx12_0); (try rw [show ((2 : Int)).toNat = 2 from rfl] at hf12_0); (try simp only [Nat.reduceMul, Nat.zero_mul, Nat.zero_add, Nat.reduceAdd] at hf12_0); replace p12 := eq_true p12; replace q12 := eq_true q12; obtain ⟨hy21_, hz21_⟩ := Kd.R_celln 0 HO107.out (2 : Int) (by omega) (of_decide_eq_true (by first | (with_reducible assumption) | assumption)); (try simp only [Int.reduceToNat, Int.toNat_zero, Int.toNat_ofNat, Nat.reduceMul, Nat.zero_mul, Nat.zero_add] at hy21_ hz21_); (try rw [show ((2 : Int)).toNat = 2 from rfl] at hy21_); (try rw [show ((2 : Int)).toNat = 2 from rfl] at hz21_); have HP21 := Kd.R_putg HO107.out (2 : Int) (((a1.size : Int) / 256) % 256)) | ((with_reducible refine gate_store (t := 5) (p := 37) rfl ?_); refine store_event (t := 5) (p := 37) (v := ?vo_w22) (w1 := (w20.setCell ⟨go8, (2 : Int).toNat, none⟩ (.int .u8 (((a1.size : Int) / 256) % 256)))) ?hg ?ho ?hn ?hr ?_; (case ho => rfl); (case hg => rfl); (case hn => rfl); (case hr => first | (go_simp; done) | (go_simp; rfl)); intro w22 hw; have hg : w20.grownBy w22 (some go8) := (by rw [hw]; exact HP21.2); have hp_ : Kd.R (Kd.int .u8) 5 w22 w.heap.size (fun _ => True) (.slice (some ⟨go8, 0, none⟩) y105.length co8) y110 := (by rw [hw, Ny110.out]; exact HP21.1); clear HP21; have n0_ := Aside0.mk (hp_); have n1_ := Aside0.mk ((by rw [hw]; exact below_set (HB.out) GB8.out : Below w.heap.size w w22)); clear HO107; clear HB; have HO107 := n0_; have HB := n1_; clear n0_ n1_; clear hg hw hp_; have p14 : 0 ≤ (3 : Int) := (by omega); have q14 : (3 : Int) < ((y105.length : Int) : Int) := of_decide_eq_true (by first | (with_reducible assumption) | assumption); have qi14 : (3 < y105.length) = True := eq_true (by omega); obtain ⟨hx14_0, hf14_0⟩ := Kd.R_celln 0 HO107.out (3 : Int) p14 q14; (try rw [show ((3 : Int)).toNat = 3 from rfl] at hx14_0); (try simp only [Nat.reduceMul, Nat.zero_mul, Nat.zero_add, Nat.reduceAdd] at hx14_0); (try rw [show ((3 : Int)).toNat = 3 from rfl] at hf14_0); (try simp only [Nat.reduceMul, Nat.zero_mul, Nat.zero_add, Nat.reduceAdd] at hf14_0); replace p14 := eq_true p14; replace q14 := eq_true q14; obtain ⟨hy23_, hz23_⟩ := Kd.R_celln 0 HO107.out (3 : Int) (by omega) (of_decide_eq_true (by first | (with_reducible assumption) | assumption)); (try simp only [Int.reduceToNat, Int.toNat_zero, Int.toNat_ofNat, Nat.reduceMul, Nat.zero_mul, Nat.zero_add] at hy23_ hz23_); (try rw [show ((3 : Int)).toNat = 3 from rfl] at hy23_); (try rw [show ((3 : Int)).toNat = 3 from rfl] at hz23_); have HP23 := Kd.R_putg HO107.out (3 : Int) (((a1.size : Int)) % 256)) | ((with_reducible refine gate_store (t := 5) (p := 42) rfl ?_); refine store_event (t := 5) (p := 42) (v := ?vo_w24) (w1 := (w22.setCell ⟨go8, (3 : Int).toNat, none⟩ (.int .u8 (((a1.size : Int)) % 256)))) ?hg ?ho ?hn ?hr ?_; (case ho => rfl); (case hg => rfl); (case hn => rfl); (case hr => first | (go_simp; done) | (go_simp; rfl)); intro w24 hw; have hg : w22.grownBy w24 (some go8) := (by rw [hw]; exact HP23.2); have hp_ : Kd.R (Kd.int .u8) 5 w24 w.heap.size (fun _ => True) (.slice (some ⟨go8, 0, none⟩) y105.length co8) y111 := (by rw [hw, Ny111.out]; exact HP23.1); clear HP23; have n0_ := Aside0.mk (hp_); have n1_ := Aside0.mk ((by rw [hw]; exact below_set (HB.out) GB8.out : Below w.heap.size w w24)); clear HO107; clear HB; have HO107 := n0_; have HB := n1_; clear n0_ n1_; clear hg hw hp_))
       go_loopg [8] k (fun kq v8 w' => ∃ (x7_1 : List Int) (x8_1 : Int), v8 = .int .i64 x8_1 ∧ Aside0 (corncribref03_Plain.l0 kq a1 x7_1 x8_1 = some r) ∧ Aside0 (kq ≤ k) ∧ Aside0 (Kd.R (Kd.int .u8) 5 w' w.heap.size (fun _ => True) (.slice (some ⟨go8, 0, none⟩) y105.length co8) x7_1) ∧ Aside0 (Below w.heap.size w w'))
       case atStart => exact ⟨(y111), (0), (by first | rfl | (simp; done) | (simp [*]; done)), H', ⟨Nat.le_refl _⟩, ⟨by (with_reducible repeat (first | apply Kd.R_alloc | apply Kd.R_drewN | apply Kd.R_drew)); exact HO107.out⟩, ⟨by repeat (first | (with_reducible first | exact HB.out | apply below_alloc | apply pw_below_drewN | apply below_drew1) | exact HB.out)⟩⟩
       case round =>
        clear H'
        try clear c1
        try clear p1
        try clear q1
        try clear hx1
        try clear qi1
        try clear p2
        try clear c4
        try clear c5
        try clear c5b0
        try clear c5b1
        try clear c6
        try clear c6b0
        try clear c6b1
        try clear p6
        try clear c7
        try clear c7b0
        try clear c7b1
        try clear p8
        try clear q8
        try clear hx8
        try clear qi8
        try clear hf8
        try clear c9
        try clear c9b0
        try clear c9b1
        try clear p10
        try clear q10
        try clear hx10
        try clear qi10
        try clear hf10
        try clear c11
        try clear c11b0
        try clear c11b1
        try clear p12
        try clear q12
        try clear hx12
        try clear qi12
        try clear hf12
        try clear c13
        try clear c13b0
        try clear c13b1
        try clear p14
        try clear q14
        try clear hx14
        try clear qi14
        try clear hf14
        try clear c16
        try clear hx10_0
        try clear hx12_0
        try clear hx14_0
        try clear hx8_0
        try clear p10
        try clear p12
        try clear p14
        try clear p8
        try clear q10
        try clear q12
        try clear q14
        try clear q8
        obtain ⟨x7_1, x8_1, rfl, HA, HK1, HO_7, HB⟩ := hrel
        have hl7_1 := (Kd.R_reads' HO_7.out).1
        rw [hl7_1] at HO_7
        (try simp only [hl7_1])
        cases gk with
        | zero => exact absurd HA.out (by simp [corncribref03_Plain.l0])
        | succ k1 =>
         have H := HA.out
         clear HA
         simp only [corncribref03_Plain.l0] at H
         by_cases c25 : x8_1 < (a1.size : Int)
         ·rw [if_pos c25] at H
          have c25b0 : decide (x8_1 < (a1.size : Int)) = true := decide_eq_true c25
          clear c25
          by_cases c26 : 0 ≤ x8_1
          ·rw [if_pos c26] at H
           have c26b0 : decide (0 ≤ x8_1) = true := decide_eq_true c26
           clear c26
           obtain ⟨ji28, hji28⟩ : ∃ j_ : Int, (wrap64 (4 + x8_1)) = j_ := ⟨_, rfl⟩
           replace H : (if 0 ≤ (ji28) then (if (ji28) < (x7_1.length : Int) then (corncribref03_Plain.l0 k1 a1 (x7_1.set ((ji28) : Int).toNat (bt a1 x8_1)) (wrap64 (x8_1 + 1))) else (none)) else (none)) = some r := by first | (rw [hji28] at H; exact H) | (simp only [hji28] at H ⊢; exact H)
           have hji28w : (IntKind.i64.wrap (4 + x8_1)) = ji28 := (i64_w _).trans hji28
           by_cases c29 : 0 ≤ (ji28)
           ·rw [if_pos c29] at H
            have c29b0 : decide (0 ≤ (ji28)) = true := decide_eq_true c29
            clear c29
            by_cases c30 : (ji28) < (x7_1.length : Int)
            ·rw [if_pos c30] at H
             have c30b0 : decide ((ji28) < (x7_1.length : Int)) = true := decide_eq_true c30
             clear c30
             obtain ⟨y112, hy112⟩ : ∃ y_ : List Int, y_ = (x7_1.set ((ji28) : Int).toNat (bt a1 x8_1)) := ⟨_, rfl⟩
             replace H : (corncribref03_Plain.l0 k1 a1 y112 (wrap64 (x8_1 + 1))) = some r := by first | (rw [hy112]; with_reducible exact H) | (have H2_ := (Option.bind_some _ _).symm.trans H; rw [hy112]; with_reducible exact H2_) | (have H2_ := (Option.bind_some _ _).symm.trans H; with_reducible exact H2_) | with_reducible exact H | (rw [hy112]; exact H) | exact H
             have Ny112 := Aside0.mk hy112
             clear hy112
             have H' := Aside0.mk H
             clear H
             have p27 : 0 ≤ (x8_1 : Int) := of_decide_eq_true (by first | (with_reducible assumption) | assumption)
             have q27 : x8_1 < (a1.size : Int) := of_decide_eq_true (by first | (with_reducible assumption) | assumption)
             have hx27 := bt_at a1 x8_1
             replace p27 := eq_true p27
             replace q27 := eq_true q27
             have p31 : 0 ≤ ((ji28) : Int) := of_decide_eq_true (by first | (with_reducible assumption) | assumption)
             have q31 : ((ji28) : Int) < ((x7_1.length : Int) : Int) := of_decide_eq_true (by first | (with_reducible assumption) | assumption)
             obtain ⟨hx31_0, hf31_0⟩ := Kd.R_celln 0 HO_7.out ((ji28) : Int) p31 q31
             replace p31 := eq_true p31
             replace q31 := eq_true q31
             have HP32 := Kd.R_putg HO_7.out ((ji28) : Int) (bt a1 x8_1)
             go_wp2_with (first | ((with_reducible refine gate_store (t := 5) (p := 55) rfl ?_); refine store_event (t := 5) (p := 55) (v := ?vo_w33) (w1 := (wr.setCell ⟨go8, ((ji28) : Int).toNat, none⟩ (.int .u8 (bt a1 x8_1)))) ?hg ?ho ?hn ?hr ?_; (case ho => rfl); (case hg => rfl); (case hn => rfl); (case hr => first | (go_simp; done) | (go_simp; rfl)); intro w33 hw; have hg : wr.grownBy w33 (some go8) := (by rw [hw]; exact HP32.2); have hp_ : Kd.R (Kd.int .u8) 5 w33 w.heap.size (fun _ => True) (.slice (some ⟨go8, 0, none⟩) x7_1.length co8) y112 := (by rw [hw, Ny112.out]; exact HP32.1); clear HP32; have n0_ := Aside0.mk (hp_); have n1_ := Aside0.mk ((by rw [hw]; exact below_set (HB.out) GB8.out : Below w.heap.size w w33)); clear HO_7; clear HB; have HO_7 := n0_; have HB := n1_; clear n0_ n1_; clear hg hw hp_))
             (try simp only [← hl7_1])
             go_roundg k1
             case measure => have := HK1.out; omega
             case rel => exact ⟨(y112), (wrap64 (x8_1 + 1)), (by first | rfl | (simp; done) | (simp [*]; done)), H', ⟨by have := HK1.out; omega⟩, ⟨by (try simp only [hl7_1]); (with_reducible repeat (first | apply Kd.R_alloc | apply Kd.R_drewN | apply Kd.R_drew)); exact HO_7.out⟩, ⟨by repeat (first | (with_reducible first | exact HB.out | apply below_alloc | apply pw_below_drewN | apply below_drew1) | exact HB.out)⟩⟩
            ·rw [if_neg c30] at H
             exact absurd H (by simp)
           ·rw [if_neg c29] at H
            exact absurd H (by simp)
          ·rw [if_neg c26] at H
           exact absurd H (by simp)
         ·rw [if_neg c25] at H
          have c25b0 : decide (x8_1 < (a1.size : Int)) = false := decide_eq_false c25
          clear c25
          obtain rfl := Option.some.inj H
          have hcv34 := own_string (P := Tryd.prog) Tryd.underlying60 Tryd.underlying5 Tryd.underlying9 (Kd.own_of_R HO_7.out)
          go_wp2
          go_ret
          exact ⟨by first | rfl | (simp [errW_none, errW_some] <;> rfl) | (simp only [← hji4]; first | rfl | (simp [errW_none, errW_some] <;> rfl)) | (simp [*, errW_none, errW_some] <;> rfl), by repeat (first | (with_reducible first | exact HB.out | apply below_alloc | apply pw_below_drewN | apply below_drew1) | exact HB.out)⟩
      ·rw [if_neg c13] at H
       exact absurd H (by simp)
     ·rw [if_neg c11] at H
      exact absurd H (by simp)
    ·rw [if_neg c9] at H
     exact absurd H (by simp)
   ·rw [if_neg c7] at H
    exact absurd H (by simp)
  ·rw [if_neg c6] at H
   exact absurd H (by simp)
 ·rw [if_neg c5] at H
  exact absurd H (by simp)

end Go.Proofs.YtegmmefijihdeaaDoor.PS
namespace Go.Proofs.YtegmmefijihdeaaDoor.PS
open Go.RowKit Go.Proofs.YtegmmefijihdeaaDoorW.PrintWords Go.Proofs.YtegmmefijihdeaaDoorW.PrintLast Go.Proofs.YtegmmefijihdeaaDoorW.PrintMore
attribute [local go_sem] Mk.str_leq Mk.str_gtr Mk.str_geq max2_int min2_int max_two min_two max_three min_three max_four min_four   -- for this text's walks alone
set_option linter.unusedVariables false
set_option linter.unusedSimpArgs false

/-! ### corncribref03_Even: function 53 -/
def corncribref03_Even.l0 : Nat → List ByteArray → Int → Option (Bool)
 | 0, _, _ => none
 | k + 1, x0, x3 => if x3 < (x0.length : Int) then (if 0 ≤ x3 then (if 0 < (x0.length : Int) then (if ((rdOf ByteArray.empty x0 x3).size : Int) = ((rdOf ByteArray.empty x0 0).size : Int) then (corncribref03_Even.l0 k x0 (wrap64 (x3 + 1))) else (some false)) else (none)) else (none)) else (some true)
def corncribref03_Even.f (k : Nat) (l0 : List ByteArray) : Option (Bool) := corncribref03_Even.l0 k l0 1
theorem corncribref03_Even.mono_l : ∀ k, (∀ y0 y1, LeO (corncribref03_Even.l0 k y0 y1) (corncribref03_Even.l0 (k + 1) y0 y1))
 | 0 => fun _ _ r h => by simp [corncribref03_Even.l0] at h
 | k + 1 => by
  have ih0 := corncribref03_Even.mono_l k
  ·intro y0 y1
   unfold corncribref03_Even.l0
   repeat' first
   | (with_reducible exact ih0 _ _)
   | (with_reducible exact LeO.refl _)
   | (with_reducible exact LeO.none _)
   | (with_reducible refine LeO.ite ?_ ?_)
   | (with_reducible refine LeO.bind ?_ (fun _ => ?_))
   | exact ih0 _ _
   | exact LeO.none _
   | refine LeO.ite ?_ ?_
   | refine LeO.bind ?_ (fun _ => ?_)
theorem corncribref03_Even.mono : ∀ a0 k, LeO (corncribref03_Even.f k a0) (corncribref03_Even.f (k + 1) a0) := by
 intro a0 k
 have ih0 := corncribref03_Even.mono_l k
 unfold corncribref03_Even.f
 repeat' first
   | (with_reducible exact ih0 _ _)
   | (with_reducible exact LeO.refl _)
   | (with_reducible exact LeO.none _)
   | (with_reducible refine LeO.ite ?_ ?_)
   | (with_reducible refine LeO.bind ?_ (fun _ => ?_))
   | exact ih0 _ _
   | exact LeO.none _
   | refine LeO.ite ?_ ?_
   | refine LeO.bind ?_ (fun _ => ?_)
set_option maxHeartbeats 8000000 in
set_option maxRecDepth 100000 in
theorem corncribref03_Even.calls (k : Nat) (A0 : Option Addr) (c0 : Nat) (l0 : List ByteArray) (r : Bool) (w : World) (hr0 : Kd.C Kd.string w A0 l0.length l0) (hc0 : l0.length ≤ c0) (h : corncribref03_Even.f k l0 = some r) :
  Calls Tryd.prog 53 #[.slice A0 l0.length c0] w fun e w' => e = .returned (.bool r) ∧ Drawn0 w w' := by
 have HR0 := Aside0.mk hr0
 have HC0 := Aside0.mk hc0
 clear hr0 hc0
 have H : (corncribref03_Even.l0 k l0 1) = some r := h
 clear h
 have H' := Aside0.mk H
 clear H
 go_enter Tryd.func53, Tryd.ntmps53
 go_wp2
 repeat (go_quiet (fail); try go_wp2)
 go_loopg [3] k (fun kq v3 w' => ∃ (x3_1 : Int), v3 = .int .i64 x3_1 ∧ Aside0 (corncribref03_Even.l0 kq l0 x3_1 = some r) ∧ Aside0 (kq ≤ k) ∧ Drawn0 w w')
 case atStart => exact ⟨(1), (by first | rfl | (simp; done) | (simp [*]; done)), H', ⟨Nat.le_refl _⟩, by repeat (first | exact Drawn0.refl _ | apply Drawn0.step)⟩
 case round =>
  clear H'
  obtain ⟨x3_1, rfl, HA, HK1, ⟨m1, rfl⟩⟩ := hrel
  cases gk with
  | zero => exact absurd HA.out (by simp [corncribref03_Even.l0])
  | succ k1 =>
   have H := HA.out
   clear HA
   simp only [corncribref03_Even.l0] at H
   by_cases c2 : x3_1 < (l0.length : Int)
   ·rw [if_pos c2] at H
    have c2b0 : decide (x3_1 < (l0.length : Int)) = true := decide_eq_true c2
    clear c2
    by_cases c3 : 0 ≤ x3_1
    ·rw [if_pos c3] at H
     have c3b0 : decide (0 ≤ x3_1) = true := decide_eq_true c3
     clear c3
     by_cases c4 : 0 < (l0.length : Int)
     ·rw [if_pos c4] at H
      have c4b0 : decide (0 < (l0.length : Int)) = true := decide_eq_true c4
      have c4b1 : decide (0 < l0.length) = true := decide_eq_true (by omega)
      clear c4
      by_cases c5 : ((rdOf ByteArray.empty l0 x3_1).size : Int) = ((rdOf ByteArray.empty l0 0).size : Int)
      ·rw [if_pos c5] at H
       have c5b0 : (((rdOf ByteArray.empty l0 x3_1).size : Int) == ((rdOf ByteArray.empty l0 0).size : Int)) = true := beq_iff_eq.mpr c5
       have c5b1 : (((rdOf ByteArray.empty l0 x3_1).size : Int) != ((rdOf ByteArray.empty l0 0).size : Int)) = false := bne_eq_false_iff_eq.mpr c5
       have c5b2 : ((rdOf ByteArray.empty l0 x3_1).size == (rdOf ByteArray.empty l0 0).size) = true := by first | simpa using c5 | (simp at c5 ⊢; omega)
       clear c5
       have H' := Aside0.mk H
       clear H
       have p178 : 0 ≤ (x3_1 : Int) := of_decide_eq_true (by first | (with_reducible assumption) | assumption)
       have q178 : x3_1 < (l0.length : Int) := of_decide_eq_true (by first | (with_reducible assumption) | assumption)
       obtain ⟨ad178, e178, hx178_0⟩ := Kd.at_string HR0.out x3_1 p178 q178
       cases e178
       replace p178 := eq_true p178
       replace q178 := eq_true q178
       have p179 : 0 ≤ (0 : Int) := (by omega)
       have q179 : 0 < (l0.length : Int) := of_decide_eq_true (by first | (with_reducible assumption) | assumption)
       obtain ⟨ad179, e179, hx179_0⟩ := Kd.at_string HR0.out 0 p179 q179
       obtain rfl : ad178 = ad179 := (by injection e179)
       have qi179 : (0 < l0.length) = True := eq_true (by omega)
       (try rw [show ((0 : Int)).toNat = 0 from rfl] at hx179_0)
       (try rw [Addr.add_zero'] at hx179_0)
       replace p179 := eq_true p179
       replace q179 := eq_true q179
       go_wp2
       repeat (go_quiet (fail); try go_wp2)
       go_roundg k1
       case measure => have := HK1.out; omega
       case rel => exact ⟨(wrap64 (x3_1 + 1)), (by first | rfl | (simp; done) | (simp [*]; done)), H', ⟨by have := HK1.out; omega⟩, by repeat (first | exact Drawn0.refl _ | apply Drawn0.step)⟩
      ·rw [if_neg c5] at H
       have c5b0 : (((rdOf ByteArray.empty l0 x3_1).size : Int) == ((rdOf ByteArray.empty l0 0).size : Int)) = false := beq_eq_false_iff_ne.mpr c5
       have c5b1 : (((rdOf ByteArray.empty l0 x3_1).size : Int) != ((rdOf ByteArray.empty l0 0).size : Int)) = true := bne_iff_ne.mpr c5
       have c5b2 : ((rdOf ByteArray.empty l0 x3_1).size == (rdOf ByteArray.empty l0 0).size) = false := by first | simpa using c5 | (simp at c5 ⊢; omega)
       obtain rfl := Option.some.inj H
       have p178 : 0 ≤ (x3_1 : Int) := of_decide_eq_true (by first | (with_reducible assumption) | assumption)
       have q178 : x3_1 < (l0.length : Int) := of_decide_eq_true (by first | (with_reducible assumption) | assumption)
       obtain ⟨ad178, e178, hx178_0⟩ := Kd.at_string HR0.out x3_1 p178 q178
       cases e178
       replace p178 := eq_true p178
       replace q178 := eq_true q178
       have p179 : 0 ≤ (0 : Int) := (by omega)
       have q179 : 0 < (l0.length : Int) := of_decide_eq_true (by first | (with_reducible assumption) | assumption)
       obtain ⟨ad179, e179, hx179_0⟩ := Kd.at_string HR0.out 0 p179 q179
       obtain rfl : ad178 = ad179 := (by injection e179)
       have qi179 : (0 < l0.length) = True := eq_true (by omega)
       (try rw [show ((0 : Int)).toNat = 0 from rfl] at hx179_0)
       (try rw [Addr.add_zero'] at hx179_0)
       replace p179 := eq_true p179
       replace q179 := eq_true q179
       go_wp2
       repeat (go_quiet (fail); try go_wp2)
       go_ret
       exact ⟨by first | rfl | (simp; done) | (simp [*]; done), by repeat (first | exact Drawn0.refl _ | apply Drawn0.step)⟩
     ·rw [if_neg c4] at H
      exact absurd H (by simp)
    ·rw [if_neg c3] at H
     exact absurd H (by simp)
   ·rw [if_neg c2] at H
    have c2b0 : decide (x3_1 < (l0.length : Int)) = false := decide_eq_false c2
    clear c2
    obtain rfl := Option.some.inj H
    go_wp2
    repeat (go_quiet (fail); try go_wp2)
    go_ret
    exact ⟨by first | rfl | (simp; done) | (simp [*]; done), by repeat (first | exact Drawn0.refl _ | apply Drawn0.step)⟩

end Go.Proofs.YtegmmefijihdeaaDoor.PS
namespace Go.Proofs.YtegmmefijihdeaaDoor.PS
open Go.RowKit Go.Proofs.YtegmmefijihdeaaDoorW.PrintWords Go.Proofs.YtegmmefijihdeaaDoorW.PrintLast Go.Proofs.YtegmmefijihdeaaDoorW.PrintMore
attribute [local go_sem] Mk.str_leq Mk.str_gtr Mk.str_geq max2_int min2_int max_two min_two max_three min_three max_four min_four   -- for this text's walks alone
set_option linter.unusedVariables false
set_option linter.unusedSimpArgs false

/-! ### corncribref03_Under: function 58 -/
mutual
def corncribref03_Under.l0 : Nat → List ByteArray → List ByteArray → Int → Int → Int → ByteArray → Option (List ByteArray)
 | 0, _, _, _, _, _, _ => none
 | k + 1, x1, x5, x6, x202000, x202001, x202002 => if x6 < x202000 then (if 0 < (x1.length : Int) then (if 0 ≤ ((rdOf ByteArray.empty x1 0).size : Int) then (if (((rdOf ByteArray.empty x1 0).size : Int) : Int).toNat ≤ 281474976710656 then (corncribref03_Under.l1 k x1 x5 x6 (List.replicate (((rdOf ByteArray.empty x1 0).size : Int) : Int).toNat 0) 0 x202000 x202001 x202002) else (none)) else (none)) else (none)) else (some x5)
def corncribref03_Under.l1 : Nat → List ByteArray → List ByteArray → Int → List Int → Int → Int → Int → ByteArray → Option (List ByteArray)
 | 0, _, _, _, _, _, _, _, _ => none
 | k + 1, x1, x5, x6, x7, x8, x202000, x202001, x202002 => if x8 < x202001 then (if 0 ≤ (wrap64 ((wrap64 (x6 * x202001)) + x8)) then (if (wrap64 ((wrap64 (x6 * x202001)) + x8)) < (x202002.size : Int) then (if 0 ≤ x8 then (if x8 < (x1.length : Int) then ((corncribref01_Scale.f k (bt x202002 (wrap64 ((wrap64 (x6 * x202001)) + x8))) (rdOf ByteArray.empty x1 x8)).bind fun t210 => (corncribref03_Under.l2 k x1 x5 x6 x7 x8 t210 0 x202000 x202001 x202002)) else (none)) else (none)) else (none)) else (none)) else (if x5.length < 8796093022208 then (corncribref03_Under.l0 k x1 (x5 ++ [strOfNums x7]) (wrap64 (x6 + 1)) x202000 x202001 x202002) else (none))
def corncribref03_Under.l2 : Nat → List ByteArray → List ByteArray → Int → List Int → Int → ByteArray → Int → Int → Int → ByteArray → Option (List ByteArray)
 | 0, _, _, _, _, _, _, _, _, _, _ => none
 | k + 1, x1, x5, x6, x7, x8, x9, x10, x202000, x202001, x202002 => if x10 < (x7.length : Int) then (if 0 ≤ x10 then (if x10 < (x9.size : Int) then (corncribref03_Under.l2 k x1 x5 x6 (x7.set (x10 : Int).toNat (Go.bits .xor .u8 (rd x7 x10) (bt x9 x10))) x8 x9 (wrap64 (x10 + 1)) x202000 x202001 x202002) else (none)) else (none)) else (corncribref03_Under.l1 k x1 x5 x6 x7 (wrap64 (x8 + 1)) x202000 x202001 x202002)
end
def corncribref03_Under.f (k : Nat) (a0_0 : Int) (a0_1 : Int) (a0_2 : ByteArray) (l1 : List ByteArray) : Option (List ByteArray) := corncribref03_Under.l0 k l1 ([] : List ByteArray) 0 a0_0 a0_1 a0_2
theorem corncribref03_Under.mono_l : ∀ k, (∀ y0 y1 y2 y3 y4 y5, LeO (corncribref03_Under.l0 k y0 y1 y2 y3 y4 y5) (corncribref03_Under.l0 (k + 1) y0 y1 y2 y3 y4 y5)) ∧ (∀ y0 y1 y2 y3 y4 y5 y6 y7, LeO (corncribref03_Under.l1 k y0 y1 y2 y3 y4 y5 y6 y7) (corncribref03_Under.l1 (k + 1) y0 y1 y2 y3 y4 y5 y6 y7)) ∧ (∀ y0 y1 y2 y3 y4 y5 y6 y7 y8 y9, LeO (corncribref03_Under.l2 k y0 y1 y2 y3 y4 y5 y6 y7 y8 y9) (corncribref03_Under.l2 (k + 1) y0 y1 y2 y3 y4 y5 y6 y7 y8 y9))
 | 0 => ⟨fun _ _ _ _ _ _ r h => by simp [corncribref03_Under.l0] at h, fun _ _ _ _ _ _ _ _ r h => by simp [corncribref03_Under.l1] at h, fun _ _ _ _ _ _ _ _ _ _ r h => by simp [corncribref03_Under.l2] at h⟩
 | k + 1 => by
  obtain ⟨ih0, ih1, ih2⟩ := corncribref03_Under.mono_l k
  refine ⟨?_, ?_, ?_⟩
  ·intro y0 y1 y2 y3 y4 y5
   unfold corncribref03_Under.l0
   repeat' first
   | (with_reducible exact ih0 _ _ _ _ _ _)
   | (with_reducible exact ih1 _ _ _ _ _ _ _ _)
   | (with_reducible exact ih2 _ _ _ _ _ _ _ _ _ _)
   | (with_reducible exact corncribref01_Scale.mono _ _ _)
   | (with_reducible exact LeO.refl _)
   | (with_reducible exact LeO.none _)
   | (with_reducible refine LeO.ite ?_ ?_)
   | (with_reducible refine LeO.bind ?_ (fun _ => ?_))
   | exact ih0 _ _ _ _ _ _
   | exact ih1 _ _ _ _ _ _ _ _
   | exact ih2 _ _ _ _ _ _ _ _ _ _
   | exact corncribref01_Scale.mono _ _ _
   | exact LeO.none _
   | refine LeO.ite ?_ ?_
   | refine LeO.bind ?_ (fun _ => ?_)
  ·intro y0 y1 y2 y3 y4 y5 y6 y7
   unfold corncribref03_Under.l1
   repeat' first
   | (with_reducible exact ih0 _ _ _ _ _ _)
   | (with_reducible exact ih1 _ _ _ _ _ _ _ _)
   | (with_reducible exact ih2 _ _ _ _ _ _ _ _ _ _)
   | (with_reducible exact corncribref01_Scale.mono _ _ _)
   | (with_reducible exact LeO.refl _)
   | (with_reducible exact LeO.none _)
   | (with_reducible refine LeO.ite ?_ ?_)
   | (with_reducible refine LeO.bind ?_ (fun _ => ?_))
   | exact ih0 _ _ _ _ _ _
   | exact ih1 _ _ _ _ _ _ _ _
   | exact ih2 _ _ _ _ _ _ _ _ _ _
   | exact corncribref01_Scale.mono _ _ _
   | exact LeO.none _
   | refine LeO.ite ?_ ?_
   | refine LeO.bind ?_ (fun _ => ?_)
  ·intro y0 y1 y2 y3 y4 y5 y6 y7 y8 y9
   unfold corncribref03_Under.l2
   repeat' first
   | (with_reducible exact ih0 _ _ _ _ _ _)
   | (with_reducible exact ih1 _ _ _ _ _ _ _ _)
   | (with_reducible exact ih2 _ _ _ _ _ _ _ _ _ _)
   | (with_reducible exact corncribref01_Scale.mono _ _ _)
   | (with_reducible exact LeO.refl _)
   | (with_reducible exact LeO.none _)
   | (with_reducible refine LeO.ite ?_ ?_)
   | (with_reducible refine LeO.bind ?_ (fun _ => ?_))
   | exact ih0 _ _ _ _ _ _
   | exact ih1 _ _ _ _ _ _ _ _
   | exact ih2 _ _ _ _ _ _ _ _ _ _
   | exact corncribref01_Scale.mono _ _ _
   | exact LeO.none _
   | refine LeO.ite ?_ ?_
   | refine LeO.bind ?_ (fun _ => ?_)
theorem corncribref03_Under.mono : ∀ a0 a1 a2 a3 k, LeO (corncribref03_Under.f k a0 a1 a2 a3) (corncribref03_Under.f (k + 1) a0 a1 a2 a3) := by
 intro a0 a1 a2 a3 k
 obtain ⟨ih0, ih1, ih2⟩ := corncribref03_Under.mono_l k
 unfold corncribref03_Under.f
 repeat' first
   | (with_reducible exact ih0 _ _ _ _ _ _)
   | (with_reducible exact ih1 _ _ _ _ _ _ _ _)
   | (with_reducible exact ih2 _ _ _ _ _ _ _ _ _ _)
   | (with_reducible exact corncribref01_Scale.mono _ _ _)
   | (with_reducible exact LeO.refl _)
   | (with_reducible exact LeO.none _)
   | (with_reducible refine LeO.ite ?_ ?_)
   | (with_reducible refine LeO.bind ?_ (fun _ => ?_))
   | exact ih0 _ _ _ _ _ _
   | exact ih1 _ _ _ _ _ _ _ _
   | exact ih2 _ _ _ _ _ _ _ _ _ _
   | exact corncribref01_Scale.mono _ _ _
   | exact LeO.none _
   | refine LeO.ite ?_ ?_
   | refine LeO.bind ?_ (fun _ => ?_)
def corncribref03_Under.T9 : Bool × List (List Nat × List Nat) := (true, [([], []), ([0], [0]), ([], []), ([], []), ([3], [3]), ([2, 4], [2, 4]), ([], []), ([5, 6], [5, 6]), ([1, 7], [1, 7]), ([], []), ([], []), ([9, 10], [9, 10]), ([11], [11]), ([8, 12], [8, 12]), ([13, 13, 0, 1, 2, 3, 4, 5, 6, 7, 8, 9, 10, 11, 12, 13], [13])])
def corncribref03_Under.B9 : List Nat := [0, 1, 0, 0, 8, 28, 0, 124, 255, 0, 0, 1536, 3584, 8191, 16383]
theorem corncribref03_Under.tab9 : rtab .any (opsOf Tryd.f58 9) = corncribref03_Under.T9 := by kernel_rfl
theorem corncribref03_Under.bits9 : waitsOk corncribref03_Under.T9.2 corncribref03_Under.B9 = true := by kernel_rfl
def corncribref03_Under.T13 : Bool × List (List Nat × List Nat) := (true, [([], []), ([], []), ([], []), ([], []), ([2, 3], [2, 3]), ([4], [4]), ([], []), ([], []), ([6, 7], [6, 7]), ([5, 8], [5, 8]), ([0, 1, 0, 1, 2, 3, 4, 5, 6, 7, 8, 9], [0, 1]), ([10, 9, 0, 1, 2, 3, 4, 5, 6, 7, 8, 9], [9, 10])])
def corncribref03_Under.B13 : List Nat := [0, 0, 0, 0, 12, 28, 0, 0, 192, 508, 1023, 2047]
theorem corncribref03_Under.tab13 : rtab .any (opsOf Tryd.f58 13) = corncribref03_Under.T13 := by kernel_rfl
theorem corncribref03_Under.bits13 : waitsOk corncribref03_Under.T13.2 corncribref03_Under.B13 = true := by kernel_rfl
set_option maxHeartbeats 8000000 in
set_option maxRecDepth 100000 in
theorem corncribref03_Under.calls (k : Nat) (a0_0 : Int) (a0_1 : Int) (a0_2 : ByteArray) (A1 : Option Addr) (c1 : Nat) (l1 : List ByteArray) (r : List ByteArray) (w : World) (hr1 : Kd.C Kd.string w A1 l1.length l1) (hc1 : l1.length ≤ c1) (h : corncribref03_Under.f k a0_0 a0_1 a0_2 l1 = some r) :
  Calls Tryd.prog 58 #[.agg #[.int .i64 a0_0, .int .i64 a0_1, .string a0_2], .slice A1 l1.length c1] w fun e w' => ∃ v0_ : Value, e = .returned (v0_) ∧ Kd.R Kd.string 9 w' w.heap.size (fun _ => True) v0_ r ∧ Below w.heap.size w w' := by
 have hu74 := Tryd.underlying74
 have HR1 := Aside0.mk hr1
 have HC1 := Aside0.mk hc1
 clear hr1 hc1
 have HB := Aside0.mk (Below.refl w.heap.size w)
 have H : (corncribref03_Under.l0 k l1 ([] : List ByteArray) 0 a0_0 a0_1 a0_2) = some r := h
 clear h
 have H' := Aside0.mk H
 clear H
 go_enter Tryd.func58, Tryd.ntmps58
 go_wp2_with (first | ((with_reducible refine gate_dst (N := 2) rfl ?_); refine box_event ?hg (N := 2) ?hd (cs := #[.int .i64 a0_0, .int .i64 a0_1, .string a0_2]) (t := 74) ?hr ?_; (case hd => rfl); (case hg => rfl); (case hr => first | (go_simp; done) | (go_simp; rfl)); intro gb201 hg w3 hbox hb; have n0_ := Aside0.mk (below_step (by repeat (first | (with_reducible first | exact HB.out | apply below_alloc | apply pw_below_drewN | apply below_drew1) | exact HB.out)) hb); have n1_ := Aside0.mk (hbox); have n2_ := Aside0.mk ((by rw [hg]; exact (below_size (by repeat (first | (with_reducible first | exact HB.out | apply below_alloc | apply pw_below_drewN | apply below_drew1) | exact HB.out))) : w.heap.size ≤ gb201)); have n3_ := Aside0.mk ((by rw [hg]; exact (below_size (by repeat (first | (with_reducible first | exact HB.out | apply below_alloc | apply pw_below_drewN | apply below_drew1) | exact HB.out))) : w.heap.size ≤ gb201)); clear HB; have HB := n0_; have BK201 := n1_; have GW201 := n2_; have GE201 := n3_; clear n0_ n1_ n2_ n3_; clear hb hbox hg))
 go_loopg [5, 6] k (fun kq v5 v6 w' => ∃ (x5_1 : List ByteArray) (x6_1 : Int), v6 = .int .i64 x6_1 ∧ Aside0 (corncribref03_Under.l0 kq l1 x5_1 x6_1 a0_0 a0_1 a0_2 = some r) ∧ Aside0 (kq ≤ k) ∧ Aside0 (Kd.R Kd.string 9 w' w.heap.size (fun _ => True) v5 x5_1) ∧ Aside0 (w'.heap[gb201]? = some (.cells #[.int .i64 a0_0, .int .i64 a0_1, .string a0_2] 74 (0, 0))) ∧ Aside0 (Below w.heap.size w w'))
 case atStart => exact ⟨(([] : List ByteArray)), (0), (by first | rfl | (simp; done) | (simp [*]; done)), H', ⟨Nat.le_refl _⟩, ⟨by first | exact Kd.R_nil _ _ _ _ _ | exact Kd.N_nil _ _ _ _ _ | exact Kd.V_nil _ _ _ _ _ | exact Kd.Q_nil _ _ _ _ _ | exact Kd.S_nil _ _ _ _ _⟩, ⟨by (with_reducible repeat (first | refine blk_drewN ?_ _ | refine blk_drew ?_ | refine blk_alloc ?_ _)); exact BK201.out⟩, ⟨by repeat (first | (with_reducible first | exact HB.out | apply below_alloc | apply pw_below_drewN | apply below_drew1 | refine below_set ?_ GE201.out) | exact HB.out)⟩⟩
 case round =>
  clear H'
  try clear c1
  try clear p2
  obtain ⟨x5_1, x6_1, rfl, HA, HK1, HO_5, BK201, HB⟩ := hrel
  cases gk with
  | zero => exact absurd HA.out (by simp [corncribref03_Under.l0])
  | succ k1 =>
   have H := HA.out
   clear HA
   simp only [corncribref03_Under.l0] at H
   by_cases c4 : x6_1 < a0_0
   ·rw [if_pos c4] at H
    have c4b0 : decide (x6_1 < a0_0) = true := decide_eq_true c4
    clear c4
    by_cases c5 : 0 < (l1.length : Int)
    ·rw [if_pos c5] at H
     have c5b0 : decide (0 < (l1.length : Int)) = true := decide_eq_true c5
     have c5b1 : decide (0 < l1.length) = true := decide_eq_true (by omega)
     clear c5
     by_cases c6 : 0 ≤ ((rdOf ByteArray.empty l1 0).size : Int)
     ·rw [if_pos c6] at H
      have c6b0 := eq_true c6
      have c6b1 : decide (0 ≤ ((rdOf ByteArray.empty l1 0).size : Int)) = true := decide_eq_true c6
      clear c6
      by_cases c7 : (((rdOf ByteArray.empty l1 0).size : Int) : Int).toNat ≤ 281474976710656
      ·rw [if_pos c7] at H
       have c7b0 := eq_true c7
       have c7b1 : decide ((((rdOf ByteArray.empty l1 0).size : Int) : Int).toNat ≤ 281474976710656) = true := decide_eq_true c7
       clear c7
       obtain ⟨y203, hy203⟩ : ∃ y_ : List Int, y_ = (List.replicate (((rdOf ByteArray.empty l1 0).size : Int) : Int).toNat 0) := ⟨_, rfl⟩
       replace H : (corncribref03_Under.l1 k1 l1 x5_1 x6_1 y203 0 a0_0 a0_1 a0_2) = some r := by first | (rw [hy203]; with_reducible exact H) | (have H2_ := (Option.bind_some _ _).symm.trans H; rw [hy203]; with_reducible exact H2_) | (have H2_ := (Option.bind_some _ _).symm.trans H; with_reducible exact H2_) | with_reducible exact H | (rw [hy203]; exact H) | exact H
       have Ny203 := Aside0.mk hy203
       clear hy203
       have H' := Aside0.mk H
       clear H
       have hcz8_0 : wr.cell? ⟨gb201, 0, none⟩ = some (.int .i64 a0_0) := (blk_cell BK201.out 0).trans rfl
       have hcz8_1 : wr.cell? ⟨gb201, 1, none⟩ = some (.int .i64 a0_1) := (blk_cell BK201.out 1).trans rfl
       have hcz8_2 : wr.cell? ⟨gb201, 2, none⟩ = some (.string a0_2) := (blk_cell BK201.out 2).trans rfl
       have hfz8_0 := blk_frozen BK201.out 0
       have hfz8_1 := blk_frozen BK201.out 1
       have hfz8_2 := blk_frozen BK201.out 2
       have p202 : 0 ≤ (0 : Int) := (by omega)
       have q202 : 0 < (l1.length : Int) := of_decide_eq_true (by first | (with_reducible assumption) | assumption)
       obtain ⟨ad202, e202, hx202_0⟩ := Kd.at_string HR1.out 0 p202 q202
       cases e202
       have qi202 : (0 < l1.length) = True := eq_true (by omega)
       (try rw [show ((0 : Int)).toNat = 0 from rfl] at hx202_0)
       (try rw [Addr.add_zero'] at hx202_0)
       replace hx202_0 := (HB.out.cell (World.block_lt_of_cell? w _ hx202_0)).trans hx202_0
       replace p202 := eq_true p202
       replace q202 := eq_true q202
       go_wp2_with (first | ((with_reducible refine gate_dst (N := 21) rfl ?_); refine Kd.R_make (Kd.int .u8) _ 5 rfl (N := 21) rfl 60 _ _ rfl ((rdOf ByteArray.empty l1 0).size : Int) rfl rfl Tryd.underlying60 (.int .u8 0) 1 info5 rfl (by decide) (by omega) 0 (ok := fun _ => True) (okp := fun _ => True) rfl (fun _ hk => hk) trivial (of_decide_eq_true (by first | (with_reducible assumption) | assumption)) (Nat.le_trans (Nat.mul_le_mul_right _ (of_decide_eq_true (by first | (with_reducible assumption) | assumption) : ((rdOf ByteArray.empty l1 0).size : Int).toNat ≤ 281474976710656)) (by omega)) (Below.refl _ _) (Nat.le_refl _) ?_; intro v204 w9 ho10 hb hg_ hnew_; clear hg_ hnew_; (first | rw [← Ny203.out] at ho10 | (simp only [Int.reduceToNat] at ho10; rw [← Ny203.out] at ho10)); have n0_ := Aside0.mk (Kd.R_below (by (with_reducible repeat (first | apply Kd.R_alloc | apply Kd.R_drewN | apply Kd.R_drew)); exact HO_5.out) hb); have n1_ := Aside0.mk (Kd.R_lower ho10 (below_size (by repeat (first | (with_reducible first | exact HB.out | apply below_alloc | apply pw_below_drewN | apply below_drew1 | refine below_set ?_ GE201.out) | exact HB.out)))); have n2_ := Aside0.mk (blk_below (g := gb201) (o := .cells #[.int .i64 a0_0, .int .i64 a0_1, .string a0_2] 74 (0, 0)) (by (with_reducible repeat (first | refine blk_drewN ?_ _ | refine blk_drew ?_ | refine blk_alloc ?_ _)); exact BK201.out) hb); have n3_ := Aside0.mk (below_step (by repeat (first | (with_reducible first | exact HB.out | apply below_alloc | apply pw_below_drewN | apply below_drew1 | refine below_set ?_ GE201.out) | exact HB.out)) hb); clear HO_5; clear BK201; clear HB; have HO_5 := n0_; have HO205 := n1_; have BK201 := n2_; have HB := n3_; clear n0_ n1_ n2_ n3_; clear hb ho10))
       go_loopg [8] k1 (fun kq v8 w' => ∃ (x7_2 : List Int) (x8_2 : Int), v8 = .int .i64 x8_2 ∧ Aside0 (corncribref03_Under.l1 kq l1 x5_1 x6_1 x7_2 x8_2 a0_0 a0_1 a0_2 = some r) ∧ Aside0 (kq ≤ k1) ∧ Aside0 (Kd.R Kd.string 9 w' w.heap.size (fun _ => True) u5 x5_1) ∧ Aside0 (Kd.R (Kd.int .u8) 5 w' w.heap.size (fun _ => True) v204 x7_2) ∧ Aside0 (w'.heap[gb201]? = some (.cells #[.int .i64 a0_0, .int .i64 a0_1, .string a0_2] 74 (0, 0))) ∧ Aside0 (Below w.heap.size w w'))
       case atStart => exact ⟨(y203), (0), (by first | rfl | (simp; done) | (simp [*]; done)), H', ⟨Nat.le_refl _⟩, ⟨by (with_reducible repeat (first | apply Kd.R_alloc | apply Kd.R_drewN | apply Kd.R_drew)); exact HO_5.out⟩, ⟨by (with_reducible repeat (first | apply Kd.R_alloc | apply Kd.R_drewN | apply Kd.R_drew)); exact HO205.out⟩, ⟨by (with_reducible repeat (first | refine blk_drewN ?_ _ | refine blk_drew ?_ | refine blk_alloc ?_ _)); exact BK201.out⟩, ⟨by repeat (first | (with_reducible first | exact HB.out | apply below_alloc | apply pw_below_drewN | apply below_drew1 | refine below_set ?_ GE201.out) | exact HB.out)⟩⟩
       case round =>
        clear H'
        try clear c1
        try clear p2
        try clear q2
        try clear hx2
        try clear qi2
        try clear c4
        try clear c4b0
        try clear c5
        try clear c5b0
        try clear c5b1
        try clear c6
        try clear c6b0
        try clear c6b1
        try clear c7
        try clear c7b0
        try clear c7b1
        try clear hcz8_0
        try clear hcz8_1
        try clear hcz8_2
        try clear hfz8_0
        try clear hfz8_1
        try clear hfz8_2
        try clear hx202_0
        try clear p2
        try clear p202
        try clear q202
        obtain ⟨x7_2, x8_2, rfl, HA, HK2, HO_5, HO_7, BK201, HB⟩ := hrel
        cases gk with
        | zero => exact absurd HA.out (by simp [corncribref03_Under.l1])
        | succ k2 =>
         have H := HA.out
         clear HA
         simp only [corncribref03_Under.l1] at H
         by_cases c11 : x8_2 < a0_1
         ·rw [if_pos c11] at H
          have c11b0 : decide (x8_2 < a0_1) = true := decide_eq_true c11
          clear c11
          obtain ⟨ji12, hji12⟩ : ∃ j_ : Int, (wrap64 ((wrap64 (x6_1 * a0_1)) + x8_2)) = j_ := ⟨_, rfl⟩
          replace H : (if 0 ≤ (ji12) then (if (ji12) < (a0_2.size : Int) then (if 0 ≤ x8_2 then (if x8_2 < (l1.length : Int) then ((corncribref01_Scale.f k2 (bt a0_2 (ji12)) (rdOf ByteArray.empty l1 x8_2)).bind fun t210 => (corncribref03_Under.l2 k2 l1 x5_1 x6_1 x7_2 x8_2 t210 0 a0_0 a0_1 a0_2)) else (none)) else (none)) else (none)) else (none)) = some r := by first | (rw [hji12] at H; exact H) | (simp only [hji12] at H ⊢; exact H)
          have hji12w : (IntKind.i64.wrap ((wrap64 (x6_1 * a0_1)) + x8_2)) = ji12 := (i64_w _).trans hji12
          by_cases c13 : 0 ≤ (ji12)
          ·rw [if_pos c13] at H
           have c13b0 : decide (0 ≤ (ji12)) = true := decide_eq_true c13
           clear c13
           by_cases c14 : (ji12) < (a0_2.size : Int)
           ·rw [if_pos c14] at H
            have c14b0 : decide ((ji12) < (a0_2.size : Int)) = true := decide_eq_true c14
            clear c14
            by_cases c16 : 0 ≤ x8_2
            ·rw [if_pos c16] at H
             have c16b0 : decide (0 ≤ x8_2) = true := decide_eq_true c16
             clear c16
             by_cases c17 : x8_2 < (l1.length : Int)
             ·rw [if_pos c17] at H
              have c17b0 : decide (x8_2 < (l1.length : Int)) = true := decide_eq_true c17
              clear c17
              replace H := Option.bind_eq_some_iff.mp H
              obtain ⟨t210, A180, H⟩ := H
              replace H : (corncribref03_Under.l2 k2 l1 x5_1 x6_1 x7_2 x8_2 t210 0 a0_0 a0_1 a0_2) = some r := H
              have A18 := Aside0.mk A180
              clear A180
              have H' := Aside0.mk H
              clear H
              have hcz19_0 : wr.cell? ⟨gb201, 0, none⟩ = some (.int .i64 a0_0) := (blk_cell BK201.out 0).trans rfl
              have hcz19_1 : wr.cell? ⟨gb201, 1, none⟩ = some (.int .i64 a0_1) := (blk_cell BK201.out 1).trans rfl
              have hcz19_2 : wr.cell? ⟨gb201, 2, none⟩ = some (.string a0_2) := (blk_cell BK201.out 2).trans rfl
              have hfz19_0 := blk_frozen BK201.out 0
              have hfz19_1 := blk_frozen BK201.out 1
              have hfz19_2 := blk_frozen BK201.out 2
              try go_wp2
              have n0_ := Aside0.mk (Kd.R_drew HO_5.out)
              have n1_ := Aside0.mk (Kd.R_drew HO_7.out)
              have n2_ := Aside0.mk (blk_drew BK201.out)
              have n3_ := Aside0.mk (below_drew1 HB.out)
              clear HO_5
              clear HO_7
              clear BK201
              clear HB
              have HO_5 := n0_
              have HO_7 := n1_
              have BK201 := n2_
              have HB := n3_
              clear n0_ n1_ n2_ n3_
              have p15 : 0 ≤ ((ji12) : Int) := of_decide_eq_true (by first | (with_reducible assumption) | assumption)
              have q15 : (ji12) < (a0_2.size : Int) := of_decide_eq_true (by first | (with_reducible assumption) | assumption)
              have hx15 := bt_at a0_2 (ji12)
              replace p15 := eq_true p15
              replace q15 := eq_true q15
              have p209 : 0 ≤ (x8_2 : Int) := of_decide_eq_true (by first | (with_reducible assumption) | assumption)
              have q209 : x8_2 < (l1.length : Int) := of_decide_eq_true (by first | (with_reducible assumption) | assumption)
              obtain ⟨ad209, e209, hx209_0⟩ := Kd.at_string HR1.out x8_2 p209 q209
              have hw209_0 := hx209_0
              obtain rfl : ad202 = ad209 := (by injection e209)
              replace hx209_0 := (HB.out.cell (World.block_lt_of_cell? w _ hx209_0)).trans hx209_0
              replace p209 := eq_true p209
              replace q209 := eq_true q209
              refine start_ (n := 15) (S := fun w' => w'.cell? ⟨gb201, 0, none⟩ = some (.int .i64 a0_0) ∧ w'.cell? ⟨gb201, 1, none⟩ = some (.int .i64 a0_1) ∧ w'.cell? ⟨gb201, 2, none⟩ = some (.string a0_2) ∧ w'.cell? (ad202.add (x8_2).toNat) = some (.string (rdOf ByteArray.empty l1 x8_2))) (ds := []) #[false, false, false, false, false, false, false, false, false, false, false, false, false, false, false] (by kernel_rfl) rfl rfl ⟨(blk_cell BK201.out 0).trans rfl, (blk_cell BK201.out 1).trans rfl, (blk_cell BK201.out 2).trans rfl, ((HB.out.cell (World.block_lt_of_cell? w _ hw209_0)).trans hw209_0)⟩ (fun hHeld => ?_); refine with_tabW corncribref03_Under.tab9 corncribref03_Under.bits9 (fun HT_ HW_ => ?_)
              generalize wr.drew = w20 at HO_5 HO_7 BK201 HB hx209_0 hHeld ⊢
              refine pure_ (i := 0) (N := some 28) (v := ?_) (a' := ?_) #[true, false, false, false, false, false, false, false, false, false, false, false, false, false, false] rfl rfl (any_of HT_.out (by kernel_rfl)) (fun _ _ _ h => h) (Or.inl ⟨by rfl, ?_⟩) ?_ ?_
              rotate_left
              ·intro w'
               go_simp
               with_reducible rfl
              rotate_left
              ·simp only [Act.put, List.setIfInBounds_toArray, List.set_cons_zero, List.set_cons_succ, i64_w, i32_w]
               rfl
              refine pure_ (i := 2) (N := some 30) (v := ?_) (a' := ?_) #[true, false, true, false, false, false, false, false, false, false, false, false, false, false, false] rfl rfl (any_of HT_.out (by kernel_rfl)) (fun _ _ _ h => h) (Or.inl ⟨by rfl, ?_⟩) ?_ ?_
              rotate_left
              ·intro w'
               go_simp
               with_reducible rfl
              rotate_left
              ·simp only [Act.put, List.setIfInBounds_toArray, List.set_cons_zero, List.set_cons_succ, i64_w, i32_w]
               rfl
              refine pure_ (i := 3) (N := some 31) (v := ?_) (a' := ?_) #[true, false, true, true, false, false, false, false, false, false, false, false, false, false, false] rfl rfl (any_of HT_.out (by kernel_rfl)) (fun _ _ _ h => h) (Or.inl ⟨by rfl, ?_⟩) ?_ ?_
              rotate_left
              ·intro w'
               go_simp
               with_reducible rfl
              rotate_left
              ·simp only [Act.put, List.setIfInBounds_toArray, List.set_cons_zero, List.set_cons_succ, i64_w, i32_w]
               rfl
              refine pure_ (i := 6) (N := some 34) (v := ?_) (a' := ?_) #[true, false, true, true, false, false, true, false, false, false, false, false, false, false, false] rfl rfl (any_of HT_.out (by kernel_rfl)) (fun _ _ _ h => h) (Or.inl ⟨by rfl, ?_⟩) ?_ ?_
              rotate_left
              ·intro w'
               go_simp
               with_reducible rfl
              rotate_left
              ·simp only [Act.put, List.setIfInBounds_toArray, List.set_cons_zero, List.set_cons_succ, i64_w, i32_w]
               rfl
              refine pure_ (i := 9) (N := some 37) (v := ?_) (a' := ?_) #[true, false, true, true, false, false, true, false, false, true, false, false, false, false, false] rfl rfl (any_of HT_.out (by kernel_rfl)) (fun _ _ _ h => h) (Or.inl ⟨by rfl, ?_⟩) ?_ ?_
              rotate_left
              ·intro w'
               go_simp
               with_reducible rfl
              rotate_left
              ·simp only [Act.put, List.setIfInBounds_toArray, List.set_cons_zero, List.set_cons_succ, i64_w, i32_w]
               rfl
              refine pure_ (i := 10) (N := some 38) (v := ?_) (a' := ?_) #[true, false, true, true, false, false, true, false, false, true, true, false, false, false, false] rfl rfl (any_of HT_.out (by kernel_rfl)) (fun _ _ _ h => h) (Or.inl ⟨by rfl, ?_⟩) ?_ ?_
              rotate_left
              ·intro w'
               go_simp
               with_reducible rfl
              rotate_left
              ·simp only [Act.put, List.setIfInBounds_toArray, List.set_cons_zero, List.set_cons_succ, i64_w, i32_w]
               rfl
              refine pure_ (i := 11) (N := some 39) (v := ?_) (a' := ?_) #[true, false, true, true, false, false, true, false, false, true, true, true, false, false, false] rfl rfl (any_of HT_.out (by kernel_rfl)) (fun _ _ _ h => h) (Or.inl ⟨by rfl, ?_⟩) ?_ ?_
              rotate_left
              ·intro w'
               go_simp
               with_reducible rfl
              rotate_left
              ·simp only [Act.put, List.setIfInBounds_toArray, List.set_cons_zero, List.set_cons_succ, i64_w, i32_w]
               rfl
              refine take_ (i := 1) (N := some 29) (v := ?_) (a' := ?_) #[true, true, true, true, false, false, true, false, false, true, true, true, false, false, false] rfl rfl (take_ofW HT_.out HW_.out (by kernel_rfl)) (fun _ _ _ h => h) (Or.inl ⟨by rfl, ?_⟩) hHeld ?_ ?_
              rotate_left
              ·rintro w' ⟨s0, s1, s2, s3⟩
               go_simp
               with_reducible rfl
              rotate_left
              ·simp only [Act.put, List.setIfInBounds_toArray, List.set_cons_zero, List.set_cons_succ, i64_w, i32_w]
               rfl
              refine take_ (i := 4) (N := some 32) (v := ?_) (a' := ?_) #[true, true, true, true, true, false, true, false, false, true, true, true, false, false, false] rfl rfl (take_ofW HT_.out HW_.out (by kernel_rfl)) (fun _ _ _ h => h) (Or.inl ⟨by rfl, ?_⟩) hHeld ?_ ?_
              rotate_left
              ·rintro w' ⟨s0, s1, s2, s3⟩
               go_simp
               with_reducible rfl
              rotate_left
              ·simp only [Act.put, List.setIfInBounds_toArray, List.set_cons_zero, List.set_cons_succ, i64_w, i32_w]
               rfl
              refine pure_ (i := 5) (N := some 33) (v := ?_) (a' := ?_) #[true, true, true, true, true, true, true, false, false, true, true, true, false, false, false] rfl rfl (any_of HT_.out (by kernel_rfl)) (fun _ _ _ h => h) (Or.inl ⟨by rfl, ?_⟩) ?_ ?_
              rotate_left
              ·intro w'
               go_simp
               with_reducible rfl
              rotate_left
              ·simp only [Act.put, List.setIfInBounds_toArray, List.set_cons_zero, List.set_cons_succ, i64_w, i32_w]
               rfl
              refine pure_ (i := 7) (N := some 35) (v := ?_) (a' := ?_) #[true, true, true, true, true, true, true, true, false, true, true, true, false, false, false] rfl rfl (any_of HT_.out (by kernel_rfl)) (fun _ _ _ h => h) (Or.inl ⟨by rfl, ?_⟩) ?_ ?_
              rotate_left
              ·intro w'
               go_simp
               with_reducible rfl
              rotate_left
              ·simp only [Act.put, List.setIfInBounds_toArray, List.set_cons_zero, List.set_cons_succ, i64_w, i32_w]
               rfl
              refine take_ (i := 8) (N := some 36) (v := ?_) (a' := ?_) #[true, true, true, true, true, true, true, true, true, true, true, true, false, false, false] rfl rfl (take_ofW HT_.out HW_.out (by kernel_rfl)) (fun _ _ _ h => h) (Or.inl ⟨by rfl, ?_⟩) hHeld ?_ ?_
              rotate_left
              ·rintro w' ⟨s0, s1, s2, s3⟩
               go_simp
               with_reducible rfl
              rotate_left
              ·simp only [Act.put, List.setIfInBounds_toArray, List.set_cons_zero, List.set_cons_succ, i64_w, i32_w]
               rfl
              refine take_ (i := 12) (N := some 40) (v := ?_) (a' := ?_) #[true, true, true, true, true, true, true, true, true, true, true, true, true, false, false] rfl rfl (take_ofW HT_.out HW_.out (by kernel_rfl)) (fun _ _ _ h => h) (Or.inl ⟨by rfl, ?_⟩) hHeld ?_ ?_
              rotate_left
              ·rintro w' ⟨s0, s1, s2, s3⟩
               go_simp
               with_reducible rfl
              rotate_left
              ·simp only [Act.put, List.setIfInBounds_toArray, List.set_cons_zero, List.set_cons_succ, i64_w, i32_w]
               rfl
              refine one_ (i := 13) (N := some 41) #[true, true, true, true, true, true, true, true, true, true, true, true, true, true, false] rfl rfl (one_of HT_.out (by kernel_rfl)) (by decide) (fun K hK => ?_)
              refine goes_ Tryd.func83 (by kernel_rfl) rfl #[.int .u8 (bt a0_2 (ji12)), .string (rdOf ByteArray.empty l1 x8_2)] (by rfl) rfl rfl (by (try simp only [List.map_toArray, List.map_cons, List.map_nil]); first | done | (simp only [hji12]; rfl) | rfl | (simp only [List.length_drop, List.length_take]; rfl)) ?_
              with_reducible refine (corncribref01_Scale.calls k2 (bt a0_2 (ji12)) (rdOf ByteArray.empty l1 x8_2) t210 _ A18.out).mono ?_
              rintro e w21 ⟨rfl, hb⟩
              refine ⟨_, rfl, ?_⟩
              have n0_ := Aside0.mk (Kd.R_below (by (with_reducible repeat (first | apply Kd.R_alloc | apply Kd.R_drewN | apply Kd.R_drew)); exact HO_5.out) hb)
              have n1_ := Aside0.mk (Kd.R_below (by (with_reducible repeat (first | apply Kd.R_alloc | apply Kd.R_drewN | apply Kd.R_drew)); exact HO_7.out) hb)
              have n2_ := Aside0.mk (blk_below (g := gb201) (o := .cells #[.int .i64 a0_0, .int .i64 a0_1, .string a0_2] 74 (0, 0)) (by (with_reducible repeat (first | refine blk_drewN ?_ _ | refine blk_drew ?_ | refine blk_alloc ?_ _)); exact BK201.out) hb)
              have n3_ := Aside0.mk (below_step (by repeat (first | (with_reducible first | exact HB.out | apply below_alloc | apply pw_below_drewN | apply below_drew1 | refine below_set ?_ GE201.out) | exact HB.out)) hb)
              clear HO_5
              clear HO_7
              clear BK201
              clear HB
              have HO_5 := n0_
              have HO_7 := n1_
              have BK201 := n2_
              have HB := n3_
              clear n0_ n1_ n2_ n3_
              (try clear hb)
              (try clear hb2)
              (try clear hk)
              (try clear hi)
              refine hK.out _ _ ⟨(blk_cell BK201.out 0).trans rfl, (blk_cell BK201.out 1).trans rfl, (blk_cell BK201.out 2).trans rfl, ((HB.out.cell (World.block_lt_of_cell? w _ hw209_0)).trans hw209_0)⟩ (fun hHeld => ?_)
              clear hK K
              refine norm_ (a' := ?_) ?_ ?_
              rotate_left
              ·show Act.put _ (some 41) _ = _
               simp only [Act.put, List.setIfInBounds_toArray, List.set_cons_zero, List.set_cons_succ, i64_w, i32_w]
               rfl
              refine pure_ (i := 14) (N := some 9) (v := ?_) (a' := ?_) #[true, true, true, true, true, true, true, true, true, true, true, true, true, true, true] rfl rfl (any_of HT_.out (by kernel_rfl)) (fun _ _ _ h => h) (Or.inl ⟨by rfl, ?_⟩) ?_ ?_
              rotate_left
              ·intro w'
               go_simp
               with_reducible rfl
              rotate_left
              ·simp only [Act.put, List.setIfInBounds_toArray, List.set_cons_zero, List.set_cons_succ, i64_w, i32_w]
               rfl
              refine done_ (done_of HT_.out (by kernel_rfl)) ?_
              try go_wp2
              go_loopg [10] k2 (fun kq v10 w' => ∃ (x7_3 : List Int) (x10_3 : Int), v10 = .int .i64 x10_3 ∧ Aside0 (corncribref03_Under.l2 kq l1 x5_1 x6_1 x7_3 x8_2 t210 x10_3 a0_0 a0_1 a0_2 = some r) ∧ Aside0 (kq ≤ k2) ∧ Aside0 (Kd.R Kd.string 9 w' w.heap.size (fun _ => True) u5 x5_1) ∧ Aside0 (Kd.R (Kd.int .u8) 5 w' w.heap.size (fun _ => True) v204 x7_3) ∧ Aside0 (w'.heap[gb201]? = some (.cells #[.int .i64 a0_0, .int .i64 a0_1, .string a0_2] 74 (0, 0))) ∧ Aside0 (Below w.heap.size w w'))
              case atStart => exact ⟨(x7_2), (0), (by first | rfl | (simp; done) | (simp [*]; done)), H', ⟨Nat.le_refl _⟩, ⟨by (with_reducible repeat (first | apply Kd.R_alloc | apply Kd.R_drewN | apply Kd.R_drew)); exact HO_5.out⟩, ⟨by (with_reducible repeat (first | apply Kd.R_alloc | apply Kd.R_drewN | apply Kd.R_drew)); exact HO_7.out⟩, ⟨by (with_reducible repeat (first | refine blk_drewN ?_ _ | refine blk_drew ?_ | refine blk_alloc ?_ _)); exact BK201.out⟩, ⟨by repeat (first | (with_reducible first | exact HB.out | apply below_alloc | apply pw_below_drewN | apply below_drew1 | refine below_set ?_ GE201.out) | exact HB.out)⟩⟩
              case round =>
               clear H'
               try clear c1
               try clear p1
               try clear q1
               try clear hx1
               try clear p2
               try clear q2
               try clear hx2
               try clear qi2
               try clear c4
               try clear c4b0
               try clear c5
               try clear c5b0
               try clear c5b1
               try clear c6
               try clear c6b0
               try clear c6b1
               try clear p6
               try clear c7
               try clear c7b0
               try clear c7b1
               try clear c8
               try clear c11
               try clear c11b0
               try clear c13
               try clear c13b0
               try clear c14
               try clear c14b0
               try clear p15
               try clear q15
               try clear hx15
               try clear c16
               try clear c16b0
               try clear c17
               try clear c17b0
               try clear p20
               try clear q20
               try clear hx20
               try clear qi20
               try clear hcz19_0
               try clear hcz19_1
               try clear hcz19_2
               try clear hcz8_0
               try clear hcz8_1
               try clear hcz8_2
               try clear hfz19_0
               try clear hfz19_1
               try clear hfz19_2
               try clear hfz8_0
               try clear hfz8_1
               try clear hfz8_2
               try clear hx202_0
               try clear hx209_0
               try clear p15
               try clear p2
               try clear p202
               try clear p209
               try clear q15
               try clear q2
               try clear q202
               try clear q209
               obtain ⟨x7_3, x10_3, rfl, HA, HK3, HO_5, HO_7, BK201, HB⟩ := hrel
               cases gk with
               | zero => exact absurd HA.out (by simp [corncribref03_Under.l2])
               | succ k3 =>
                have H := HA.out
                clear HA
                simp only [corncribref03_Under.l2] at H
                by_cases c22 : x10_3 < (x7_3.length : Int)
                ·rw [if_pos c22] at H
                 have c22b0 : decide (x10_3 < (x7_3.length : Int)) = true := decide_eq_true c22
                 clear c22
                 by_cases c23 : 0 ≤ x10_3
                 ·rw [if_pos c23] at H
                  have c23b0 : decide (0 ≤ x10_3) = true := decide_eq_true c23
                  clear c23
                  by_cases c24 : x10_3 < (t210.size : Int)
                  ·rw [if_pos c24] at H
                   have c24b0 : decide (x10_3 < (t210.size : Int)) = true := decide_eq_true c24
                   clear c24
                   obtain ⟨y212, hy212⟩ : ∃ y_ : List Int, y_ = (x7_3.set (x10_3 : Int).toNat (Go.bits .xor .u8 (rd x7_3 x10_3) (bt t210 x10_3))) := ⟨_, rfl⟩
                   replace H : (corncribref03_Under.l2 k3 l1 x5_1 x6_1 y212 x8_2 t210 (wrap64 (x10_3 + 1)) a0_0 a0_1 a0_2) = some r := by first | (rw [hy212]; with_reducible exact H) | (have H2_ := (Option.bind_some _ _).symm.trans H; rw [hy212]; with_reducible exact H2_) | (have H2_ := (Option.bind_some _ _).symm.trans H; with_reducible exact H2_) | with_reducible exact H | (rw [hy212]; exact H) | exact H
                   have Ny212 := Aside0.mk hy212
                   clear hy212
                   have H' := Aside0.mk H
                   clear H
                   obtain ⟨Ao27, co27, eo27⟩ := Kd.R_slice HO_7.out
                   subst eo27
                   try go_wp2
                   have n0_ := Aside0.mk (Kd.R_drew HO_5.out)
                   have n1_ := Aside0.mk (Kd.R_drew HO_7.out)
                   have n2_ := Aside0.mk (blk_drew BK201.out)
                   have n3_ := Aside0.mk (below_drew1 HB.out)
                   clear HO_5
                   clear HO_7
                   clear BK201
                   clear HB
                   have HO_5 := n0_
                   have HO_7 := n1_
                   have BK201 := n2_
                   have HB := n3_
                   clear n0_ n1_ n2_ n3_
                   have p211 : 0 ≤ (x10_3 : Int) := of_decide_eq_true (by first | (with_reducible assumption) | assumption)
                   have q211 : x10_3 < (x7_3.length : Int) := of_decide_eq_true (by first | (with_reducible assumption) | assumption)
                   obtain ⟨ad211, e211, hx211_0⟩ := Kd.at_int (Kd.R_reads' HO_7.out).2.2 x10_3 p211 q211
                   cases e211
                   replace p211 := eq_true p211
                   replace q211 := eq_true q211
                   have p25 : 0 ≤ (x10_3 : Int) := of_decide_eq_true (by first | (with_reducible assumption) | assumption)
                   have q25 : x10_3 < (t210.size : Int) := of_decide_eq_true (by first | (with_reducible assumption) | assumption)
                   have hx25 := bt_at t210 x10_3
                   replace p25 := eq_true p25
                   replace q25 := eq_true q25
                   have p26 : 0 ≤ (x10_3 : Int) := of_decide_eq_true (by first | (with_reducible assumption) | assumption)
                   have q26 : (x10_3 : Int) < ((x7_3.length : Int) : Int) := of_decide_eq_true (by first | (with_reducible assumption) | assumption)
                   obtain ⟨go26, co26, eo26, gb26, gl26, cl26, HG26⟩ := Kd.R_form HO_7.out (by omega)
                   (first | cases eo26 | (injection eo26 with ea_ en_ ec_; (first | subst ea_ | (injection ea_ with ea_; subst ea_)); subst ec_; clear en_))
                   have GB26 := Aside0.mk gb26
                   have GG26 := Aside0.mk HG26
                   clear gb26 gl26 HG26
                   (first | simp only [add_plain] at hx211_0 | skip)
                   obtain ⟨hx26_0, hf26_0⟩ := Kd.R_celln 0 HO_7.out (x10_3 : Int) p26 q26
                   replace p26 := eq_true p26
                   replace q26 := eq_true q26
                   have HP29 := Kd.R_putn HO_7.out (x10_3 : Int) (Go.bits .xor .u8 (rd x7_3 x10_3) (bt t210 x10_3))
                   rw [← Ny212.out] at HP29
                   have HQ29 := Aside0.mk HP29
                   clear HP29
                   refine start_ (n := 12) (S := fun w' => w'.cell? ⟨go26, (x10_3).toNat, none⟩ = some (.int .u8 (rd x7_3 x10_3))) (ds := [11]) #[false, false, false, false, false, false, false, false, false, false, false, false] (by kernel_rfl) rfl rfl (hx211_0) (fun hHeld => ?_); refine with_tabW corncribref03_Under.tab13 corncribref03_Under.bits13 (fun HT_ HW_ => ?_)
                   generalize wr.drew = w28 at HO_5 HO_7 BK201 HB GG26 HQ29 hf26_0 hx211_0 hx26_0 hHeld ⊢
                   refine pure_ (i := 0) (N := some 48) (v := ?_) (a' := ?_) #[true, false, false, false, false, false, false, false, false, false, false, false] rfl rfl (any_of HT_.out (by kernel_rfl)) (fun _ _ _ h => h) (Or.inl ⟨by rfl, ?_⟩) ?_ ?_
                   rotate_left
                   ·intro w'
                    go_simp
                    with_reducible rfl
                   rotate_left
                   ·simp only [Act.put, List.setIfInBounds_toArray, List.set_cons_zero, List.set_cons_succ, i64_w, i32_w]
                    rfl
                   refine pure_ (i := 1) (N := some 49) (v := ?_) (a' := ?_) #[true, true, false, false, false, false, false, false, false, false, false, false] rfl rfl (any_of HT_.out (by kernel_rfl)) (fun _ _ _ h => h) (Or.inl ⟨by rfl, ?_⟩) ?_ ?_
                   rotate_left
                   ·intro w'
                    go_simp
                    with_reducible rfl
                   rotate_left
                   ·simp only [Act.put, List.setIfInBounds_toArray, List.set_cons_zero, List.set_cons_succ, i64_w, i32_w]
                    rfl
                   refine pure_ (i := 2) (N := some 50) (v := ?_) (a' := ?_) #[true, true, true, false, false, false, false, false, false, false, false, false] rfl rfl (any_of HT_.out (by kernel_rfl)) (fun _ _ _ h => h) (Or.inl ⟨by rfl, ?_⟩) ?_ ?_
                   rotate_left
                   ·intro w'
                    go_simp
                    with_reducible rfl
                   rotate_left
                   ·simp only [Act.put, List.setIfInBounds_toArray, List.set_cons_zero, List.set_cons_succ, i64_w, i32_w]
                    rfl
                   refine pure_ (i := 3) (N := some 51) (v := ?_) (a' := ?_) #[true, true, true, true, false, false, false, false, false, false, false, false] rfl rfl (any_of HT_.out (by kernel_rfl)) (fun _ _ _ h => h) (Or.inl ⟨by rfl, ?_⟩) ?_ ?_
                   rotate_left
                   ·intro w'
                    go_simp
                    with_reducible rfl
                   rotate_left
                   ·simp only [Act.put, List.setIfInBounds_toArray, List.set_cons_zero, List.set_cons_succ, i64_w, i32_w]
                    rfl
                   refine pure_ (i := 4) (N := some 52) (v := ?_) (a' := ?_) #[true, true, true, true, true, false, false, false, false, false, false, false] rfl rfl (any_of HT_.out (by kernel_rfl)) (fun _ _ _ h => h) (Or.inl ⟨by rfl, ?_⟩) ?_ ?_
                   rotate_left
                   ·intro w'
                    go_simp
                    with_reducible rfl
                   rotate_left
                   ·simp only [Act.put, List.setIfInBounds_toArray, List.set_cons_zero, List.set_cons_succ, i64_w, i32_w]
                    rfl
                   refine pure_ (i := 6) (N := some 54) (v := ?_) (a' := ?_) #[true, true, true, true, true, false, true, false, false, false, false, false] rfl rfl (any_of HT_.out (by kernel_rfl)) (fun _ _ _ h => h) (Or.inl ⟨by rfl, ?_⟩) ?_ ?_
                   rotate_left
                   ·intro w'
                    go_simp
                    with_reducible rfl
                   rotate_left
                   ·simp only [Act.put, List.setIfInBounds_toArray, List.set_cons_zero, List.set_cons_succ, i64_w, i32_w]
                    rfl
                   refine pure_ (i := 7) (N := some 55) (v := ?_) (a' := ?_) #[true, true, true, true, true, false, true, true, false, false, false, false] rfl rfl (any_of HT_.out (by kernel_rfl)) (fun _ _ _ h => h) (Or.inl ⟨by rfl, ?_⟩) ?_ ?_
                   rotate_left
                   ·intro w'
                    go_simp
                    with_reducible rfl
                   rotate_left
                   ·simp only [Act.put, List.setIfInBounds_toArray, List.set_cons_zero, List.set_cons_succ, i64_w, i32_w]
                    rfl
                   refine take_ (i := 5) (N := some 53) (v := ?_) (a' := ?_) #[true, true, true, true, true, true, true, true, false, false, false, false] rfl rfl (take_ofW HT_.out HW_.out (by kernel_rfl)) (fun _ _ _ h => h) (Or.inl ⟨by rfl, ?_⟩) hHeld ?_ ?_
                   rotate_left
                   ·intro w' s0
                    go_simp
                    with_reducible rfl
                   rotate_left
                   ·simp only [Act.put, List.setIfInBounds_toArray, List.set_cons_zero, List.set_cons_succ, i64_w, i32_w]
                    rfl
                   refine take_ (i := 8) (N := some 56) (v := ?_) (a' := ?_) #[true, true, true, true, true, true, true, true, true, false, false, false] rfl rfl (take_ofW HT_.out HW_.out (by kernel_rfl)) (fun _ _ _ h => h) (Or.inl ⟨by rfl, ?_⟩) hHeld ?_ ?_
                   rotate_left
                   ·intro w' s0
                    go_simp
                    with_reducible rfl
                   rotate_left
                   ·simp only [Act.put, List.setIfInBounds_toArray, List.set_cons_zero, List.set_cons_succ, i64_w, i32_w]
                    rfl
                   refine pure_ (i := 9) (N := some 57) (v := ?_) (a' := ?_) #[true, true, true, true, true, true, true, true, true, true, false, false] rfl rfl (any_of HT_.out (by kernel_rfl)) (fun _ _ _ h => h) (Or.inl ⟨by rfl, ?_⟩) ?_ ?_
                   rotate_left
                   ·intro w'
                    go_simp
                    with_reducible rfl
                   rotate_left
                   ·simp only [Act.put, List.setIfInBounds_toArray, List.set_cons_zero, List.set_cons_succ, i64_w, i32_w]
                    rfl
                   refine pure_ (i := 10) (N := some 58) (v := ?_) (a' := ?_) #[true, true, true, true, true, true, true, true, true, true, true, false] rfl rfl (any_of HT_.out (by kernel_rfl)) (fun _ _ _ h => h) (Or.inl ⟨by rfl, ?_⟩) ?_ ?_
                   rotate_left
                   ·intro w'
                    go_simp
                    with_reducible rfl
                   rotate_left
                   ·simp only [Act.put, List.setIfInBounds_toArray, List.set_cons_zero, List.set_cons_succ, i64_w, i32_w]
                    rfl
                   refine last_ (i := 11) (N := none) #[true, true, true, true, true, true, true, true, true, true, true, true] rfl rfl (one_of HT_.out (by kernel_rfl)) (by decide) (fun K hK => ?_)
                   refine skip_ (w1 := ?_) (by rfl) rfl ?_ ?_
                   rotate_left
                   ·go_simp
                    rfl
                   refine hK.out _ _ ?_
                   clear hK K
                   refine done_ (done_of HT_.out (by kernel_rfl)) ?_
                   try go_wp2
                   go_roundg k3
                   case measure => have := HK1.out; have := HK2.out; have := HK3.out; omega
                   case rel => exact ⟨(y212), (wrap64 (x10_3 + 1)), (by first | rfl | (simp; done) | (simp [*]; done)), H', ⟨by have := HK1.out; have := HK2.out; have := HK3.out; omega⟩, ⟨by (with_reducible repeat (first | apply Kd.R_alloc | apply Kd.R_drewN | apply Kd.R_drew)); exact Kd.R_mono (Kd.R_far (p := ⟨go26, (x10_3 : Int).toNat, none⟩) (Kd.R_types HO_5.out GG26.out (by decide)) (fun _ hk => hk.2) (.int .u8 (Go.bits .xor .u8 (rd x7_3 x10_3) (bt t210 x10_3)))) (fun _ hk => trivial)⟩, ⟨by (with_reducible repeat (first | apply Kd.R_alloc | apply Kd.R_drewN | apply Kd.R_drew)); exact HQ29.out⟩, ⟨by (with_reducible repeat (first | refine blk_drewN ?_ _ | refine blk_drew ?_ | refine blk_alloc ?_ _)); refine blk_far ?_ (by have h_ := Kd.R_ne HO_7.out BK201.out (by decide); intro e_; exact h_ (by rw [e_]; rfl)) _; (with_reducible repeat (first | refine blk_drewN ?_ _ | refine blk_drew ?_ | refine blk_alloc ?_ _)); exact BK201.out⟩, ⟨by repeat (first | (with_reducible first | exact HB.out | apply below_alloc | apply pw_below_drewN | apply below_drew1 | refine below_set ?_ GB26.out | refine below_set ?_ GE201.out) | exact HB.out)⟩⟩
                  ·rw [if_neg c24] at H
                   exact absurd H (by simp)
                 ·rw [if_neg c23] at H
                  exact absurd H (by simp)
                ·rw [if_neg c22] at H
                 have c22b0 : decide (x10_3 < (x7_3.length : Int)) = false := decide_eq_false c22
                 clear c22
                 have H' := Aside0.mk H
                 clear H
                 obtain ⟨Ao30, co30, eo30⟩ := Kd.R_slice HO_7.out
                 subst eo30
                 go_wp2
                 go_roundg k3
                 case measure => have := HK1.out; have := HK2.out; have := HK3.out; omega
                 case rel => exact ⟨(x7_3), (wrap64 (x8_2 + 1)), (by first | rfl | (simp; done) | (simp [*]; done)), H', ⟨by have := HK1.out; have := HK2.out; have := HK3.out; omega⟩, ⟨by (with_reducible repeat (first | apply Kd.R_alloc | apply Kd.R_drewN | apply Kd.R_drew)); exact HO_5.out⟩, ⟨by (with_reducible repeat (first | apply Kd.R_alloc | apply Kd.R_drewN | apply Kd.R_drew)); exact HO_7.out⟩, ⟨by (with_reducible repeat (first | refine blk_drewN ?_ _ | refine blk_drew ?_ | refine blk_alloc ?_ _)); exact BK201.out⟩, ⟨by repeat (first | (with_reducible first | exact HB.out | apply below_alloc | apply pw_below_drewN | apply below_drew1 | refine below_set ?_ GE201.out) | exact HB.out)⟩⟩
             ·rw [if_neg c17] at H
              exact absurd H (by simp)
            ·rw [if_neg c16] at H
             exact absurd H (by simp)
           ·rw [if_neg c14] at H
            exact absurd H (by simp)
          ·rw [if_neg c13] at H
           exact absurd H (by simp)
         ·rw [if_neg c11] at H
          have c11b0 : decide (x8_2 < a0_1) = false := decide_eq_false c11
          clear c11
          by_cases c31 : x5_1.length < 8796093022208
          ·rw [if_pos c31] at H
           have LMc31 := Aside0.mk c31
           clear c31
           obtain ⟨y206, hy206⟩ : ∃ y_ : List ByteArray, y_ = (x5_1 ++ [strOfNums x7_2]) := ⟨_, rfl⟩
           replace H : (corncribref03_Under.l0 k2 l1 y206 (wrap64 (x6_1 + 1)) a0_0 a0_1 a0_2) = some r := by first | (rw [hy206]; with_reducible exact H) | (have H2_ := (Option.bind_some _ _).symm.trans H; rw [hy206]; with_reducible exact H2_) | (have H2_ := (Option.bind_some _ _).symm.trans H; with_reducible exact H2_) | with_reducible exact H | (rw [hy206]; exact H) | exact H
           have Ny206 := Aside0.mk hy206
           clear hy206
           have H' := Aside0.mk H
           clear H
           have hcz32_0 : wr.cell? ⟨gb201, 0, none⟩ = some (.int .i64 a0_0) := (blk_cell BK201.out 0).trans rfl
           have hcz32_1 : wr.cell? ⟨gb201, 1, none⟩ = some (.int .i64 a0_1) := (blk_cell BK201.out 1).trans rfl
           have hcz32_2 : wr.cell? ⟨gb201, 2, none⟩ = some (.string a0_2) := (blk_cell BK201.out 2).trans rfl
           have hfz32_0 := blk_frozen BK201.out 0
           have hfz32_1 := blk_frozen BK201.out 1
           have hfz32_2 := blk_frozen BK201.out 2
           have hcv33 := own_string (P := Tryd.prog) Tryd.underlying60 Tryd.underlying5 Tryd.underlying9 (Kd.own_of_R HO_7.out)
           go_wp2_with (first | ((with_reducible refine gate_builtin (b := .append) (xs := #[.tmp 59, .tmp 62]) rfl ?_); at_builtin; refine Kd.R_append Kd.string (w0 := w) w.heap.size rfl (.tmp 59) (.tmp 62) 25 9 (.string ⟨#[]⟩) 16 rfl Tryd.underlying25 info9 rfl (by decide) (by omega) u5 x5_1 (strOfNums x7_2) [.string (strOfNums x7_2)] (fun _ => True) (fun _ => False) rfl rfl ?aP (fun _ hk => hk.elim) ?aF ?aO ?aB ?aS ?aL ?_; (case aP => exact rfl); (case aB => exact (by repeat (first | (with_reducible first | exact HB.out | apply below_alloc | apply pw_below_drewN | apply below_drew1 | refine below_set ?_ GE201.out) | exact HB.out))); (case aF => exact (fun _ _ => trivial)); (case aO => exact (by (with_reducible repeat (first | apply Kd.R_alloc | apply Kd.R_drewN | apply Kd.R_drew)); exact HO_5.out)); (case aS => exact (below_size (by repeat (first | (with_reducible first | exact HB.out | apply below_alloc | apply pw_below_drewN | apply below_drew1 | refine below_set ?_ GE201.out) | exact HB.out)))); (case aL => have := LMc31.out; omega); intro v207 w34 ho hb hg hat; rw [← Ny206.out] at ho; have n0_ := Aside0.mk (Kd.R_over' (by (with_reducible repeat (first | apply Kd.R_alloc | apply Kd.R_drewN | apply Kd.R_drew)); exact HO_7.out) (Kd.R_typed (by (with_reducible repeat (first | apply Kd.R_alloc | apply Kd.R_drewN | apply Kd.R_drew)); exact HO_5.out)) (by decide) hg); have n1_ := Aside0.mk (blk_grown (g := gb201) (o := .cells #[.int .i64 a0_0, .int .i64 a0_1, .string a0_2] 74 (0, 0)) (by (with_reducible repeat (first | refine blk_drewN ?_ _ | refine blk_drew ?_ | refine blk_alloc ?_ _)); exact BK201.out) hg (Kd.R_ne HO_5.out BK201.out (by decide))); have n2_ := Aside0.mk (hb); have n3_ := Aside0.mk (ho); clear HO_7; clear BK201; clear HB; clear HO_5; have HO_7 := n0_; have BK201 := n1_; have HB := n2_; have HO208 := n3_; clear n0_ n1_ n2_ n3_; clear ho hb hg hat))
           go_roundg k2
           case measure => have := HK1.out; have := HK2.out; omega
           case rel => exact ⟨(y206), (wrap64 (x6_1 + 1)), (by first | rfl | (simp; done) | (simp [*]; done)), H', ⟨by have := HK1.out; have := HK2.out; omega⟩, ⟨by (with_reducible repeat (first | apply Kd.R_alloc | apply Kd.R_drewN | apply Kd.R_drew)); exact HO208.out⟩, ⟨by (with_reducible repeat (first | refine blk_drewN ?_ _ | refine blk_drew ?_ | refine blk_alloc ?_ _)); exact BK201.out⟩, ⟨by repeat (first | (with_reducible first | exact HB.out | apply below_alloc | apply pw_below_drewN | apply below_drew1 | refine below_set ?_ GE201.out) | exact HB.out)⟩⟩
          ·rw [if_neg c31] at H
           exact absurd H (by simp)
      ·rw [if_neg c7] at H
       exact absurd H (by simp)
     ·rw [if_neg c6] at H
      exact absurd H (by simp)
    ·rw [if_neg c5] at H
     exact absurd H (by simp)
   ·rw [if_neg c4] at H
    have c4b0 : decide (x6_1 < a0_0) = false := decide_eq_false c4
    clear c4
    obtain rfl := Option.some.inj H
    have hcz35_0 : wr.cell? ⟨gb201, 0, none⟩ = some (.int .i64 a0_0) := (blk_cell BK201.out 0).trans rfl
    have hcz35_1 : wr.cell? ⟨gb201, 1, none⟩ = some (.int .i64 a0_1) := (blk_cell BK201.out 1).trans rfl
    have hcz35_2 : wr.cell? ⟨gb201, 2, none⟩ = some (.string a0_2) := (blk_cell BK201.out 2).trans rfl
    have hfz35_0 := blk_frozen BK201.out 0
    have hfz35_1 := blk_frozen BK201.out 1
    have hfz35_2 := blk_frozen BK201.out 2
    go_wp2
    go_ret
    exact ⟨_, by first | rfl | (simp [errW_none, errW_some] <;> rfl) | (simp [*, errW_none, errW_some] <;> rfl), by (with_reducible repeat (first | apply Kd.R_alloc | apply Kd.R_drewN | apply Kd.R_drew)); exact HO_5.out, by repeat (first | (with_reducible first | exact HB.out | apply below_alloc | apply pw_below_drewN | apply below_drew1 | refine below_set ?_ GE201.out) | exact HB.out)⟩

end Go.Proofs.YtegmmefijihdeaaDoor.PS
namespace Go.Proofs.YtegmmefijihdeaaDoor.PS
open Go.RowKit Go.Proofs.YtegmmefijihdeaaDoorW.PrintWords Go.Proofs.YtegmmefijihdeaaDoorW.PrintLast Go.Proofs.YtegmmefijihdeaaDoorW.PrintMore Go.Proofs.YtegmmefijihdeaaDoor.Gf Go.Proofs.YtegmmefijihdeaaDoor.Fld Go.Proofs.YtegmmefijihdeaaDoor.Grd Go.Proofs.YtegmmefijihdeaaDoor.Rowb
set_option linter.unusedVariables false
set_option linter.unusedSimpArgs false
theorem refcode_f (k m : Int) : corncribref03_Code.f k m = some (codeB k m) := code_f k m
theorem refsize_f (k long : Int) : corncribref03_Size.f k long = some (sizeV k long) := by
  rw [← size_f]
  unfold corncribref03_Size.f stripe_Size.f
  rw [refcode_f, code_f]
theorem codeB_in {K M : Nat} (h1 : 1 ≤ K) (h2 : K + M ≤ 255) : codeB (K : Int) (M : Int) = true := by unfold codeB; exact decide_eq_true (by omega)
theorem codeB_0 {K : Nat} (h1 : 1 ≤ K) (h2 : K ≤ 255) : codeB (K : Int) 0 = true := by unfold codeB; exact decide_eq_true (by omega)
theorem sizeV_in {K L : Nat} (h1 : 1 ≤ K) (h2 : K ≤ 255) (hL : L ≤ 2048) : sizeV (K : Int) (L : Int) = ((sizeN K L : Int), 0) := by
  unfold sizeV
  rw [if_pos ⟨codeB_0 h1 h2, by omega, by omega⟩]
  rfl
/-! Plain -/
/-- Plain bytes behind i rounds. -/
def plainP (K : Nat) (o : ByteArray) (i : Nat) : List UInt8 := be4 o.size ++ o.data.toList.take i ++ zeros (sizeN K o.size * K - (4 + i))
theorem plainP_len (K : Nat) (o : ByteArray) (i : Nat) (h1 : 1 ≤ K) (hi : i ≤ o.size) : (plainP K o i).length = sizeN K o.size * K := by
  have := sizeN_ge K o.size h1
  have hl : o.data.toList.length = o.size := Array.length_toList
  unfold plainP be4
  rw [List.length_append, List.length_append, zeros_len, List.length_take, hl]
  show 4 + min i o.size + _ = _
  omega
theorem plainP_full (K : Nat) (o : ByteArray) : plainP K o o.size = plainL K o := by
  unfold plainP plainL
  rw [List.take_of_length_le (by rw [Array.length_toList]; exact Nat.le_refl _)]
theorem zeros_set (n : Nat) (b : UInt8) (h : 0 < n) : (zeros n).set 0 b = b :: zeros (n - 1) := by
  obtain ⟨m, rfl⟩ : ∃ m, n = m + 1 := ⟨n - 1, by omega⟩
  rfl
theorem plainP_set (K : Nat) (o : ByteArray) (i : Nat) (h1 : 1 ≤ K) (hi : i < o.size) : (plainP K o i).set (4 + i) (o.data.toList.getD i 0) = plainP K o (i + 1) := by
  have hg := sizeN_ge K o.size h1
  have hl : o.data.toList.length = o.size := Array.length_toList
  have h4 : (be4 o.size).length = 4 := rfl
  unfold plainP
  rw [List.set_append_right _ _ (by rw [List.length_append, h4, List.length_take]; omega)]
  have e : 4 + i - (be4 o.size ++ o.data.toList.take i).length = 0 := by rw [List.length_append, h4, List.length_take]; omega
  rw [e, zeros_set _ _ (by omega), List.take_succ_eq_append_getElem (by omega), List.getD_eq_getElem?_getD, List.getElem?_eq_getElem (by omega), ← List.append_assoc, List.append_assoc _ [_] _]
  congr 2
theorem plain_from (K : Nat) (o : ByteArray) (h1 : 1 ≤ K) (h2 : K ≤ 255) (ho : o.size ≤ 2048) (d : Nat) : ∀ i, i + d = o.size → ∀ k, d + 1 ≤ k → corncribref03_Plain.l0 k o (ints (plainP K o i)) (i : Int) = some (txt (plainL K o)) := by
  have hg := sizeN_ge K o.size h1
  induction d with
  | zero =>
    intro i hi k hk
    obtain ⟨m, rfl, _⟩ := pred_of (K := 0) hk
    simp only [corncribref03_Plain.l0]
    rw [if_neg (by omega), str_ints, show i = o.size by omega, plainP_full]
  | succ d ih =>
    intro i hi k hk
    obtain ⟨m, rfl, hm⟩ := pred_of hk
    simp only [corncribref03_Plain.l0]
    rw [if_pos (by omega), if_pos (by omega), w64_in (4 + (i : Int)) (by omega) (by omega), if_pos (by omega), if_pos (by rw [ints_len, plainP_len K o i h1 (by omega)]; omega), w64_in ((i : Int) + 1) (by omega) (by omega), bt_nat o i (by omega), show (4 + (i : Int)).toNat = 4 + i by omega, ints_set, plainP_set K o i h1 (by omega)]
    exact ih (i + 1) (by omega) m hm
theorem plainP_zero (K : Nat) (o : ByteArray) (h1 : 1 ≤ K) (ho : o.size ≤ 2048) (n : Nat) (hn : n = sizeN K o.size * K) :
    ((((List.replicate n (0 : Int)).set (0 : Int).toNat (((o.size : Int) / 16777216) % 256)).set (1 : Int).toNat (((o.size : Int) / 65536) % 256)).set (2 : Int).toNat (((o.size : Int) / 256) % 256)).set (3 : Int).toNat (((o.size : Int)) % 256) = ints (plainP K o 0) := by
  have hg := sizeN_ge K o.size h1
  rw [← hn] at hg
  obtain ⟨m, rfl⟩ : ∃ m, n = m + 4 := ⟨n - 4, by omega⟩
  have e1 : ((o.size : Int) / 16777216) % 256 = 0 := by omega
  have e2 : ((o.size : Int) / 65536) % 256 = 0 := by omega
  have e3 : ((o.size : Int) / 256) % 256 = ((UInt8.ofNat (o.size / 256)).toNat : Int) := by rw [UInt8.toNat_ofNat', Nat.mod_eq_of_lt (by omega)]; omega
  have e4 : (o.size : Int) % 256 = ((UInt8.ofNat (o.size % 256)).toNat : Int) := by rw [UInt8.toNat_ofNat', Nat.mod_eq_of_lt (by omega)]; omega
  rw [e1, e2, e3, e4]
  unfold plainP
  rw [← hn, Nat.add_zero, Nat.add_sub_cancel, List.take_zero, List.append_nil]
  have e : List.replicate (m + 4) (0 : Int) = 0 :: 0 :: 0 :: 0 :: List.replicate m 0 := rfl
  rw [e]
  unfold ints be4 zeros
  simp
theorem plain_f (K : Nat) (o : ByteArray) (h1 : 1 ≤ K) (h2 : K ≤ 255) (ho : o.size ≤ 2048) (k : Nat) (hk : 2060 ≤ k) : corncribref03_Plain.f k (K : Int) o = some (txt (plainL K o)) := by
  have hg := sizeN_ge K o.size h1
  have hlt := sizeN_lt K o.size h1
  unfold corncribref03_Plain.f
  rw [refsize_f, sizeV_in h1 h2 ho, Option.bind_some]
  simp only
  have e1 : (sizeN K o.size : Int) * (K : Int) = ((sizeN K o.size * K : Nat) : Int) := by push_cast; rfl
  rw [e1, w64_in _ (by omega) (by omega), if_pos (by omega), Int.toNat_natCast, if_pos (by omega), Option.bind_some, List.length_replicate, if_pos (by omega), if_pos (by omega), if_pos (by omega), if_pos (by omega), plainP_zero K o h1 ho _ rfl]
  exact plain_from K o h1 h2 ho o.size 0 (by omega) k (by omega)
/-! Split -/
theorem shard_extract' (pl : List UInt8) (n i : Nat) (h : i * n + n ≤ pl.length) : (txt pl).extract (i * n) (i * n + n) = shardOf pl n i := shard_extract (txt pl) pl n i (i * n) rfl rfl h
theorem sizeN_small (K L : Nat) (h1 : 1 ≤ K) (h2 : K ≤ 255) (hL : L ≤ 2048) : sizeN K L ≤ 2052 := by
  unfold sizeN
  exact Nat.div_le_of_le_mul (by omega)
/-! Even -/
theorem reven_from (l : List ByteArray) (hl : l.length ≤ 9223372036854775807) (d : Nat) : ∀ i, 1 ≤ i → (i + d = l.length ∨ (d = 0 ∧ l.length ≤ i)) → (∀ j, j < i → ∀ (h : j < l.length), (l[j].size == (rdOf ByteArray.empty l 0).size) = true) → ∀ k, d + 1 ≤ k → corncribref03_Even.l0 k l (i : Int) = some (evenB l) := by
  induction d with
  | zero =>
    intro i h1 hi hb k hk
    obtain ⟨m, rfl, _⟩ := pred_of (K := 0) hk
    simp only [corncribref03_Even.l0]
    rw [if_neg (by omega)]
    congr 1
    symm
    unfold evenB
    rw [List.all_eq_true]
    intro s hs
    obtain ⟨j, hj, rfl⟩ := List.getElem_of_mem hs
    exact hb j (by omega) hj
  | succ d ih =>
    intro i h1 hi hb k hk
    obtain ⟨m, rfl, hm⟩ := pred_of hk
    have hil : i < l.length := by omega
    simp only [corncribref03_Even.l0]
    rw [if_pos (by omega), if_pos (by omega), if_pos (by omega), rdOf_nat l i hil]
    by_cases e : (l[i].size == (rdOf ByteArray.empty l 0).size) = true
    · have e' : l[i].size = (rdOf ByteArray.empty l 0).size := by simpa using e
      rw [if_pos (by omega), w64_in _ (by omega) (by omega)]
      exact ih (i + 1) (by omega) (by omega) (fun j hj h => by
        by_cases e2 : j = i
        · subst e2; exact e
        · exact hb j (by omega) h) m hm
    · have e' : ¬ l[i].size = (rdOf ByteArray.empty l 0).size := by simpa using e
      rw [if_neg (by omega)]
      congr 1
      symm
      unfold evenB
      rw [List.all_eq_false]
      exact ⟨l[i], List.getElem_mem hil, e⟩
theorem reven_f (l : List ByteArray) (hl : l.length ≤ 9223372036854775807) (k : Nat) (hk : l.length + 1 ≤ k) : corncribref03_Even.f k l = some (evenB l) := by
  unfold corncribref03_Even.f
  refine reven_from l hl (l.length - 1) 1 (Nat.le_refl _) (by omega) (fun j hj h => ?_) k (by omega)
  have : j = 0 := by omega
  subst this
  have : rdOf ByteArray.empty l 0 = l[0] := rdOf_nat l 0 h
  rw [this]
  simp
/-! Under -/
theorem accC_zero (c : Nat → UInt8) (n : Nat) (data : List ByteArray) : List.replicate n (0 : Int) = ints (accC c n data 0) := by
  unfold ints accC
  apply List.ext_getElem
  · simp
  · intro i h1 h2
    simp [xs]
theorem d0 (n : Nat) (data : List ByteArray) (h0 : 0 < data.length) (he : ∀ s, s ∈ data → s.size = n) : (rdOf ByteArray.empty data 0).size = n := by
  have : rdOf ByteArray.empty data 0 = data[0] := rdOf_nat data 0 h0
  rw [this]
  exact he _ (List.getElem_mem h0)
section
variable (R C n : Nat) (c : Nat → Nat → UInt8) (S : List UInt8) (data : List ByteArray)
variable (hR : R ≤ 255) (hC : C ≤ 255) (hS : S.length = R * C) (hSc : ∀ i j, i < R → j < C → S.getD (i * C + j) 0 = c i j)
variable (hd : data.length = C) (hC1 : 1 ≤ C) (he : ∀ s, s ∈ data → s.size = n) (hn : n ≤ 140737488355231)
include hR hC hS hSc hd hC1 he hn
theorem under2 (i : Nat) (hi : i < R) (out : List ByteArray) (res : Option (List ByteArray)) (j : Nat) (hj : j < C) (d : Nat) : ∀ t, t + d = n → ∀ N, (∀ k, N ≤ k → corncribref03_Under.l1 k data out (i : Int) (ints (accC (c i) n data (j + 1))) ((j + 1 : Nat) : Int) (R : Int) (C : Int) (txt S) = res) → ∀ k, N + d + 1 ≤ k →
    corncribref03_Under.l2 k data out (i : Int) (ints (mixC (c i) n data j t)) (j : Int) (txt (data[j].data.toList.map (gmul (c i j)))) (t : Int) (R : Int) (C : Int) (txt S) = res := by
  have _u1 := hR
  have _u2 := hS
  have _u3 := hSc
  have hjl : j < data.length := by omega
  have hsz : data[j].data.toList.length = n := by rw [Array.length_toList]; exact he _ (List.getElem_mem hjl)
  induction d with
  | zero =>
    intro t ht N hN k hk
    obtain ⟨m, rfl, hm⟩ := pred_of (K := N) (k := k) (by omega)
    simp only [corncribref03_Under.l2]
    rw [ints_len, mixC_len, if_neg (by omega), show t = n by omega, mixC_full, w64_in _ (by omega) (by omega)]
    exact hN m hm
  | succ d ih =>
    intro t ht N hN k hk
    obtain ⟨m, rfl, hm⟩ := pred_of (K := N + d + 1) (k := k) (by omega)
    have htn : t < n := by omega
    have hts : (txt (data[j].data.toList.map (gmul (c i j)))).size = n := by rw [txt_size, List.length_map, hsz]
    simp only [corncribref03_Under.l2]
    rw [ints_len, mixC_len, if_pos (by omega), if_pos (by omega), hts, if_pos (by omega), rd_ints _ t (by rw [mixC_len]; exact htn), bt_nat _ t (by rw [hts]; exact htn), txt_list]
    have e1 : (data[j].data.toList.map (gmul (c i j))).getD t 0 = gmul (c i j) (dAt data j t) := by
      have e0 : data.getD j ByteArray.empty = data[j] := by rw [List.getD_eq_getElem?_getD, List.getElem?_eq_getElem hjl]; rfl
      unfold dAt
      rw [e0, List.getD_eq_getElem?_getD, List.getD_eq_getElem?_getD, List.getElem?_map, List.getElem?_eq_getElem (by omega)]
      rfl
    rw [e1, mixC_get, if_neg (by omega), xor_u8 _ _ (b_lt _) (b_lt _), ← UInt8.toNat_xor, Int.toNat_natCast, ints_set, mixC_set _ _ _ _ _ htn, w64_in _ (by omega) (by omega)]
    exact ih (t + 1) (by omega) N hN m hm
theorem under1 (i : Nat) (hi : i < R) (out : List ByteArray) (hout : out.length ≤ 255) (res : Option (List ByteArray)) (d : Nat) : ∀ j, j + d = C → ∀ N, (∀ k, N ≤ k → corncribref03_Under.l0 k data (out ++ [txt (accC (c i) n data C)]) ((i + 1 : Nat) : Int) (R : Int) (C : Int) (txt S) = res) → ∀ k, N + d * (n + 30) + 1 ≤ k →
    corncribref03_Under.l1 k data out (i : Int) (ints (accC (c i) n data j)) (j : Int) (R : Int) (C : Int) (txt S) = res := by
  induction d with
  | zero =>
    intro j hj N hN k hk
    rw [Nat.zero_mul] at hk
    obtain ⟨m, rfl, hm⟩ := pred_of (K := N) (k := k) (by omega)
    simp only [corncribref03_Under.l1]
    rw [if_neg (by omega), if_pos (by omega), str_ints, show j = C by omega, w64_in _ (by omega) (by omega)]
    exact hN m hm
  | succ d ih =>
    intro j hj N hN k hk
    rw [Nat.succ_mul] at hk
    obtain ⟨P, hP⟩ : ∃ P, d * (n + 30) = P := ⟨_, rfl⟩
    rw [hP] at hk ih
    clear hP
    obtain ⟨m, rfl, hm⟩ := pred_of (K := N + P + (n + 30)) (k := k) (by omega)
    have hjC : j < C := by omega
    have hjl : j < data.length := by omega
    have hij : i * C + j < R * C := by
      have : (i + 1) * C ≤ R * C := Nat.mul_le_mul_right _ (by omega)
      rw [Nat.succ_mul] at this
      omega
    have hb : R * C ≤ 255 * 255 := Nat.mul_le_mul hR hC
    have e1 : (i : Int) * (C : Int) = ((i * C : Nat) : Int) := by push_cast; rfl
    have hsz : data[j].size = n := he _ (List.getElem_mem hjl)
    simp only [corncribref03_Under.l1]
    rw [if_pos (by omega), e1, w64_in ((i * C : Nat) : Int) (by omega) (by omega), w64_in (((i * C : Nat) : Int) + (j : Int)) (by omega) (by omega), if_pos (by omega), if_pos (by rw [txt_size, hS]; omega), if_pos (by omega), if_pos (by omega)]
    have e2 : bt (txt S) (((i * C : Nat) : Int) + (j : Int)) = ((c i j).toNat : Int) := by
      rw [show ((i * C : Nat) : Int) + (j : Int) = ((i * C + j : Nat) : Int) by omega, bt_nat _ _ (by rw [txt_size, hS]; exact hij), txt_list, hSc i j hi hjC]
    rw [e2, rdOf_nat data j hjl, scale_f (c i j) data[j] (by omega) m (by omega), Option.bind_some, ← mixC_zero]
    exact under2 R C n c S data hR hC hS hSc hd hC1 he hn i hi out res j hjC n 0 (by omega) (N + P + 1) (fun k hk2 => ih (j + 1) (by omega) N hN k hk2) m (by omega)
theorem under0 (d : Nat) : ∀ i, i + d = R → ∀ k, d * (C * (n + 30) + 2) + 1 ≤ k →
    corncribref03_Under.l0 k data ((List.range i).map fun r => txt (accC (c r) n data C)) (i : Int) (R : Int) (C : Int) (txt S) = some ((List.range R).map fun r => txt (accC (c r) n data C)) := by
  have h0 := d0 n data (by omega) he
  induction d with
  | zero =>
    intro i hi k hk
    rw [Nat.zero_mul] at hk
    obtain ⟨m, rfl, _⟩ := pred_of (K := 0) hk
    simp only [corncribref03_Under.l0]
    rw [if_neg (by omega), show i = R by omega]
  | succ d ih =>
    intro i hi k hk
    rw [Nat.succ_mul] at hk
    obtain ⟨P, hP⟩ : ∃ P, d * (C * (n + 30) + 2) = P := ⟨_, rfl⟩
    obtain ⟨Q, hQ⟩ : ∃ Q, C * (n + 30) = Q := ⟨_, rfl⟩
    have hU := fun out hout res => under1 R C n c S data hR hC hS hSc hd hC1 he hn i (by omega) out hout res C
    rw [hP] at hk ih
    rw [hQ] at hk hU
    obtain ⟨m, rfl, hm⟩ := pred_of (K := P + (Q + 2)) (k := k) (by omega)
    simp only [corncribref03_Under.l0]
    rw [if_pos (by omega), if_pos (by omega), h0, if_pos (by omega), if_pos (by omega), Int.toNat_natCast, accC_zero (c i) n data]
    refine hU _ (by simp; omega) _ 0 (by omega) (P + 1) (fun k hk2 => ?_) m (by omega)
    have e : ((List.range i).map fun r => txt (accC (c r) n data C)) ++ [txt (accC (c i) n data C)] = (List.range (i + 1)).map fun r => txt (accC (c r) n data C) := by rw [List.range_succ, List.map_append]; rfl
    rw [e]
    exact ih (i + 1) (by omega) k hk2
/-- Enough rounds. -/
def underN (R C n : Nat) : Nat := R * (C * (n + 30) + 2) + 1
theorem under_f (k : Nat) (hk : underN R C n ≤ k) : corncribref03_Under.f k (R : Int) (C : Int) (txt S) data = some ((List.range R).map fun r => txt (accC (c r) n data C)) :=
  under0 R C n c S data hR hC hS hSc hd hC1 he hn R 0 (by omega) k hk
end
/-! Parity, Encode -/
theorem gen_getD (k m r j : Nat) (hr : r < k + m) (hj : j < k) : (genG k m).flatten.getD (r * k + j) 0 = genAt k r j := by
  rw [List.getD_eq_getElem?_getD, gen_byte k m r j hr hj]
  rfl
theorem shard_len (pl : List UInt8) (n i K : Nat) (hp : pl.length = n * K) (hi : i < K) : (shardOf pl n i).size = n := by
  unfold shardOf
  rw [txt_size, List.length_take, List.length_drop, hp]
  have : (i + 1) * n ≤ K * n := Nat.mul_le_mul_right _ (by omega)
  rw [Nat.succ_mul, Nat.mul_comm K n] at this
  omega
theorem splitL_len (K : Nat) (o : ByteArray) : (splitL K o).length = K := by simp [splitL]
theorem splitL_size (K : Nat) (o : ByteArray) (h1 : 1 ≤ K) : ∀ s, s ∈ splitL K o → s.size = sizeN K o.size := fun s hs => by
  obtain ⟨i, hi, rfl⟩ := List.mem_map.1 hs
  exact shard_len _ _ i K (plain_len K o h1) (List.mem_range.1 hi)
theorem splitL_first (K : Nat) (o : ByteArray) (h1 : 1 ≤ K) : (rdOf ByteArray.empty (splitL K o) 0).size = sizeN K o.size := by
  have h0 : 0 < (splitL K o).length := by rw [splitL_len]; exact h1
  have : rdOf ByteArray.empty (splitL K o) 0 = (splitL K o)[0] := rdOf_nat _ 0 h0
  rw [this]
  exact splitL_size K o h1 _ (List.getElem_mem h0)
theorem splitL_even (K : Nat) (o : ByteArray) (h1 : 1 ≤ K) : evenB (splitL K o) = true := by
  unfold evenB
  rw [List.all_eq_true]
  intro s hs
  rw [splitL_size K o h1 s hs, splitL_first K o h1]
  simp
def encL (K M : Nat) (o : ByteArray) : List ByteArray := splitL K o ++ parL K (sizeN K o.size) (splitL K o) M
def encV (k m : Int) (o : ByteArray) : List ByteArray × Int := if codeB k m = true then (if o.size ≤ 2048 then (encL k.toNat m.toNat o, 0) else ([], 2)) else ([], 1)
theorem parity_split (K M : Nat) (h1 : 1 ≤ K) (h2 : K + M ≤ 255) (o : ByteArray) (ho : o.size ≤ 2048) : parityV (K : Int) (M : Int) (splitL K o) = (parL K (sizeN K o.size) (splitL K o) M, 0) := by
  unfold parityV
  rw [if_pos (codeB_in h1 h2), if_pos ⟨by rw [splitL_len], splitL_even K o h1⟩, splitL_first K o h1, if_pos (sizeN_small K o.size h1 (by omega) ho)]
  rfl
theorem encode_f (a0 a1 : Int) (o : ByteArray) : stripe_Encode.f a0 a1 o = some (encV a0 a1 o) := by
  unfold stripe_Encode.f encV
  rw [code_f, Option.bind_some]
  by_cases hc : codeB a0 a1 = true
  · rw [if_pos hc, if_pos hc]
    obtain ⟨K, M, rfl, rfl, h1, h2⟩ := codeB_nat hc
    unfold stripe_Split.f splitV
    rw [Option.bind_some, if_pos (codeB_0 h1 (by omega))]
    by_cases ho : o.size ≤ 2048
    · rw [if_pos ho, if_pos ho, if_pos rfl]
      simp only [Int.toNat_natCast]
      unfold stripe_Parity.f
      rw [parity_split K M h1 h2 o ho, Option.bind_some, if_pos (by rw [splitL_len, parL_len]; omega)]
      rfl
    · rw [if_neg ho, if_neg ho, if_neg (by decide)]
  · rw [if_neg hc, if_neg hc]
/-! Texts that are the same -/
theorem same_from (l : List ByteArray) (hl : l.length ≤ 9223372036854775807) (d : Nat) : ∀ i, i + d = l.length → ∀ k, d + 1 ≤ k → corncribbook_SameTexts.l0 k l l (i : Int) = some true := by
  induction d with
  | zero =>
    intro i hi k hk
    obtain ⟨m, rfl, _⟩ := pred_of (K := 0) hk
    simp only [corncribbook_SameTexts.l0]
    rw [if_neg (by omega)]
  | succ d ih =>
    intro i hi k hk
    obtain ⟨m, rfl, hm⟩ := pred_of hk
    simp only [corncribbook_SameTexts.l0]
    rw [if_pos (by omega), if_pos (by omega), if_pos (by omega), if_pos trivial, w64_in _ (by omega) (by omega)]
    exact ih (i + 1) (by omega) m hm
theorem same_f (l : List ByteArray) (hl : l.length ≤ 9223372036854775807) (k : Nat) (hk : l.length + 1 ≤ k) : corncribbook_SameTexts.f k l l = some true := by
  unfold corncribbook_SameTexts.f
  rw [if_pos rfl]
  exact same_from l hl l.length 0 (by omega) k hk
end Go.Proofs.YtegmmefijihdeaaDoor.PS
namespace Go.Proofs.YtegmmefijihdeaaDoor.Read
open Go.RowKit Go.Proofs.YtegmmefijihdeaaDoorW.PrintWords
set_option linter.unusedVariables false

/-- Type t reads as kind d; what is read is good. -/
structure Opens {α : Type} (P : Program) (d : Kd α) (t : TypeId) (good : α → Prop) : Prop where
  sz : P.cellsOf t = d.sz
  read : ∀ {H : Type} {enc : TypeId × Value → H} {W : World} {base : Nat} {sp : Nat → Bool} {held : Bool} {fuel : Nat} {cs : List Value} {x : DataW H × List MemPlace},
    DataW.trod enc P W base sp held fuel t cs = some x → (DataW.weights P t x.1).all (· ≤ reachBytes) = true → ∃ a, d.K W a cs ∧ good a
section
variable {P : Program}
theorem opens_int {t : TypeId} {k : IntKind} (ht : P.underlying t = some (.int k)) (hc : P.cellsOf t = 1) : Opens P (Kd.int k) t (fun a => (Lit.int k a).wf = true) := by
  refine ⟨hc, fun {H enc W base sp held fuel cs x} h hs => ?_⟩
  cases fuel with
  | zero => cases h
  | succ n =>
    unfold DataW.trod at h
    rw [ht] at h
    split at h <;> first | cases h | skip
    all_goals first | (simp_all; done) | skip
    rename_i k0 k' m e1
    cases e1
    split at h
    · rename_i hk
      obtain ⟨rfl, hw⟩ := hk
      exact ⟨m, rfl, hw⟩
    · cases h
theorem opens_bool {t : TypeId} (ht : P.underlying t = some .bool) (hc : P.cellsOf t = 1) : Opens P Kd.bool t (fun _ => True) := by
  refine ⟨hc, fun {H enc W base sp held fuel cs x} h hs => ?_⟩
  cases fuel with
  | zero => cases h
  | succ n =>
    unfold DataW.trod at h
    rw [ht] at h
    split at h <;> first | cases h | skip
    all_goals first | (simp_all; done) | skip
    exact ⟨_, rfl, trivial⟩
theorem opens_string {t : TypeId} (ht : P.underlying t = some .string) (hc : P.cellsOf t = 1) : Opens P Kd.string t (fun a => a.size ≤ 140737488351232) := by
  refine ⟨hc, fun {H enc W base sp held fuel cs x} h hs => ?_⟩
  cases fuel with
  | zero => cases h
  | succ n =>
    unfold DataW.trod at h
    rw [ht] at h
    split at h <;> first | cases h | skip
    all_goals first | (simp_all; done) | skip
    split at h
    · cases h
      refine ⟨_, rfl, ?_⟩
      simp only [DataW.weights, List.all_cons, Bool.and_eq_true, decide_eq_true_eq] at hs
      have := hs.1
      rwa [Array.length_toList] at this
    · cases h
theorem weightsAll_mem {H : Type} {e : TypeId} : ∀ {l : List (DataW H)}, (DataW.weightsAll P e l).all (· ≤ reachBytes) = true → ∀ d, d ∈ l → (DataW.weights P e d).all (· ≤ reachBytes) = true
  | [], _, d, hd => by cases hd
  | a :: r, h, d, hd => by
    rw [DataW.weightsAll, List.all_append, Bool.and_eq_true] at h
    rcases List.mem_cons.1 hd with rfl | hd
    · exact h.1
    · exact weightsAll_mem h.2 d hd
/-- A slice of what opens: no longer than the row's weight allows. -/
theorem opens_slice {α : Type} [Inhabited α] {d : Kd α} {t e : TypeId} {good : α → Prop} {B : Nat} (ht : P.underlying t = some (.slice e)) (hc : P.cellsOf t = 1) (hB : P.bytesOf e = B) (hd : Opens P d e good) :
    Opens P (Kd.slice e d) t (fun l => l.length * B ≤ 140737488351232 ∧ ∀ a, a ∈ l → good a) := by
  refine ⟨hc, fun {H enc W base sp held fuel cs x} h hs => ?_⟩
  rcases Deep.open_slice ht h with ⟨rfl, rfl⟩ | ⟨a, len, cap, m, n, D, Pl, rfl, hb, hl, hm, hmm, rfl, hx⟩
  · exact ⟨[], ⟨none, 0, rfl, Nat.le_refl _, Kd.C_nil d W⟩, by simp, fun _ h => by cases h⟩
  · have hlm : len ≤ m := by rw [hmm]; split <;> omega
    simp only [DataW.weights, ht, List.all_cons, List.all_append, Bool.and_eq_true, decide_eq_true_eq, List.length_map, List.length_range] at hs
    obtain ⟨hw, hs1, hs2⟩ := hs
    obtain ⟨F, hF⟩ := Deep.choose_lt (α := α) (n := len) (p := fun i f => good f ∧ ∃ cs', W.cells? base (a.add (i * P.cellsOf e)) (P.cellsOf e) = some cs' ∧ d.K W f cs') (fun i hi => by
      obtain ⟨cs', h1, h2⟩ := hx i (Nat.lt_of_lt_of_le hi hlm)
      obtain ⟨f, hk, hg⟩ := hd.read h2 (weightsAll_mem hs1 _ (List.mem_map.2 ⟨i, List.mem_range.2 hi, rfl⟩))
      exact ⟨f, hg, cs', h1, hk⟩)
    have hmx : cap ≤ 9223372036854775807 := Nat.le_trans hm (by decide)
    refine ⟨(List.range len).map F, ⟨some a, cap, by simp, by simpa using hl, by simp, by simp; omega, fun _ => ⟨a, rfl, fun j p hj => ?_⟩⟩, ?_, fun b hb' => ?_⟩
    · have hjl : j < len := by
        have := List.getElem?_eq_some_iff.1 hj
        obtain ⟨hj', _⟩ := this
        simpa using hj'
      obtain rfl : F j = p := by simpa [hjl] using hj
      obtain ⟨hg, cs', h1, hk⟩ := hF j hjl
      refine ⟨cs', d.K_len hk, hk, fun i u hu => ?_⟩
      obtain ⟨_, hl', hcell⟩ := World.cells?_some h1
      have hi : i < cs'.length := (List.getElem?_eq_some_iff.1 hu).1
      have := hcell i (by omega)
      rw [hu] at this
      rw [← hd.sz, ← Addr.add_add]
      exact this
    · rw [hB] at hw
      have h2 : len + (m - len) = m := by omega
      rw [h2] at hw
      have h3 : len * B ≤ m * B := Nat.mul_le_mul_right _ hlm
      have h4 : len * B ≤ 140737488351232 := Nat.le_trans h3 hw
      simpa using h4
    · obtain ⟨i, hi, rfl⟩ := List.mem_map.1 hb'
      exact (hF i (List.mem_range.1 hi)).1
/-- Fields, one behind the other, from cell o on. -/
def Parts {α : Type} (P : Program) (d : Kd α) (fs : List Field) (o : Nat) (good : α → Prop) : Prop :=
  ∀ {H : Type} {enc : TypeId × Value → H} {W : World} {base : Nat} {sp : Nat → Bool} {held : Bool} {fuel : Nat} {cs : List Value} {xs : List (DataW H × List MemPlace)},
    fs.mapM (fun f => DataW.trod enc P W base sp held fuel f.type ((cs.drop f.offset).take (P.cellsOf f.type))) = some xs →
    (DataW.weightsEach P (fs.map (·.type)) (xs.map (·.1))).all (· ≤ reachBytes) = true → cs.length = o + d.sz → ∃ a, d.K W a (cs.drop o) ∧ good a
theorem parts_one {α : Type} {d : Kd α} {f : Field} {o : Nat} {good : α → Prop} (ho : f.offset = o) (hd : Opens P d f.type good) : Parts P d [f] o good := by
  intro H enc W base sp held fuel cs xs h hs hl
  rw [List.mapM_cons, Option.bind_eq_bind, Option.bind_eq_some_iff] at h
  obtain ⟨y, hy, h⟩ := h
  simp only [List.mapM_nil, Option.pure_def, Option.bind_eq_bind, Option.bind_some, Option.some.injEq] at h
  subst h
  rw [ho, hd.sz, List.take_of_length_le (by rw [List.length_drop]; omega)] at hy
  simp only [List.map_cons, List.map_nil, DataW.weightsEach, List.append_nil] at hs
  exact hd.read hy hs
theorem parts_cons {α β : Type} {a : Kd α} {b : Kd β} {f : Field} {fs : List Field} {o : Nat} {ga : α → Prop} {gb : β → Prop} (ho : f.offset = o) (ha : Opens P a f.type ga) (hb : Parts P b fs (o + a.sz) gb) :
    Parts P (Kd.pair a b) (f :: fs) o (fun x => ga x.1 ∧ gb x.2) := by
  intro H enc W base sp held fuel cs xs h hs hl
  rw [List.mapM_cons, Option.bind_eq_bind, Option.bind_eq_some_iff] at h
  obtain ⟨y, hy, h⟩ := h
  rw [Option.bind_eq_bind, Option.bind_eq_some_iff] at h
  obtain ⟨ys, hys, h⟩ := h
  simp only [Option.pure_def, Option.some.injEq] at h
  subst h
  simp only [List.map_cons, DataW.weightsEach, List.all_append, Bool.and_eq_true] at hs
  have hl' : cs.length = o + (a.sz + b.sz) := hl
  rw [ho, ha.sz] at hy
  obtain ⟨x, hx, gx⟩ := ha.read hy hs.1
  obtain ⟨z, hz, gz⟩ := hb hys hs.2 (by omega)
  refine ⟨(x, z), ⟨_, _, ?_, hx, hz⟩, gx, gz⟩
  rw [← List.drop_drop, List.take_append_drop]
theorem opens_struct {α : Type} {d : Kd α} {t : TypeId} {fs : Array Field} {good : α → Prop} (ht : P.underlying t = some (.struct fs)) (hc : P.cellsOf t = d.sz) (hp : Parts P d fs.toList 0 good) : Opens P d t good := by
  refine ⟨hc, fun {H enc W base sp held fuel cs x} h hs => ?_⟩
  cases fuel with
  | zero => cases h
  | succ n =>
    unfold DataW.trod at h
    rw [ht] at h
    split at h <;> first | cases h | skip
    all_goals first | (simp_all; done) | skip
    rename_i fs' cs' e1
    cases e1
    split at h
    · rename_i hl
      rw [Option.map_eq_some_iff] at h
      obtain ⟨xs, hxs, rfl⟩ := h
      simp only [DataW.weights, ht] at hs
      have := hp hxs hs (by rw [hl, hc]; omega)
      simpa using this
    · cases h
theorem opens_iso {α β : Type} {d : Kd α} {f : β → α} {t : TypeId} {good : α → Prop} (g : α → β) (hg : ∀ a, f (g a) = a) (h : Opens P d t good) : Opens P (Kd.iso d f) t (fun b => good (f b)) :=
  ⟨h.sz, fun h1 h2 => by
    obtain ⟨a, hk, hgood⟩ := h.read h1 h2
    exact ⟨g a, by show d.K _ (f (g a)) _; rw [hg]; exact hk, by rw [hg]; exact hgood⟩⟩
theorem opens_good {α : Type} {d : Kd α} {t : TypeId} {good good' : α → Prop} (h : Opens P d t good) (hg : ∀ a, good a → good' a) : Opens P d t good' :=
  ⟨h.sz, fun h1 h2 => by
    obtain ⟨a, hk, hgood⟩ := h.read h1 h2
    exact ⟨a, hk, hg a hgood⟩⟩
theorem weightsEach_at {H : Type} : ∀ {ts : List TypeId} {ds : List (DataW H)} (j : Nat) {t : TypeId} {d : DataW H}, (DataW.weightsEach P ts ds).all (· ≤ reachBytes) = true → ts[j]? = some t → ds[j]? = some d → (DataW.weights P t d).all (· ≤ reachBytes) = true
  | [], _, j, t, d, _, h, _ => by simp at h
  | _ :: _, [], j, t, d, _, _, h => by simp at h
  | t0 :: ts, d0 :: ds, 0, t, d, h, h1, h2 => by
    rw [DataW.weightsEach, List.all_append, Bool.and_eq_true] at h
    simp only [List.getElem?_cons_zero, Option.some.injEq] at h1 h2
    subst h1 h2
    exact h.1
  | t0 :: ts, d0 :: ds, j + 1, t, d, h, h1, h2 => by
    rw [DataW.weightsEach, List.all_append, Bool.and_eq_true] at h
    exact weightsEach_at j h.2 (by simpa using h1) (by simpa using h2)
/-- An argument, read. -/
theorem Opens.arg {α : Type} {d : Kd α} {t : TypeId} {good : α → Prop} (o : Opens P d t good) {H : Type} {enc : TypeId × Value → H} {W : World} {base : Nat} {sp : Nat → Bool} {held : Bool} {v : Value} {x : DataW H} {ps : List MemPlace} {ts : List TypeId} {ds : List (DataW H)}
    (h : DataW.Trod enc P W base sp held t v x ps) (hsz : (DataW.weightsEach P ts ds).all (· ≤ reachBytes) = true) (j : Nat) (ht : ts[j]? = some t) (hd : ds[j]? = some x) : ∃ a, d.K W a v.cells.toList ∧ good a := by
  obtain ⟨n, hn⟩ := h
  exact o.read hn (weightsEach_at j hsz ht hd)
end
theorem list_value {α : Type} {d : Kd α} {W : World} {t : Nat} {l : List α} {a : Option Addr} {len cap : Nat} (h : (Kd.slice t d).K W l (Value.slice a len cap).cells.toList) : len = l.length ∧ l.length ≤ cap ∧ d.C W a l.length l := by
  obtain ⟨A, c, e, h1, h2⟩ := h
  simp [Value.cells] at e
  obtain ⟨rfl, rfl, rfl⟩ := e
  exact ⟨rfl, h1, h2⟩
theorem str_value {P : Program} {W : World} {s : ByteArray} {v : Value} {r : Reach} {base : Nat} (hu : P.underlying 9 = some .string) (h : Kd.string.K W s v.cells.toList) (hv : Value.okWide P W r base 9 v) : v = .string s := by
  obtain ⟨s', rfl⟩ := Go.WideShapes.okWide_string hu hv
  have e : [Value.string s'] = [Value.string s] := h
  injection e
end Go.Proofs.YtegmmefijihdeaaDoor.Read
namespace Go.Proofs.YtegmmefijihdeaaDoor.Read
open Go.RowKit Go.Proofs.YtegmmefijihdeaaDoorW.PrintWords
set_option linter.unusedVariables false
theorem openStr : Opens Tryd.prog Kd.string 9 (fun s => s.size ≤ 140737488351232) := opens_string Tryd.underlying9 (by kernel_rfl)
theorem openTexts : Opens Tryd.prog (Kd.slice 9 Kd.string) 25 (fun l => l.length * 16 ≤ 140737488351232 ∧ ∀ s, s ∈ l → s.size ≤ 140737488351232) := opens_slice Tryd.underlying25 (by kernel_rfl) (by kernel_rfl) openStr
end Go.Proofs.YtegmmefijihdeaaDoor.Read
namespace Go.Proofs.YtegmmefijihdeaaDoor.PS
open Go.RowKit Go.Proofs.YtegmmefijihdeaaDoorW.PrintWords Go.Proofs.YtegmmefijihdeaaDoor.Read
set_option linter.unusedVariables false
set_option maxRecDepth 100000
instance inhS : Inhabited S62 := ⟨⟨0, ⟨#[]⟩⟩⟩
def okS (x : S62) : Prop := (Lit.int .i64 x.f0).wf = true ∧ x.f1.size ≤ 140737488351232
theorem openShard : Opens Tryd.prog k62 62 okS :=
  opens_good (opens_iso (fun x => (⟨x.1, x.2⟩ : S62)) (fun _ => rfl)
    (opens_struct Tryd.underlying62 (by kernel_rfl) (parts_cons rfl (opens_int Tryd.underlying3 (by kernel_rfl)) (parts_one (good := fun s : ByteArray => s.size ≤ 140737488351232) rfl openStr)))) (fun _ h => ⟨h.1, h.2⟩)
theorem openShards : Opens Tryd.prog (Kd.slice 62 k62) 47 (fun l => l.length * 24 ≤ 140737488351232 ∧ ∀ s, s ∈ l → okS s) := opens_slice Tryd.underlying47 (by kernel_rfl) (by kernel_rfl) openShard
end Go.Proofs.YtegmmefijihdeaaDoor.PS
namespace Go.Proofs.YtegmmefijihdeaaDoor.PS
open Go.RowKit Go.Proofs.YtegmmefijihdeaaDoorW.PrintWords Go.Proofs.YtegmmefijihdeaaDoorW.PrintLast Go.Proofs.YtegmmefijihdeaaDoorW.PrintMore
attribute [local go_sem] Mk.str_leq Mk.str_gtr Mk.str_geq max2_int min2_int max_two min_two max_three min_three max_four min_four   -- for this text's walks alone
set_option linter.unusedVariables false
set_option linter.unusedSimpArgs false

/-! ### corncriblaw04_large: function 37 -/
def corncriblaw04_large.f (a0 : Int) (a1 : Int) (l2 : List (S62)) : Option (Bool) := (corncribref03_Code.f a0 a1).bind fun t404 => (if t404 = true then (if a0 > 10 then (if (l2.length : Int) ≥ a0 then (some true) else (if (l2.length : Int) > 0 then (if 0 < (l2.length : Int) then (if (((rd_T62 l2 0).f1).size : Int) > 200 then (some (decide ((((rd_T62 l2 0).f1).size : Int) ≤ 2052))) else (some false)) else (none)) else (some false))) else (if a1 > 10 then (if (l2.length : Int) ≥ a0 then (some true) else (if (l2.length : Int) > 0 then (if 0 < (l2.length : Int) then (if (((rd_T62 l2 0).f1).size : Int) > 200 then (some (decide ((((rd_T62 l2 0).f1).size : Int) ≤ 2052))) else (some false)) else (none)) else (some false))) else (if (l2.length : Int) > 0 then (if 0 < (l2.length : Int) then (if (((rd_T62 l2 0).f1).size : Int) > 200 then (some (decide ((((rd_T62 l2 0).f1).size : Int) ≤ 2052))) else (some false)) else (none)) else (some false)))) else (if (l2.length : Int) > 0 then (if 0 < (l2.length : Int) then (if (((rd_T62 l2 0).f1).size : Int) > 200 then (some (decide ((((rd_T62 l2 0).f1).size : Int) ≤ 2052))) else (some false)) else (none)) else (some false)))
set_option maxHeartbeats 8000000 in
set_option maxRecDepth 100000 in
theorem corncriblaw04_large.calls (a0 : Int) (a1 : Int) (A2 : Option Addr) (c2 : Nat) (l2 : List (S62)) (r : Bool) (w : World) (hr2 : Kd.C k62 w A2 l2.length l2) (hc2 : l2.length ≤ c2) (h : corncriblaw04_large.f a0 a1 l2 = some r) :
  Calls Tryd.prog 37 #[.int .i64 a0, .int .i64 a1, .slice A2 l2.length c2] w fun e w' => e = .returned (.bool r) ∧ Drawn0 w w' := by
 have HR2 := Aside0.mk hr2
 have HC2 := Aside0.mk hc2
 clear hr2 hc2
 have H : ((corncribref03_Code.f a0 a1).bind fun t404 => (if t404 = true then (if a0 > 10 then (if (l2.length : Int) ≥ a0 then (some true) else (if (l2.length : Int) > 0 then (if 0 < (l2.length : Int) then (if (((rd_T62 l2 0).f1).size : Int) > 200 then (some (decide ((((rd_T62 l2 0).f1).size : Int) ≤ 2052))) else (some false)) else (none)) else (some false))) else (if a1 > 10 then (if (l2.length : Int) ≥ a0 then (some true) else (if (l2.length : Int) > 0 then (if 0 < (l2.length : Int) then (if (((rd_T62 l2 0).f1).size : Int) > 200 then (some (decide ((((rd_T62 l2 0).f1).size : Int) ≤ 2052))) else (some false)) else (none)) else (some false))) else (if (l2.length : Int) > 0 then (if 0 < (l2.length : Int) then (if (((rd_T62 l2 0).f1).size : Int) > 200 then (some (decide ((((rd_T62 l2 0).f1).size : Int) ≤ 2052))) else (some false)) else (none)) else (some false)))) else (if (l2.length : Int) > 0 then (if 0 < (l2.length : Int) then (if (((rd_T62 l2 0).f1).size : Int) > 200 then (some (decide ((((rd_T62 l2 0).f1).size : Int) ≤ 2052))) else (some false)) else (none)) else (some false)))) = some r := h
 clear h
 replace H := Option.bind_eq_some_iff.mp H
 obtain ⟨t404, A40, H⟩ := H
 replace H : (if t404 = true then (if a0 > 10 then (if (l2.length : Int) ≥ a0 then (some true) else (if (l2.length : Int) > 0 then (if 0 < (l2.length : Int) then (if (((rd_T62 l2 0).f1).size : Int) > 200 then (some (decide ((((rd_T62 l2 0).f1).size : Int) ≤ 2052))) else (some false)) else (none)) else (some false))) else (if a1 > 10 then (if (l2.length : Int) ≥ a0 then (some true) else (if (l2.length : Int) > 0 then (if 0 < (l2.length : Int) then (if (((rd_T62 l2 0).f1).size : Int) > 200 then (some (decide ((((rd_T62 l2 0).f1).size : Int) ≤ 2052))) else (some false)) else (none)) else (some false))) else (if (l2.length : Int) > 0 then (if 0 < (l2.length : Int) then (if (((rd_T62 l2 0).f1).size : Int) > 200 then (some (decide ((((rd_T62 l2 0).f1).size : Int) ≤ 2052))) else (some false)) else (none)) else (some false)))) else (if (l2.length : Int) > 0 then (if 0 < (l2.length : Int) then (if (((rd_T62 l2 0).f1).size : Int) > 200 then (some (decide ((((rd_T62 l2 0).f1).size : Int) ≤ 2052))) else (some false)) else (none)) else (some false))) = some r := H
 have A4 := Aside0.mk A40
 clear A40
 by_cases c5 : t404 = true
 ·subst c5
  have H1 : (if a0 > 10 then (if (l2.length : Int) ≥ a0 then (some true) else (if (l2.length : Int) > 0 then (if 0 < (l2.length : Int) then (if (((rd_T62 l2 0).f1).size : Int) > 200 then (some (decide ((((rd_T62 l2 0).f1).size : Int) ≤ 2052))) else (some false)) else (none)) else (some false))) else (if a1 > 10 then (if (l2.length : Int) ≥ a0 then (some true) else (if (l2.length : Int) > 0 then (if 0 < (l2.length : Int) then (if (((rd_T62 l2 0).f1).size : Int) > 200 then (some (decide ((((rd_T62 l2 0).f1).size : Int) ≤ 2052))) else (some false)) else (none)) else (some false))) else (if (l2.length : Int) > 0 then (if 0 < (l2.length : Int) then (if (((rd_T62 l2 0).f1).size : Int) > 200 then (some (decide ((((rd_T62 l2 0).f1).size : Int) ≤ 2052))) else (some false)) else (none)) else (some false)))) = some r := by rw [if_pos rfl] at H; exact H
  clear H
  have H := H1
  clear H1
  by_cases c6 : a0 > 10
  ·rw [if_pos c6] at H
   have c6b0 : decide (10 < a0) = true := decide_eq_true c6
   clear c6
   by_cases c7 : (l2.length : Int) ≥ a0
   ·rw [if_pos c7] at H
    have c7b0 : decide (a0 ≤ (l2.length : Int)) = true := decide_eq_true c7
    clear c7
    obtain rfl := Option.some.inj H
    go_enter Tryd.func37, Tryd.ntmps37
    go_wp2_with (first | ((with_reducible refine gate_callee (f := 25) rfl ?_); refine goesL_ (some 9) rfl rfl Tryd.func25 (by kernel_rfl) rfl #[.int .i64 a0, .int .i64 a1] rfl (by (try simp only [List.map_toArray, List.map_cons, List.map_nil]); first | done | rfl | (simp only [List.length_drop, List.length_take]; rfl)) ?_; (with_reducible refine (corncribref03_Code.calls a0 a1 true _ A4.out).mono ?_); rintro e w' ⟨rfl, ⟨nd, rfl⟩⟩; refine ⟨_, rfl, ?_⟩))
    go_ret
    exact ⟨by first | rfl | (simp; done) | (simp [*]; done), by repeat (first | exact Drawn0.refl _ | apply Drawn0.step)⟩
   ·rw [if_neg c7] at H
    have c7b0 : decide (a0 ≤ (l2.length : Int)) = false := decide_eq_false c7
    clear c7
    by_cases c8 : (l2.length : Int) > 0
    ·rw [if_pos c8] at H
     have c8b0 : decide (0 < (l2.length : Int)) = true := decide_eq_true c8
     have c8b1 : decide (0 < l2.length) = true := decide_eq_true (by omega)
     clear c8
     by_cases c9 : 0 < (l2.length : Int)
     ·rw [if_pos c9] at H
      have c9b0 : decide (0 < (l2.length : Int)) = true := decide_eq_true c9
      have c9b1 : decide (0 < l2.length) = true := decide_eq_true (by omega)
      clear c9
      by_cases c10 : (((rd_T62 l2 0).f1).size : Int) > 200
      ·rw [if_pos c10] at H
       have c10b0 : decide (200 < (((rd_T62 l2 0).f1).size : Int)) = true := decide_eq_true c10
       have c10b1 : decide (200 < ((rd_T62 l2 0).f1).size) = true := decide_eq_true (by omega)
       clear c10
       obtain rfl := Option.some.inj H
       go_enter Tryd.func37, Tryd.ntmps37
       go_wp2_with (first | ((with_reducible refine gate_callee (f := 25) rfl ?_); refine goesL_ (some 9) rfl rfl Tryd.func25 (by kernel_rfl) rfl #[.int .i64 a0, .int .i64 a1] rfl (by (try simp only [List.map_toArray, List.map_cons, List.map_nil]); first | done | rfl | (simp only [List.length_drop, List.length_take]; rfl)) ?_; (with_reducible refine (corncribref03_Code.calls a0 a1 true _ A4.out).mono ?_); rintro e w' ⟨rfl, ⟨nd, rfl⟩⟩; refine ⟨_, rfl, ?_⟩; have p405 : 0 ≤ (0 : Int) := (by omega); have q405 : 0 < (l2.length : Int) := of_decide_eq_true (by first | (with_reducible assumption) | assumption); obtain ⟨ad405, e405, hx405_0, hx405_1⟩ := at_T62 HR2.out 0 p405 q405; cases e405; have qi405 : (0 < l2.length) = True := eq_true (by omega); (try rw [show ((0 : Int)).toNat = 0 from rfl] at hx405_0); (try rw [show 0 * 2 = 0 from rfl] at hx405_0); (try rw [Addr.add_zero'] at hx405_0); (try rw [show ((0 : Int)).toNat = 0 from rfl] at hx405_1); (try rw [show 0 * 2 = 0 from rfl] at hx405_1); (try rw [Addr.add_zero'] at hx405_1); replace p405 := eq_true p405; replace q405 := eq_true q405; have p406 : 0 ≤ (0 : Int) := (by omega); have q406 : 0 < (l2.length : Int) := of_decide_eq_true (by first | (with_reducible assumption) | assumption); obtain ⟨ad406, e406, hx406_0, hx406_1⟩ := at_T62 HR2.out 0 p406 q406; obtain rfl : ad405 = ad406 := (by injection e406); have qi406 : (0 < l2.length) = True := eq_true (by omega); (try rw [show ((0 : Int)).toNat = 0 from rfl] at hx406_0); (try rw [show 0 * 2 = 0 from rfl] at hx406_0); (try rw [Addr.add_zero'] at hx406_0); (try rw [show ((0 : Int)).toNat = 0 from rfl] at hx406_1); (try rw [show 0 * 2 = 0 from rfl] at hx406_1); (try rw [Addr.add_zero'] at hx406_1); replace p406 := eq_true p406; replace q406 := eq_true q406))
       go_ret
       exact ⟨by first | rfl | (simp; done) | (simp [*]; done), by repeat (first | exact Drawn0.refl _ | apply Drawn0.step)⟩
      ·rw [if_neg c10] at H
       have c10b0 : decide (200 < (((rd_T62 l2 0).f1).size : Int)) = false := decide_eq_false c10
       have c10b1 : decide (200 < ((rd_T62 l2 0).f1).size) = false := decide_eq_false (by omega)
       clear c10
       obtain rfl := Option.some.inj H
       go_enter Tryd.func37, Tryd.ntmps37
       go_wp2_with (first | ((with_reducible refine gate_callee (f := 25) rfl ?_); refine goesL_ (some 9) rfl rfl Tryd.func25 (by kernel_rfl) rfl #[.int .i64 a0, .int .i64 a1] rfl (by (try simp only [List.map_toArray, List.map_cons, List.map_nil]); first | done | rfl | (simp only [List.length_drop, List.length_take]; rfl)) ?_; (with_reducible refine (corncribref03_Code.calls a0 a1 true _ A4.out).mono ?_); rintro e w' ⟨rfl, ⟨nd, rfl⟩⟩; refine ⟨_, rfl, ?_⟩; have p405 : 0 ≤ (0 : Int) := (by omega); have q405 : 0 < (l2.length : Int) := of_decide_eq_true (by first | (with_reducible assumption) | assumption); obtain ⟨ad405, e405, hx405_0, hx405_1⟩ := at_T62 HR2.out 0 p405 q405; cases e405; have qi405 : (0 < l2.length) = True := eq_true (by omega); (try rw [show ((0 : Int)).toNat = 0 from rfl] at hx405_0); (try rw [show 0 * 2 = 0 from rfl] at hx405_0); (try rw [Addr.add_zero'] at hx405_0); (try rw [show ((0 : Int)).toNat = 0 from rfl] at hx405_1); (try rw [show 0 * 2 = 0 from rfl] at hx405_1); (try rw [Addr.add_zero'] at hx405_1); replace p405 := eq_true p405; replace q405 := eq_true q405))
       go_ret
       exact ⟨by first | rfl | (simp; done) | (simp [*]; done), by repeat (first | exact Drawn0.refl _ | apply Drawn0.step)⟩
     ·rw [if_neg c9] at H
      exact absurd H (by simp)
    ·rw [if_neg c8] at H
     have c8b0 : decide (0 < (l2.length : Int)) = false := decide_eq_false c8
     have c8b1 : decide (0 < l2.length) = false := decide_eq_false (by omega)
     clear c8
     obtain rfl := Option.some.inj H
     go_enter Tryd.func37, Tryd.ntmps37
     go_wp2_with (first | ((with_reducible refine gate_callee (f := 25) rfl ?_); refine goesL_ (some 9) rfl rfl Tryd.func25 (by kernel_rfl) rfl #[.int .i64 a0, .int .i64 a1] rfl (by (try simp only [List.map_toArray, List.map_cons, List.map_nil]); first | done | rfl | (simp only [List.length_drop, List.length_take]; rfl)) ?_; (with_reducible refine (corncribref03_Code.calls a0 a1 true _ A4.out).mono ?_); rintro e w' ⟨rfl, ⟨nd, rfl⟩⟩; refine ⟨_, rfl, ?_⟩))
     go_ret
     exact ⟨by first | rfl | (simp; done) | (simp [*]; done), by repeat (first | exact Drawn0.refl _ | apply Drawn0.step)⟩
  ·rw [if_neg c6] at H
   have c6b0 : decide (10 < a0) = false := decide_eq_false c6
   clear c6
   by_cases c11 : a1 > 10
   ·rw [if_pos c11] at H
    have c11b0 : decide (10 < a1) = true := decide_eq_true c11
    clear c11
    by_cases c12 : (l2.length : Int) ≥ a0
    ·rw [if_pos c12] at H
     have c12b0 : decide (a0 ≤ (l2.length : Int)) = true := decide_eq_true c12
     clear c12
     obtain rfl := Option.some.inj H
     go_enter Tryd.func37, Tryd.ntmps37
     go_wp2_with (first | ((with_reducible refine gate_callee (f := 25) rfl ?_); refine goesL_ (some 9) rfl rfl Tryd.func25 (by kernel_rfl) rfl #[.int .i64 a0, .int .i64 a1] rfl (by (try simp only [List.map_toArray, List.map_cons, List.map_nil]); first | done | rfl | (simp only [List.length_drop, List.length_take]; rfl)) ?_; (with_reducible refine (corncribref03_Code.calls a0 a1 true _ A4.out).mono ?_); rintro e w' ⟨rfl, ⟨nd, rfl⟩⟩; refine ⟨_, rfl, ?_⟩))
     go_ret
     exact ⟨by first | rfl | (simp; done) | (simp [*]; done), by repeat (first | exact Drawn0.refl _ | apply Drawn0.step)⟩
    ·rw [if_neg c12] at H
     have c12b0 : decide (a0 ≤ (l2.length : Int)) = false := decide_eq_false c12
     clear c12
     by_cases c13 : (l2.length : Int) > 0
     ·rw [if_pos c13] at H
      have c13b0 : decide (0 < (l2.length : Int)) = true := decide_eq_true c13
      have c13b1 : decide (0 < l2.length) = true := decide_eq_true (by omega)
      clear c13
      by_cases c14 : 0 < (l2.length : Int)
      ·rw [if_pos c14] at H
       have c14b0 : decide (0 < (l2.length : Int)) = true := decide_eq_true c14
       have c14b1 : decide (0 < l2.length) = true := decide_eq_true (by omega)
       clear c14
       by_cases c15 : (((rd_T62 l2 0).f1).size : Int) > 200
       ·rw [if_pos c15] at H
        have c15b0 : decide (200 < (((rd_T62 l2 0).f1).size : Int)) = true := decide_eq_true c15
        have c15b1 : decide (200 < ((rd_T62 l2 0).f1).size) = true := decide_eq_true (by omega)
        clear c15
        obtain rfl := Option.some.inj H
        go_enter Tryd.func37, Tryd.ntmps37
        go_wp2_with (first | ((with_reducible refine gate_callee (f := 25) rfl ?_); refine goesL_ (some 9) rfl rfl Tryd.func25 (by kernel_rfl) rfl #[.int .i64 a0, .int .i64 a1] rfl (by (try simp only [List.map_toArray, List.map_cons, List.map_nil]); first | done | rfl | (simp only [List.length_drop, List.length_take]; rfl)) ?_; (with_reducible refine (corncribref03_Code.calls a0 a1 true _ A4.out).mono ?_); rintro e w' ⟨rfl, ⟨nd, rfl⟩⟩; refine ⟨_, rfl, ?_⟩; have p407 : 0 ≤ (0 : Int) := (by omega); have q407 : 0 < (l2.length : Int) := of_decide_eq_true (by first | (with_reducible assumption) | assumption); obtain ⟨ad407, e407, hx407_0, hx407_1⟩ := at_T62 HR2.out 0 p407 q407; cases e407; have qi407 : (0 < l2.length) = True := eq_true (by omega); (try rw [show ((0 : Int)).toNat = 0 from rfl] at hx407_0); (try rw [show 0 * 2 = 0 from rfl] at hx407_0); (try rw [Addr.add_zero'] at hx407_0); (try rw [show ((0 : Int)).toNat = 0 from rfl] at hx407_1); (try rw [show 0 * 2 = 0 from rfl] at hx407_1); (try rw [Addr.add_zero'] at hx407_1); replace p407 := eq_true p407; replace q407 := eq_true q407; have p408 : 0 ≤ (0 : Int) := (by omega); have q408 : 0 < (l2.length : Int) := of_decide_eq_true (by first | (with_reducible assumption) | assumption); obtain ⟨ad408, e408, hx408_0, hx408_1⟩ := at_T62 HR2.out 0 p408 q408; obtain rfl : ad407 = ad408 := (by injection e408); have qi408 : (0 < l2.length) = True := eq_true (by omega); (try rw [show ((0 : Int)).toNat = 0 from rfl] at hx408_0); (try rw [show 0 * 2 = 0 from rfl] at hx408_0); (try rw [Addr.add_zero'] at hx408_0); (try rw [show ((0 : Int)).toNat = 0 from rfl] at hx408_1); (try rw [show 0 * 2 = 0 from rfl] at hx408_1); (try rw [Addr.add_zero'] at hx408_1); replace p408 := eq_true p408; replace q408 := eq_true q408))
        go_ret
        exact ⟨by first | rfl | (simp; done) | (simp [*]; done), by repeat (first | exact Drawn0.refl _ | apply Drawn0.step)⟩
       ·rw [if_neg c15] at H
        have c15b0 : decide (200 < (((rd_T62 l2 0).f1).size : Int)) = false := decide_eq_false c15
        have c15b1 : decide (200 < ((rd_T62 l2 0).f1).size) = false := decide_eq_false (by omega)
        clear c15
        obtain rfl := Option.some.inj H
        go_enter Tryd.func37, Tryd.ntmps37
        go_wp2_with (first | ((with_reducible refine gate_callee (f := 25) rfl ?_); refine goesL_ (some 9) rfl rfl Tryd.func25 (by kernel_rfl) rfl #[.int .i64 a0, .int .i64 a1] rfl (by (try simp only [List.map_toArray, List.map_cons, List.map_nil]); first | done | rfl | (simp only [List.length_drop, List.length_take]; rfl)) ?_; (with_reducible refine (corncribref03_Code.calls a0 a1 true _ A4.out).mono ?_); rintro e w' ⟨rfl, ⟨nd, rfl⟩⟩; refine ⟨_, rfl, ?_⟩; have p407 : 0 ≤ (0 : Int) := (by omega); have q407 : 0 < (l2.length : Int) := of_decide_eq_true (by first | (with_reducible assumption) | assumption); obtain ⟨ad407, e407, hx407_0, hx407_1⟩ := at_T62 HR2.out 0 p407 q407; cases e407; have qi407 : (0 < l2.length) = True := eq_true (by omega); (try rw [show ((0 : Int)).toNat = 0 from rfl] at hx407_0); (try rw [show 0 * 2 = 0 from rfl] at hx407_0); (try rw [Addr.add_zero'] at hx407_0); (try rw [show ((0 : Int)).toNat = 0 from rfl] at hx407_1); (try rw [show 0 * 2 = 0 from rfl] at hx407_1); (try rw [Addr.add_zero'] at hx407_1); replace p407 := eq_true p407; replace q407 := eq_true q407))
        go_ret
        exact ⟨by first | rfl | (simp; done) | (simp [*]; done), by repeat (first | exact Drawn0.refl _ | apply Drawn0.step)⟩
      ·rw [if_neg c14] at H
       exact absurd H (by simp)
     ·rw [if_neg c13] at H
      have c13b0 : decide (0 < (l2.length : Int)) = false := decide_eq_false c13
      have c13b1 : decide (0 < l2.length) = false := decide_eq_false (by omega)
      clear c13
      obtain rfl := Option.some.inj H
      go_enter Tryd.func37, Tryd.ntmps37
      go_wp2_with (first | ((with_reducible refine gate_callee (f := 25) rfl ?_); refine goesL_ (some 9) rfl rfl Tryd.func25 (by kernel_rfl) rfl #[.int .i64 a0, .int .i64 a1] rfl (by (try simp only [List.map_toArray, List.map_cons, List.map_nil]); first | done | rfl | (simp only [List.length_drop, List.length_take]; rfl)) ?_; (with_reducible refine (corncribref03_Code.calls a0 a1 true _ A4.out).mono ?_); rintro e w' ⟨rfl, ⟨nd, rfl⟩⟩; refine ⟨_, rfl, ?_⟩))
      go_ret
      exact ⟨by first | rfl | (simp; done) | (simp [*]; done), by repeat (first | exact Drawn0.refl _ | apply Drawn0.step)⟩
   ·rw [if_neg c11] at H
    have c11b0 : decide (10 < a1) = false := decide_eq_false c11
    clear c11
    by_cases c16 : (l2.length : Int) > 0
    ·rw [if_pos c16] at H
     have c16b0 : decide (0 < (l2.length : Int)) = true := decide_eq_true c16
     have c16b1 : decide (0 < l2.length) = true := decide_eq_true (by omega)
     clear c16
     by_cases c17 : 0 < (l2.length : Int)
     ·rw [if_pos c17] at H
      have c17b0 : decide (0 < (l2.length : Int)) = true := decide_eq_true c17
      have c17b1 : decide (0 < l2.length) = true := decide_eq_true (by omega)
      clear c17
      by_cases c18 : (((rd_T62 l2 0).f1).size : Int) > 200
      ·rw [if_pos c18] at H
       have c18b0 : decide (200 < (((rd_T62 l2 0).f1).size : Int)) = true := decide_eq_true c18
       have c18b1 : decide (200 < ((rd_T62 l2 0).f1).size) = true := decide_eq_true (by omega)
       clear c18
       obtain rfl := Option.some.inj H
       go_enter Tryd.func37, Tryd.ntmps37
       go_wp2_with (first | ((with_reducible refine gate_callee (f := 25) rfl ?_); refine goesL_ (some 9) rfl rfl Tryd.func25 (by kernel_rfl) rfl #[.int .i64 a0, .int .i64 a1] rfl (by (try simp only [List.map_toArray, List.map_cons, List.map_nil]); first | done | rfl | (simp only [List.length_drop, List.length_take]; rfl)) ?_; (with_reducible refine (corncribref03_Code.calls a0 a1 true _ A4.out).mono ?_); rintro e w' ⟨rfl, ⟨nd, rfl⟩⟩; refine ⟨_, rfl, ?_⟩; have p409 : 0 ≤ (0 : Int) := (by omega); have q409 : 0 < (l2.length : Int) := of_decide_eq_true (by first | (with_reducible assumption) | assumption); obtain ⟨ad409, e409, hx409_0, hx409_1⟩ := at_T62 HR2.out 0 p409 q409; cases e409; have qi409 : (0 < l2.length) = True := eq_true (by omega); (try rw [show ((0 : Int)).toNat = 0 from rfl] at hx409_0); (try rw [show 0 * 2 = 0 from rfl] at hx409_0); (try rw [Addr.add_zero'] at hx409_0); (try rw [show ((0 : Int)).toNat = 0 from rfl] at hx409_1); (try rw [show 0 * 2 = 0 from rfl] at hx409_1); (try rw [Addr.add_zero'] at hx409_1); replace p409 := eq_true p409; replace q409 := eq_true q409; have p410 : 0 ≤ (0 : Int) := (by omega); have q410 : 0 < (l2.length : Int) := of_decide_eq_true (by first | (with_reducible assumption) | assumption); obtain ⟨ad410, e410, hx410_0, hx410_1⟩ := at_T62 HR2.out 0 p410 q410; obtain rfl : ad409 = ad410 := (by injection e410); have qi410 : (0 < l2.length) = True := eq_true (by omega); (try rw [show ((0 : Int)).toNat = 0 from rfl] at hx410_0); (try rw [show 0 * 2 = 0 from rfl] at hx410_0); (try rw [Addr.add_zero'] at hx410_0); (try rw [show ((0 : Int)).toNat = 0 from rfl] at hx410_1); (try rw [show 0 * 2 = 0 from rfl] at hx410_1); (try rw [Addr.add_zero'] at hx410_1); replace p410 := eq_true p410; replace q410 := eq_true q410))
       go_ret
       exact ⟨by first | rfl | (simp; done) | (simp [*]; done), by repeat (first | exact Drawn0.refl _ | apply Drawn0.step)⟩
      ·rw [if_neg c18] at H
       have c18b0 : decide (200 < (((rd_T62 l2 0).f1).size : Int)) = false := decide_eq_false c18
       have c18b1 : decide (200 < ((rd_T62 l2 0).f1).size) = false := decide_eq_false (by omega)
       clear c18
       obtain rfl := Option.some.inj H
       go_enter Tryd.func37, Tryd.ntmps37
       go_wp2_with (first | ((with_reducible refine gate_callee (f := 25) rfl ?_); refine goesL_ (some 9) rfl rfl Tryd.func25 (by kernel_rfl) rfl #[.int .i64 a0, .int .i64 a1] rfl (by (try simp only [List.map_toArray, List.map_cons, List.map_nil]); first | done | rfl | (simp only [List.length_drop, List.length_take]; rfl)) ?_; (with_reducible refine (corncribref03_Code.calls a0 a1 true _ A4.out).mono ?_); rintro e w' ⟨rfl, ⟨nd, rfl⟩⟩; refine ⟨_, rfl, ?_⟩; have p409 : 0 ≤ (0 : Int) := (by omega); have q409 : 0 < (l2.length : Int) := of_decide_eq_true (by first | (with_reducible assumption) | assumption); obtain ⟨ad409, e409, hx409_0, hx409_1⟩ := at_T62 HR2.out 0 p409 q409; cases e409; have qi409 : (0 < l2.length) = True := eq_true (by omega); (try rw [show ((0 : Int)).toNat = 0 from rfl] at hx409_0); (try rw [show 0 * 2 = 0 from rfl] at hx409_0); (try rw [Addr.add_zero'] at hx409_0); (try rw [show ((0 : Int)).toNat = 0 from rfl] at hx409_1); (try rw [show 0 * 2 = 0 from rfl] at hx409_1); (try rw [Addr.add_zero'] at hx409_1); replace p409 := eq_true p409; replace q409 := eq_true q409))
       go_ret
       exact ⟨by first | rfl | (simp; done) | (simp [*]; done), by repeat (first | exact Drawn0.refl _ | apply Drawn0.step)⟩
     ·rw [if_neg c17] at H
      exact absurd H (by simp)
    ·rw [if_neg c16] at H
     have c16b0 : decide (0 < (l2.length : Int)) = false := decide_eq_false c16
     have c16b1 : decide (0 < l2.length) = false := decide_eq_false (by omega)
     clear c16
     obtain rfl := Option.some.inj H
     go_enter Tryd.func37, Tryd.ntmps37
     go_wp2_with (first | ((with_reducible refine gate_callee (f := 25) rfl ?_); refine goesL_ (some 9) rfl rfl Tryd.func25 (by kernel_rfl) rfl #[.int .i64 a0, .int .i64 a1] rfl (by (try simp only [List.map_toArray, List.map_cons, List.map_nil]); first | done | rfl | (simp only [List.length_drop, List.length_take]; rfl)) ?_; (with_reducible refine (corncribref03_Code.calls a0 a1 true _ A4.out).mono ?_); rintro e w' ⟨rfl, ⟨nd, rfl⟩⟩; refine ⟨_, rfl, ?_⟩))
     go_ret
     exact ⟨by first | rfl | (simp; done) | (simp [*]; done), by repeat (first | exact Drawn0.refl _ | apply Drawn0.step)⟩
 ·replace c5 := Bool.eq_false_iff.mpr c5
  subst c5
  have H1 : (if (l2.length : Int) > 0 then (if 0 < (l2.length : Int) then (if (((rd_T62 l2 0).f1).size : Int) > 200 then (some (decide ((((rd_T62 l2 0).f1).size : Int) ≤ 2052))) else (some false)) else (none)) else (some false)) = some r := by rw [if_neg (show ¬ (false = true) by decide)] at H; exact H
  clear H
  have H := H1
  clear H1
  by_cases c19 : (l2.length : Int) > 0
  ·rw [if_pos c19] at H
   have c19b0 : decide (0 < (l2.length : Int)) = true := decide_eq_true c19
   have c19b1 : decide (0 < l2.length) = true := decide_eq_true (by omega)
   clear c19
   by_cases c20 : 0 < (l2.length : Int)
   ·rw [if_pos c20] at H
    have c20b0 : decide (0 < (l2.length : Int)) = true := decide_eq_true c20
    have c20b1 : decide (0 < l2.length) = true := decide_eq_true (by omega)
    clear c20
    by_cases c21 : (((rd_T62 l2 0).f1).size : Int) > 200
    ·rw [if_pos c21] at H
     have c21b0 : decide (200 < (((rd_T62 l2 0).f1).size : Int)) = true := decide_eq_true c21
     have c21b1 : decide (200 < ((rd_T62 l2 0).f1).size) = true := decide_eq_true (by omega)
     clear c21
     obtain rfl := Option.some.inj H
     go_enter Tryd.func37, Tryd.ntmps37
     go_wp2_with (first | ((with_reducible refine gate_callee (f := 25) rfl ?_); refine goesL_ (some 9) rfl rfl Tryd.func25 (by kernel_rfl) rfl #[.int .i64 a0, .int .i64 a1] rfl (by (try simp only [List.map_toArray, List.map_cons, List.map_nil]); first | done | rfl | (simp only [List.length_drop, List.length_take]; rfl)) ?_; (with_reducible refine (corncribref03_Code.calls a0 a1 false _ A4.out).mono ?_); rintro e w' ⟨rfl, ⟨nd, rfl⟩⟩; refine ⟨_, rfl, ?_⟩; have p411 : 0 ≤ (0 : Int) := (by omega); have q411 : 0 < (l2.length : Int) := of_decide_eq_true (by first | (with_reducible assumption) | assumption); obtain ⟨ad411, e411, hx411_0, hx411_1⟩ := at_T62 HR2.out 0 p411 q411; cases e411; have qi411 : (0 < l2.length) = True := eq_true (by omega); (try rw [show ((0 : Int)).toNat = 0 from rfl] at hx411_0); (try rw [show 0 * 2 = 0 from rfl] at hx411_0); (try rw [Addr.add_zero'] at hx411_0); (try rw [show ((0 : Int)).toNat = 0 from rfl] at hx411_1); (try rw [show 0 * 2 = 0 from rfl] at hx411_1); (try rw [Addr.add_zero'] at hx411_1); replace p411 := eq_true p411; replace q411 := eq_true q411; have p412 : 0 ≤ (0 : Int) := (by omega); have q412 : 0 < (l2.length : Int) := of_decide_eq_true (by first | (with_reducible assumption) | assumption); obtain ⟨ad412, e412, hx412_0, hx412_1⟩ := at_T62 HR2.out 0 p412 q412; obtain rfl : ad411 = ad412 := (by injection e412); have qi412 : (0 < l2.length) = True := eq_true (by omega); (try rw [show ((0 : Int)).toNat = 0 from rfl] at hx412_0); (try rw [show 0 * 2 = 0 from rfl] at hx412_0); (try rw [Addr.add_zero'] at hx412_0); (try rw [show ((0 : Int)).toNat = 0 from rfl] at hx412_1); (try rw [show 0 * 2 = 0 from rfl] at hx412_1); (try rw [Addr.add_zero'] at hx412_1); replace p412 := eq_true p412; replace q412 := eq_true q412))
     go_ret
     exact ⟨by first | rfl | (simp; done) | (simp [*]; done), by repeat (first | exact Drawn0.refl _ | apply Drawn0.step)⟩
    ·rw [if_neg c21] at H
     have c21b0 : decide (200 < (((rd_T62 l2 0).f1).size : Int)) = false := decide_eq_false c21
     have c21b1 : decide (200 < ((rd_T62 l2 0).f1).size) = false := decide_eq_false (by omega)
     clear c21
     obtain rfl := Option.some.inj H
     go_enter Tryd.func37, Tryd.ntmps37
     go_wp2_with (first | ((with_reducible refine gate_callee (f := 25) rfl ?_); refine goesL_ (some 9) rfl rfl Tryd.func25 (by kernel_rfl) rfl #[.int .i64 a0, .int .i64 a1] rfl (by (try simp only [List.map_toArray, List.map_cons, List.map_nil]); first | done | rfl | (simp only [List.length_drop, List.length_take]; rfl)) ?_; (with_reducible refine (corncribref03_Code.calls a0 a1 false _ A4.out).mono ?_); rintro e w' ⟨rfl, ⟨nd, rfl⟩⟩; refine ⟨_, rfl, ?_⟩; have p411 : 0 ≤ (0 : Int) := (by omega); have q411 : 0 < (l2.length : Int) := of_decide_eq_true (by first | (with_reducible assumption) | assumption); obtain ⟨ad411, e411, hx411_0, hx411_1⟩ := at_T62 HR2.out 0 p411 q411; cases e411; have qi411 : (0 < l2.length) = True := eq_true (by omega); (try rw [show ((0 : Int)).toNat = 0 from rfl] at hx411_0); (try rw [show 0 * 2 = 0 from rfl] at hx411_0); (try rw [Addr.add_zero'] at hx411_0); (try rw [show ((0 : Int)).toNat = 0 from rfl] at hx411_1); (try rw [show 0 * 2 = 0 from rfl] at hx411_1); (try rw [Addr.add_zero'] at hx411_1); replace p411 := eq_true p411; replace q411 := eq_true q411))
     go_ret
     exact ⟨by first | rfl | (simp; done) | (simp [*]; done), by repeat (first | exact Drawn0.refl _ | apply Drawn0.step)⟩
   ·rw [if_neg c20] at H
    exact absurd H (by simp)
  ·rw [if_neg c19] at H
   have c19b0 : decide (0 < (l2.length : Int)) = false := decide_eq_false c19
   have c19b1 : decide (0 < l2.length) = false := decide_eq_false (by omega)
   clear c19
   obtain rfl := Option.some.inj H
   go_enter Tryd.func37, Tryd.ntmps37
   go_wp2_with (first | ((with_reducible refine gate_callee (f := 25) rfl ?_); refine goesL_ (some 9) rfl rfl Tryd.func25 (by kernel_rfl) rfl #[.int .i64 a0, .int .i64 a1] rfl (by (try simp only [List.map_toArray, List.map_cons, List.map_nil]); first | done | rfl | (simp only [List.length_drop, List.length_take]; rfl)) ?_; (with_reducible refine (corncribref03_Code.calls a0 a1 false _ A4.out).mono ?_); rintro e w' ⟨rfl, ⟨nd, rfl⟩⟩; refine ⟨_, rfl, ?_⟩))
   go_ret
   exact ⟨by first | rfl | (simp; done) | (simp [*]; done), by repeat (first | exact Drawn0.refl _ | apply Drawn0.step)⟩

end Go.Proofs.YtegmmefijihdeaaDoor.PS
namespace Go.Proofs.YtegmmefijihdeaaDoor.PS
open Go.RowKit Go.Proofs.YtegmmefijihdeaaDoorW.PrintWords Go.Proofs.YtegmmefijihdeaaDoor.Read
set_option linter.unusedVariables false
set_option maxRecDepth 100000
def kCodeM : Kd (Int × Int) := Kd.pair (Kd.int .i64) (Kd.int .i64)
theorem openIntM : Opens Tryd.prog (Kd.int .i64) 3 (fun a => (Lit.int .i64 a).wf = true) := opens_int Tryd.underlying3 (by kernel_rfl)
theorem openCodeM : Opens Tryd.prog kCodeM 52 (fun x => (Lit.int .i64 x.1).wf = true ∧ (Lit.int .i64 x.2).wf = true) :=
  opens_good (opens_struct Tryd.underlying52 (by kernel_rfl) (parts_cons rfl openIntM (parts_one rfl openIntM))) (fun _ h => h)
theorem codeM_value {W : World} {x : Int × Int} {v : Value} (h : kCodeM.K W x v.cells.toList) {p : Prop} (_ : p) : v = .agg #[.int .i64 x.1, .int .i64 x.2] := by
  obtain ⟨_, _, e, rfl, rfl⟩ := h
  cases v <;> simp [Value.cells] at e
  rename_i cs
  congr 1
  exact Array.toList_inj.1 (by simpa using e)
theorem large_f (k m : Int) (l : List S62) : ∃ b, corncriblaw04_large.f k m l = some b := by
  unfold corncriblaw04_large.f
  rw [show corncribref03_Code.f k m = some (codeB k m) from code_f k m, Option.bind_some]
  repeat' split
  all_goals first
    | exact ⟨_, rfl⟩
    | (exfalso; omega)
end Go.Proofs.YtegmmefijihdeaaDoor.PS
namespace Go.Proofs.YtegmmefijihdeaaDoor.MapN
open Go.RowKit Go.Maps Go.WideMaps
set_option linter.unusedVariables false
/-- An element told as the very value. -/
def Rv (v : Value) : Option (DataW Value × List MemPlace) := some (.held v, [])
theorem keyed3 : Keyed Tryd.prog 3 := int_keyed Tryd.underlying3
theorem key3 {i : Int} (h : -9223372036854775808 ≤ i ∧ i ≤ 9223372036854775807) : keyOf Tryd.prog 3 (.int .i64 i) = some (.int .i64 i) := keyOf_int_mk Tryd.underlying3 (WalkArith.wf_i64 (by omega))
theorem zero3 (w : World) : (zeroValue 3).run Tryd.prog w = .ok (.int .i64 0) w := by kernel_rfl
/-- At most N entries; the keys there are those at which f is true. -/
def KeysAt (w : World) (b N : Nat) (f : Int → Bool) : Prop := ∃ D : DataW Value, w.ownsMap Tryd.prog 3 Rv b N D ∧ ∀ i, Maps.has D (.int .i64 i) = f i
section
variable {w w' : World} {b N : Nat} {f : Int → Bool}
theorem grownBy_of_below {w w1 : World} (h : Below w.heap.size w w1) (row : Option Nat) : w.grownBy w1 row := ⟨h.os, h.tape, h.output, h.size, fun i hi _ => h.block i hi⟩
theorem KeysAt.made (w : World) : KeysAt (w.alloc (.map #[] 0)) w.heap.size 0 (fun _ => false) := ⟨.map [], World.ownsMap_made _ _ _ _, fun _ => rfl⟩
theorem KeysAt.kept (h : KeysAt w b N f) {row : Option Nat} (hg : w.grownBy w' row) (hne : some b ≠ row) : KeysAt w' b N f := by
  obtain ⟨D, ho, h1⟩ := h
  exact ⟨D, ho.kept hg hne, h1⟩
theorem KeysAt.below (h : KeysAt w b N f) (hb : Below w.heap.size w w') : KeysAt w' b N f := h.kept (grownBy_of_below hb none) (by simp)
theorem KeysAt.lt (h : KeysAt w b N f) : b < w.heap.size := by
  obtain ⟨D, ho, _⟩ := h
  exact ho.lt
theorem KeysAt.congr (h : KeysAt w b N f) {g : Int → Bool} (e : ∀ i, f i = g i) : KeysAt w b N g := by
  obtain ⟨D, ho, h1⟩ := h
  exact ⟨D, ho, fun i => (h1 i).trans (e i)⟩
theorem KeysAt.ne (h : KeysAt w b N f) {a : Addr} {v : Value} (hc : w.cell? a = some v) : a.block ≠ b := by
  obtain ⟨D, ⟨es, clock, hb, _⟩, _⟩ := h
  intro e
  subst e
  simp [World.cell?, hb] at hc
/-- 'v, ok := m[i]' -/
theorem KeysAt.look {ops : Array Oper} {rest : List Oper} {o : Oper} {a : Act} {Q : Exit → Act → World → Prop} (h : KeysAt w b N f) (hg : o.guard = none) (m x : Operand) (hop : o.op = Op.lookup 82 m x true)
    (hm : a.eval m = .map (some b)) (i : Int) (hx : a.eval x = .int .i64 i) (hi : -9223372036854775808 ≤ i ∧ i ≤ 9223372036854775807)
    (hK : ∀ v, wpList Tryd.prog ops Q rest (a.put o.dst (.tuple #[v, .bool (f i)])) w) : wpList Tryd.prog ops Q (o :: rest) a w := by
  obtain ⟨D, ho, h1⟩ := h
  refine wpList_lookup_own_ok w hg m x 82 hop 3 3 keyed3 Tryd.underlying82 Rv (zero3 w) (.held (.int .i64 0)) [] rfl b N D hm ho _ (.int .i64 i) hx (key3 hi) (fun v ps hv => ?_)
  rw [h1 i]
  exact hK v
/-- 'm[i] = v' -/
theorem KeysAt.store {ops : Array Oper} {rest : List Oper} {o : Oper} {a : Act} {Q : Exit → Act → World → Prop} (h : KeysAt w b N f) (hg : o.guard = none) (m x y : Operand) (hop : o.op = Op.mapUpdate 82 m x y)
    (hn : N < maxLen) (hm : a.eval m = .map (some b)) (i : Int) (hx : a.eval x = .int .i64 i) (hi : -9223372036854775808 ≤ i ∧ i ≤ 9223372036854775807) (v : Value) (hy : a.eval y = v)
    (hK : ∀ w', KeysAt w' b (N + 1) (fun q => decide (q = i) || f q) → w.grownBy w' (some b) → wpList Tryd.prog ops Q rest (a.put o.dst undef) w') : wpList Tryd.prog ops Q (o :: rest) a w := by
  obtain ⟨D, ho, h1⟩ := h
  refine wpList_mapUpdate_own w hg m x y 82 hop 3 3 keyed3 Tryd.underlying82 Rv b N D hm ho hn _ v (.int .i64 i) hx hy (key3 hi) (.held v) [] rfl (fun w' ho' hg' => hK w' ⟨_, ho', fun q => ?_⟩ hg')
  by_cases e1 : q = i
  · rw [e1, has_put_same ho.isMap (show WideAt.IsKeyLit (Lit.int .i64 i) from trivial)]
    simp
  · rw [has_put_other (fun h => e1 (by injection h)), h1]
    simp [e1]
end
end Go.Proofs.YtegmmefijihdeaaDoor.MapN
namespace Go.Proofs.YtegmmefijihdeaaDoor.PS
open Go.RowKit Go.Proofs.YtegmmefijihdeaaDoorW.PrintWords Go.Proofs.YtegmmefijihdeaaDoorW.PrintLast Go.Proofs.YtegmmefijihdeaaDoorW.PrintMore
attribute [local go_sem] Mk.str_leq Mk.str_gtr Mk.str_geq max2_int min2_int max_two min_two max_three min_three max_four min_four   -- for this text's walks alone
set_option linter.unusedVariables false
set_option linter.unusedSimpArgs false

/-! ### corncribref04_Check: function 35 -/
mutual
def corncribref04_Check.l0 : Nat → Int → Int → List (S62) → Int → Option (Int × Int)
 | 0, _, _, _, _ => none
 | k + 1, x0, x1, x2, x8 => if x8 < (x2.length : Int) then (if 0 ≤ x8 then (if ((rd_T62 x2 x8).f0) < 0 then (corncribref04_Check.j1 k x0 x1 x2 x8 true) else (corncribref04_Check.j1 k x0 x1 x2 x8 (decide (((rd_T62 x2 x8).f0) ≥ (wrap64 (x0 + x1)))))) else (none)) else (if (x2.length : Int) < x0 then (some ((-1), 40)) else (some (0, 0)))
def corncribref04_Check.j1 : Nat → Int → Int → List (S62) → Int → Bool → Option (Int × Int)
 | 0, _, _, _, _, _ => none
 | k + 1, x0, x1, x2, x8, x36 => if x36 = true then (some (x8, 1)) else (corncribref04_Check.l1 k x0 x1 x2 x8 0)
def corncribref04_Check.l1 : Nat → Int → Int → List (S62) → Int → Int → Option (Int × Int)
 | 0, _, _, _, _, _ => none
 | k + 1, x0, x1, x2, x8, x9 => if x9 < x8 then (if 0 ≤ x9 then (if x9 < (x2.length : Int) then (if 0 ≤ x8 then (if x8 < (x2.length : Int) then (if ((rd_T62 x2 x9).f0) = ((rd_T62 x2 x8).f0) then (some (x8, 6)) else (corncribref04_Check.l1 k x0 x1 x2 x8 (wrap64 (x9 + 1)))) else (none)) else (none)) else (none)) else (none)) else (if 0 ≤ x8 then (if x8 < (x2.length : Int) then (if (((rd_T62 x2 x8).f1).size : Int) > 2052 then (some (x8, 2)) else (if 0 < (x2.length : Int) then (if (((rd_T62 x2 x8).f1).size : Int) = (((rd_T62 x2 0).f1).size : Int) then (corncribref04_Check.l0 k x0 x1 x2 (wrap64 (x8 + 1))) else (some (x8, 4))) else (none))) else (none)) else (none))
end
def corncribref04_Check.f (k : Nat) (a0 : Int) (a1 : Int) (l2 : List (S62)) : Option (Int × Int) := (corncribref03_Code.f a0 a1).bind fun t386 => (if t386 = true then (corncribref04_Check.l0 k a0 a1 l2 0) else (some ((-1), 1)))
theorem corncribref04_Check.mono_l : ∀ k, (∀ y0 y1 y2 y3, LeO (corncribref04_Check.l0 k y0 y1 y2 y3) (corncribref04_Check.l0 (k + 1) y0 y1 y2 y3)) ∧ (∀ y0 y1 y2 y3 y4, LeO (corncribref04_Check.j1 k y0 y1 y2 y3 y4) (corncribref04_Check.j1 (k + 1) y0 y1 y2 y3 y4)) ∧ (∀ y0 y1 y2 y3 y4, LeO (corncribref04_Check.l1 k y0 y1 y2 y3 y4) (corncribref04_Check.l1 (k + 1) y0 y1 y2 y3 y4))
 | 0 => ⟨fun _ _ _ _ r h => by simp [corncribref04_Check.l0] at h, fun _ _ _ _ _ r h => by simp [corncribref04_Check.j1] at h, fun _ _ _ _ _ r h => by simp [corncribref04_Check.l1] at h⟩
 | k + 1 => by
  obtain ⟨ih0, ih1, ih2⟩ := corncribref04_Check.mono_l k
  refine ⟨?_, ?_, ?_⟩
  ·intro y0 y1 y2 y3
   unfold corncribref04_Check.l0
   repeat' first
   | (with_reducible exact ih0 _ _ _ _)
   | (with_reducible exact ih1 _ _ _ _ _)
   | (with_reducible exact ih2 _ _ _ _ _)
   | (with_reducible exact LeO.refl _)
   | (with_reducible exact LeO.none _)
   | (with_reducible refine LeO.ite ?_ ?_)
   | (with_reducible refine LeO.bind ?_ (fun _ => ?_))
   | exact ih0 _ _ _ _
   | exact ih1 _ _ _ _ _
   | exact ih2 _ _ _ _ _
   | exact LeO.none _
   | refine LeO.ite ?_ ?_
   | refine LeO.bind ?_ (fun _ => ?_)
  ·intro y0 y1 y2 y3 y4
   unfold corncribref04_Check.j1
   repeat' first
   | (with_reducible exact ih0 _ _ _ _)
   | (with_reducible exact ih1 _ _ _ _ _)
   | (with_reducible exact ih2 _ _ _ _ _)
   | (with_reducible exact LeO.refl _)
   | (with_reducible exact LeO.none _)
   | (with_reducible refine LeO.ite ?_ ?_)
   | (with_reducible refine LeO.bind ?_ (fun _ => ?_))
   | exact ih0 _ _ _ _
   | exact ih1 _ _ _ _ _
   | exact ih2 _ _ _ _ _
   | exact LeO.none _
   | refine LeO.ite ?_ ?_
   | refine LeO.bind ?_ (fun _ => ?_)
  ·intro y0 y1 y2 y3 y4
   unfold corncribref04_Check.l1
   repeat' first
   | (with_reducible exact ih0 _ _ _ _)
   | (with_reducible exact ih1 _ _ _ _ _)
   | (with_reducible exact ih2 _ _ _ _ _)
   | (with_reducible exact LeO.refl _)
   | (with_reducible exact LeO.none _)
   | (with_reducible refine LeO.ite ?_ ?_)
   | (with_reducible refine LeO.bind ?_ (fun _ => ?_))
   | exact ih0 _ _ _ _
   | exact ih1 _ _ _ _ _
   | exact ih2 _ _ _ _ _
   | exact LeO.none _
   | refine LeO.ite ?_ ?_
   | refine LeO.bind ?_ (fun _ => ?_)
theorem corncribref04_Check.mono : ∀ a0 a1 a2 k, LeO (corncribref04_Check.f k a0 a1 a2) (corncribref04_Check.f (k + 1) a0 a1 a2) := by
 intro a0 a1 a2 k
 obtain ⟨ih0, ih1, ih2⟩ := corncribref04_Check.mono_l k
 unfold corncribref04_Check.f
 repeat' first
   | (with_reducible exact ih0 _ _ _ _)
   | (with_reducible exact ih1 _ _ _ _ _)
   | (with_reducible exact ih2 _ _ _ _ _)
   | (with_reducible exact LeO.refl _)
   | (with_reducible exact LeO.none _)
   | (with_reducible refine LeO.ite ?_ ?_)
   | (with_reducible refine LeO.bind ?_ (fun _ => ?_))
   | exact ih0 _ _ _ _
   | exact ih1 _ _ _ _ _
   | exact ih2 _ _ _ _ _
   | exact LeO.none _
   | refine LeO.ite ?_ ?_
   | refine LeO.bind ?_ (fun _ => ?_)
set_option maxHeartbeats 8000000 in
set_option maxRecDepth 100000 in
theorem corncribref04_Check.calls (k : Nat) (a0 : Int) (a1 : Int) (A2 : Option Addr) (c2 : Nat) (l2 : List (S62)) (r1 : Int) (r2 : Int) (w : World) (hr2 : Kd.C k62 w A2 l2.length l2) (hc2 : l2.length ≤ c2) (h : corncribref04_Check.f k a0 a1 l2 = some (r1, r2)) :
  Calls Tryd.prog 35 #[.int .i64 a0, .int .i64 a1, .slice A2 l2.length c2] w fun e w' => e = .returned (.tuple #[.int .i64 r1, .int .i64 r2]) ∧ Drawn0 w w' := by
 have HR2 := Aside0.mk hr2
 have HC2 := Aside0.mk hc2
 clear hr2 hc2
 have H : ((corncribref03_Code.f a0 a1).bind fun t386 => (if t386 = true then (corncribref04_Check.l0 k a0 a1 l2 0) else (some ((-1), 1)))) = some (r1, r2) := h
 clear h
 replace H := Option.bind_eq_some_iff.mp H
 obtain ⟨t386, A40, H⟩ := H
 replace H : (if t386 = true then (corncribref04_Check.l0 k a0 a1 l2 0) else (some ((-1), 1))) = some (r1, r2) := H
 have A4 := Aside0.mk A40
 clear A40
 by_cases c5 : t386 = true
 ·subst c5
  have H1 : (corncribref04_Check.l0 k a0 a1 l2 0) = some (r1, r2) := by rw [if_pos rfl] at H; exact H
  clear H
  have H := H1
  clear H1
  have H' := Aside0.mk H
  clear H
  go_enter Tryd.func35, Tryd.ntmps35
  go_wp2_with (first | (go_at_call 25; (with_reducible refine (corncribref03_Code.calls a0 a1 true _ A4.out).mono ?_); rintro e w' ⟨rfl, ⟨nd, rfl⟩⟩; (try first | exact ⟨rfl, _, World.drewN_drewN _ _ _⟩ | exact ⟨rfl, _, Eq.trans (World.drewN_drewN _ _ _) (congrArg (World.drewN _) (Nat.add_assoc _ _ _))⟩)))
  repeat (go_quiet (first | (go_at_call 25; (with_reducible refine (corncribref03_Code.calls a0 a1 true _ A4.out).mono ?_); rintro e w' ⟨rfl, ⟨nd, rfl⟩⟩; (try first | exact ⟨rfl, _, World.drewN_drewN _ _ _⟩ | exact ⟨rfl, _, Eq.trans (World.drewN_drewN _ _ _) (congrArg (World.drewN _) (Nat.add_assoc _ _ _))⟩))); try go_wp2_with (first | (go_at_call 25; (with_reducible refine (corncribref03_Code.calls a0 a1 true _ A4.out).mono ?_); rintro e w' ⟨rfl, ⟨nd, rfl⟩⟩; (try first | exact ⟨rfl, _, World.drewN_drewN _ _ _⟩ | exact ⟨rfl, _, Eq.trans (World.drewN_drewN _ _ _) (congrArg (World.drewN _) (Nat.add_assoc _ _ _))⟩))))
  go_loopg [8] k (fun kq v8 w' => ∃ (x8_1 : Int), v8 = .int .i64 x8_1 ∧ Aside0 (corncribref04_Check.l0 kq a0 a1 l2 x8_1 = some (r1, r2)) ∧ Aside0 (kq ≤ k) ∧ Drawn0 w w')
  case atStart => exact ⟨(0), (by first | rfl | (simp; done) | (simp [*]; done)), H', ⟨Nat.le_refl _⟩, by repeat (first | exact Drawn0.refl _ | apply Drawn0.step)⟩
  case round =>
   clear H'
   try clear c2
   try clear p2
   try clear c3
   try clear c5
   obtain ⟨x8_1, rfl, HA, HK1, ⟨m1, rfl⟩⟩ := hrel
   cases gk with
   | zero => exact absurd HA.out (by simp [corncribref04_Check.l0])
   | succ k1 =>
    have H := HA.out
    clear HA
    simp only [corncribref04_Check.l0] at H
    by_cases c6 : x8_1 < (l2.length : Int)
    ·rw [if_pos c6] at H
     have c6b0 : decide (x8_1 < (l2.length : Int)) = true := decide_eq_true c6
     clear c6
     have HC7 := Aside0.mk H
     clear H
     go_upto_region 6 with (fail)
     repeat (go_quiet (fail); go_upto_region 6 with (fail))
     go_cut [36] (fun v36 wc => ∃ (kq : Nat) (x36_6 : Bool), v36 = .bool x36_6 ∧ Aside0 (corncribref04_Check.j1 kq a0 a1 l2 x8_1 x36_6 = some (r1, r2)) ∧ Aside0 (kq ≤ k1) ∧ Drawn0 w wc)
     case first =>
      have H := HC7.out
      clear HC7
      by_cases c8 : 0 ≤ x8_1
      ·rw [if_pos c8] at H
       have c8b0 : decide (0 ≤ x8_1) = true := decide_eq_true c8
       clear c8
       (first | rw [c8b0] | (simp only [i64_w, i32_w]; rw [c8b0]) | skip)
       by_cases c9 : ((rd_T62 l2 x8_1).f0) < 0
       ·rw [if_pos c9] at H
        have c9b0 : decide (((rd_T62 l2 x8_1).f0) < 0) = true := decide_eq_true c9
        clear c9
        have H' := Aside0.mk H
        clear H
        have p387 : 0 ≤ (x8_1 : Int) := of_decide_eq_true (by first | (with_reducible assumption) | assumption)
        have q387 : x8_1 < (l2.length : Int) := of_decide_eq_true (by first | (with_reducible assumption) | assumption)
        obtain ⟨ad387, e387, hx387_0, hx387_1⟩ := at_T62 HR2.out x8_1 p387 q387
        cases e387
        replace p387 := eq_true p387
        replace q387 := eq_true q387
        go_wp2
        repeat (go_quiet (fail); try go_wp2)
        go_meet
        case rel => exact ⟨_, (true), (by first | rfl | (simp; done) | (simp [*]; done)), H', ⟨by have := HK1.out; first | omega | exact Nat.le_refl _⟩, by repeat (first | exact Drawn0.refl _ | apply Drawn0.step)⟩
       ·rw [if_neg c9] at H
        have c9b0 : decide (((rd_T62 l2 x8_1).f0) < 0) = false := decide_eq_false c9
        clear c9
        have H' := Aside0.mk H
        clear H
        have p387 : 0 ≤ (x8_1 : Int) := of_decide_eq_true (by first | (with_reducible assumption) | assumption)
        have q387 : x8_1 < (l2.length : Int) := of_decide_eq_true (by first | (with_reducible assumption) | assumption)
        obtain ⟨ad387, e387, hx387_0, hx387_1⟩ := at_T62 HR2.out x8_1 p387 q387
        cases e387
        replace p387 := eq_true p387
        replace q387 := eq_true q387
        have p388 : 0 ≤ (x8_1 : Int) := of_decide_eq_true (by first | (with_reducible assumption) | assumption)
        have q388 : x8_1 < (l2.length : Int) := of_decide_eq_true (by first | (with_reducible assumption) | assumption)
        obtain ⟨ad388, e388, hx388_0, hx388_1⟩ := at_T62 HR2.out x8_1 p388 q388
        obtain rfl : ad387 = ad388 := (by injection e388)
        replace p388 := eq_true p388
        replace q388 := eq_true q388
        go_wp2
        repeat (go_quiet (fail); try go_wp2)
        go_meet
        case rel => exact ⟨_, (decide (((rd_T62 l2 x8_1).f0) ≥ (wrap64 (a0 + a1)))), (by first | rfl | (simp; done) | (simp [*]; done)), H', ⟨by have := HK1.out; first | omega | exact Nat.le_refl _⟩, by repeat (first | exact Drawn0.refl _ | apply Drawn0.step)⟩
      ·rw [if_neg c8] at H
       exact absurd H (by simp)
     case rest =>
      clear HC7
      try clear c2
      try clear p2
      try clear c3
      try clear p3
      try clear q3
      try clear hx3
      try clear c5
      try clear c6
      try clear c6b0
      try clear p6
      try clear c8
      try clear c8b0
      try clear c9
      try clear c9b0
      try clear hx387_0
      try clear hx387_1
      try clear hx388_0
      try clear hx388_1
      try clear p2
      try clear p387
      try clear p388
      try clear q387
      try clear q388
      obtain ⟨kq, x36_6, rfl, HA, HJ6, ⟨mc6, rfl⟩⟩ := hcut
      cases kq with
      | zero => exact absurd HA.out (by simp [corncribref04_Check.j1])
      | succ kj6 =>
       have H := HA.out
       clear HA
       simp only [corncribref04_Check.j1] at H
       by_cases c10 : x36_6 = true
       ·subst c10
        have H1 : (some (x8_1, 1)) = some (r1, r2) := by rw [if_pos rfl] at H; exact H
        clear H
        have H := H1
        clear H1
        simp only [Option.some.injEq, Prod.mk.injEq] at H
        obtain ⟨rfl, rfl⟩ := H
        go_wp2
        repeat (go_quiet (fail); try go_wp2)
        go_ret2
        exact ⟨by first | rfl | (simp; done) | (simp [*]; done), by repeat (first | exact Drawn0.refl _ | apply Drawn0.step)⟩
       ·replace c10 := Bool.eq_false_iff.mpr c10
        subst c10
        have H1 : (corncribref04_Check.l1 kj6 a0 a1 l2 x8_1 0) = some (r1, r2) := by rw [if_neg (show ¬ (false = true) by decide)] at H; exact H
        clear H
        have H := H1
        clear H1
        have H' := Aside0.mk H
        clear H
        go_wp2
        repeat (go_quiet (fail); try go_wp2)
        go_loopg [9] kj6 (fun kq v9 w' => ∃ (x9_3 : Int), v9 = .int .i64 x9_3 ∧ Aside0 (corncribref04_Check.l1 kq a0 a1 l2 x8_1 x9_3 = some (r1, r2)) ∧ Aside0 (kq ≤ kj6) ∧ Drawn0 w w')
        case atStart => exact ⟨(0), (by first | rfl | (simp; done) | (simp [*]; done)), H', ⟨Nat.le_refl _⟩, by repeat (first | exact Drawn0.refl _ | apply Drawn0.step)⟩
        case round =>
         clear H'
         try clear c1
         try clear c2
         try clear p2
         try clear c3
         try clear p3
         try clear q3
         try clear hx3
         try clear c5
         try clear c6
         try clear c6b0
         try clear p6
         try clear c8
         try clear c8b0
         try clear c9
         try clear c9b0
         try clear c10
         try clear hx387_0
         try clear hx387_1
         try clear hx388_0
         try clear hx388_1
         try clear p2
         try clear p3
         try clear p387
         try clear p388
         try clear p6
         try clear q3
         try clear q387
         try clear q388
         obtain ⟨x9_3, rfl, HA, HK3, ⟨m3, rfl⟩⟩ := hrel
         cases gk with
         | zero => exact absurd HA.out (by simp [corncribref04_Check.l1])
         | succ k3 =>
          have H := HA.out
          clear HA
          simp only [corncribref04_Check.l1] at H
          by_cases c11 : x9_3 < x8_1
          ·rw [if_pos c11] at H
           have c11b0 : decide (x9_3 < x8_1) = true := decide_eq_true c11
           clear c11
           by_cases c12 : 0 ≤ x9_3
           ·rw [if_pos c12] at H
            have c12b0 : decide (0 ≤ x9_3) = true := decide_eq_true c12
            clear c12
            by_cases c13 : x9_3 < (l2.length : Int)
            ·rw [if_pos c13] at H
             have c13b0 : decide (x9_3 < (l2.length : Int)) = true := decide_eq_true c13
             clear c13
             by_cases c14 : 0 ≤ x8_1
             ·rw [if_pos c14] at H
              have c14b0 : decide (0 ≤ x8_1) = true := decide_eq_true c14
              clear c14
              by_cases c15 : x8_1 < (l2.length : Int)
              ·rw [if_pos c15] at H
               have c15b0 : decide (x8_1 < (l2.length : Int)) = true := decide_eq_true c15
               clear c15
               by_cases c16 : ((rd_T62 l2 x9_3).f0) = ((rd_T62 l2 x8_1).f0)
               ·rw [if_pos c16] at H
                have c16b0 : (((rd_T62 l2 x9_3).f0) == ((rd_T62 l2 x8_1).f0)) = true := beq_iff_eq.mpr c16
                have c16b1 : (((rd_T62 l2 x9_3).f0) != ((rd_T62 l2 x8_1).f0)) = false := bne_eq_false_iff_eq.mpr c16
                clear c16
                simp only [Option.some.injEq, Prod.mk.injEq] at H
                obtain ⟨rfl, rfl⟩ := H
                have p389 : 0 ≤ (x9_3 : Int) := of_decide_eq_true (by first | (with_reducible assumption) | assumption)
                have q389 : x9_3 < (l2.length : Int) := of_decide_eq_true (by first | (with_reducible assumption) | assumption)
                obtain ⟨ad389, e389, hx389_0, hx389_1⟩ := at_T62 HR2.out x9_3 p389 q389
                cases e389
                replace p389 := eq_true p389
                replace q389 := eq_true q389
                have p390 : 0 ≤ (x8_1 : Int) := of_decide_eq_true (by first | (with_reducible assumption) | assumption)
                have q390 : x8_1 < (l2.length : Int) := of_decide_eq_true (by first | (with_reducible assumption) | assumption)
                obtain ⟨ad390, e390, hx390_0, hx390_1⟩ := at_T62 HR2.out x8_1 p390 q390
                obtain rfl : ad389 = ad390 := (by injection e390)
                replace p390 := eq_true p390
                replace q390 := eq_true q390
                go_wp2
                repeat (go_quiet (fail); try go_wp2)
                go_ret2
                exact ⟨by first | rfl | (simp; done) | (simp [*]; done), by repeat (first | exact Drawn0.refl _ | apply Drawn0.step)⟩
               ·rw [if_neg c16] at H
                have c16b0 : (((rd_T62 l2 x9_3).f0) == ((rd_T62 l2 x8_1).f0)) = false := beq_eq_false_iff_ne.mpr c16
                have c16b1 : (((rd_T62 l2 x9_3).f0) != ((rd_T62 l2 x8_1).f0)) = true := bne_iff_ne.mpr c16
                have H' := Aside0.mk H
                clear H
                have p389 : 0 ≤ (x9_3 : Int) := of_decide_eq_true (by first | (with_reducible assumption) | assumption)
                have q389 : x9_3 < (l2.length : Int) := of_decide_eq_true (by first | (with_reducible assumption) | assumption)
                obtain ⟨ad389, e389, hx389_0, hx389_1⟩ := at_T62 HR2.out x9_3 p389 q389
                cases e389
                replace p389 := eq_true p389
                replace q389 := eq_true q389
                have p390 : 0 ≤ (x8_1 : Int) := of_decide_eq_true (by first | (with_reducible assumption) | assumption)
                have q390 : x8_1 < (l2.length : Int) := of_decide_eq_true (by first | (with_reducible assumption) | assumption)
                obtain ⟨ad390, e390, hx390_0, hx390_1⟩ := at_T62 HR2.out x8_1 p390 q390
                obtain rfl : ad389 = ad390 := (by injection e390)
                replace p390 := eq_true p390
                replace q390 := eq_true q390
                go_wp2
                repeat (go_quiet (fail); try go_wp2)
                go_roundg k3
                case measure => have := HK1.out; have := HJ6.out; have := HK3.out; omega
                case rel => exact ⟨(wrap64 (x9_3 + 1)), (by first | rfl | (simp; done) | (simp [*]; done)), H', ⟨by have := HK1.out; have := HJ6.out; have := HK3.out; omega⟩, by repeat (first | exact Drawn0.refl _ | apply Drawn0.step)⟩
              ·rw [if_neg c15] at H
               exact absurd H (by simp)
             ·rw [if_neg c14] at H
              exact absurd H (by simp)
            ·rw [if_neg c13] at H
             exact absurd H (by simp)
           ·rw [if_neg c12] at H
            exact absurd H (by simp)
          ·rw [if_neg c11] at H
           have c11b0 : decide (x9_3 < x8_1) = false := decide_eq_false c11
           clear c11
           by_cases c17 : 0 ≤ x8_1
           ·rw [if_pos c17] at H
            have c17b0 : decide (0 ≤ x8_1) = true := decide_eq_true c17
            clear c17
            by_cases c18 : x8_1 < (l2.length : Int)
            ·rw [if_pos c18] at H
             have c18b0 : decide (x8_1 < (l2.length : Int)) = true := decide_eq_true c18
             clear c18
             by_cases c19 : (((rd_T62 l2 x8_1).f1).size : Int) > 2052
             ·rw [if_pos c19] at H
              have c19b0 : decide (2052 < (((rd_T62 l2 x8_1).f1).size : Int)) = true := decide_eq_true c19
              have c19b1 : decide (2052 < ((rd_T62 l2 x8_1).f1).size) = true := decide_eq_true (by omega)
              clear c19
              simp only [Option.some.injEq, Prod.mk.injEq] at H
              obtain ⟨rfl, rfl⟩ := H
              have p391 : 0 ≤ (x8_1 : Int) := of_decide_eq_true (by first | (with_reducible assumption) | assumption)
              have q391 : x8_1 < (l2.length : Int) := of_decide_eq_true (by first | (with_reducible assumption) | assumption)
              obtain ⟨ad391, e391, hx391_0, hx391_1⟩ := at_T62 HR2.out x8_1 p391 q391
              cases e391
              replace p391 := eq_true p391
              replace q391 := eq_true q391
              go_wp2
              repeat (go_quiet (fail); try go_wp2)
              go_ret2
              exact ⟨by first | rfl | (simp; done) | (simp [*]; done), by repeat (first | exact Drawn0.refl _ | apply Drawn0.step)⟩
             ·rw [if_neg c19] at H
              have c19b0 : decide (2052 < (((rd_T62 l2 x8_1).f1).size : Int)) = false := decide_eq_false c19
              have c19b1 : decide (2052 < ((rd_T62 l2 x8_1).f1).size) = false := decide_eq_false (by omega)
              clear c19
              by_cases c20 : 0 < (l2.length : Int)
              ·rw [if_pos c20] at H
               have c20b0 : decide (0 < (l2.length : Int)) = true := decide_eq_true c20
               have c20b1 : decide (0 < l2.length) = true := decide_eq_true (by omega)
               clear c20
               by_cases c21 : (((rd_T62 l2 x8_1).f1).size : Int) = (((rd_T62 l2 0).f1).size : Int)
               ·rw [if_pos c21] at H
                have c21b0 : ((((rd_T62 l2 x8_1).f1).size : Int) == (((rd_T62 l2 0).f1).size : Int)) = true := beq_iff_eq.mpr c21
                have c21b1 : ((((rd_T62 l2 x8_1).f1).size : Int) != (((rd_T62 l2 0).f1).size : Int)) = false := bne_eq_false_iff_eq.mpr c21
                have c21b2 : (((rd_T62 l2 x8_1).f1).size == ((rd_T62 l2 0).f1).size) = true := by first | simpa using c21 | (simp at c21 ⊢; omega)
                clear c21
                have H' := Aside0.mk H
                clear H
                have p391 : 0 ≤ (x8_1 : Int) := of_decide_eq_true (by first | (with_reducible assumption) | assumption)
                have q391 : x8_1 < (l2.length : Int) := of_decide_eq_true (by first | (with_reducible assumption) | assumption)
                obtain ⟨ad391, e391, hx391_0, hx391_1⟩ := at_T62 HR2.out x8_1 p391 q391
                cases e391
                replace p391 := eq_true p391
                replace q391 := eq_true q391
                have p392 : 0 ≤ (x8_1 : Int) := of_decide_eq_true (by first | (with_reducible assumption) | assumption)
                have q392 : x8_1 < (l2.length : Int) := of_decide_eq_true (by first | (with_reducible assumption) | assumption)
                obtain ⟨ad392, e392, hx392_0, hx392_1⟩ := at_T62 HR2.out x8_1 p392 q392
                obtain rfl : ad391 = ad392 := (by injection e392)
                replace p392 := eq_true p392
                replace q392 := eq_true q392
                have p393 : 0 ≤ (0 : Int) := (by omega)
                have q393 : 0 < (l2.length : Int) := of_decide_eq_true (by first | (with_reducible assumption) | assumption)
                obtain ⟨ad393, e393, hx393_0, hx393_1⟩ := at_T62 HR2.out 0 p393 q393
                obtain rfl : ad391 = ad393 := (by injection e393)
                have qi393 : (0 < l2.length) = True := eq_true (by omega)
                (try rw [show ((0 : Int)).toNat = 0 from rfl] at hx393_0)
                (try rw [show 0 * 2 = 0 from rfl] at hx393_0)
                (try rw [Addr.add_zero'] at hx393_0)
                (try rw [show ((0 : Int)).toNat = 0 from rfl] at hx393_1)
                (try rw [show 0 * 2 = 0 from rfl] at hx393_1)
                (try rw [Addr.add_zero'] at hx393_1)
                replace p393 := eq_true p393
                replace q393 := eq_true q393
                go_wp2
                repeat (go_quiet (fail); try go_wp2)
                go_roundg k3
                case measure => have := HK1.out; have := HJ6.out; have := HK3.out; omega
                case rel => exact ⟨(wrap64 (x8_1 + 1)), (by first | rfl | (simp; done) | (simp [*]; done)), H', ⟨by have := HK1.out; have := HJ6.out; have := HK3.out; omega⟩, by repeat (first | exact Drawn0.refl _ | apply Drawn0.step)⟩
               ·rw [if_neg c21] at H
                have c21b0 : ((((rd_T62 l2 x8_1).f1).size : Int) == (((rd_T62 l2 0).f1).size : Int)) = false := beq_eq_false_iff_ne.mpr c21
                have c21b1 : ((((rd_T62 l2 x8_1).f1).size : Int) != (((rd_T62 l2 0).f1).size : Int)) = true := bne_iff_ne.mpr c21
                have c21b2 : (((rd_T62 l2 x8_1).f1).size == ((rd_T62 l2 0).f1).size) = false := by first | simpa using c21 | (simp at c21 ⊢; omega)
                simp only [Option.some.injEq, Prod.mk.injEq] at H
                obtain ⟨rfl, rfl⟩ := H
                have p391 : 0 ≤ (x8_1 : Int) := of_decide_eq_true (by first | (with_reducible assumption) | assumption)
                have q391 : x8_1 < (l2.length : Int) := of_decide_eq_true (by first | (with_reducible assumption) | assumption)
                obtain ⟨ad391, e391, hx391_0, hx391_1⟩ := at_T62 HR2.out x8_1 p391 q391
                cases e391
                replace p391 := eq_true p391
                replace q391 := eq_true q391
                have p392 : 0 ≤ (x8_1 : Int) := of_decide_eq_true (by first | (with_reducible assumption) | assumption)
                have q392 : x8_1 < (l2.length : Int) := of_decide_eq_true (by first | (with_reducible assumption) | assumption)
                obtain ⟨ad392, e392, hx392_0, hx392_1⟩ := at_T62 HR2.out x8_1 p392 q392
                obtain rfl : ad391 = ad392 := (by injection e392)
                replace p392 := eq_true p392
                replace q392 := eq_true q392
                have p393 : 0 ≤ (0 : Int) := (by omega)
                have q393 : 0 < (l2.length : Int) := of_decide_eq_true (by first | (with_reducible assumption) | assumption)
                obtain ⟨ad393, e393, hx393_0, hx393_1⟩ := at_T62 HR2.out 0 p393 q393
                obtain rfl : ad391 = ad393 := (by injection e393)
                have qi393 : (0 < l2.length) = True := eq_true (by omega)
                (try rw [show ((0 : Int)).toNat = 0 from rfl] at hx393_0)
                (try rw [show 0 * 2 = 0 from rfl] at hx393_0)
                (try rw [Addr.add_zero'] at hx393_0)
                (try rw [show ((0 : Int)).toNat = 0 from rfl] at hx393_1)
                (try rw [show 0 * 2 = 0 from rfl] at hx393_1)
                (try rw [Addr.add_zero'] at hx393_1)
                replace p393 := eq_true p393
                replace q393 := eq_true q393
                go_wp2
                repeat (go_quiet (fail); try go_wp2)
                go_ret2
                exact ⟨by first | rfl | (simp; done) | (simp [*]; done), by repeat (first | exact Drawn0.refl _ | apply Drawn0.step)⟩
              ·rw [if_neg c20] at H
               exact absurd H (by simp)
            ·rw [if_neg c18] at H
             exact absurd H (by simp)
           ·rw [if_neg c17] at H
            exact absurd H (by simp)
    ·rw [if_neg c6] at H
     have c6b0 : decide (x8_1 < (l2.length : Int)) = false := decide_eq_false c6
     clear c6
     by_cases c22 : (l2.length : Int) < a0
     ·rw [if_pos c22] at H
      have c22b0 : decide ((l2.length : Int) < a0) = true := decide_eq_true c22
      clear c22
      simp only [Option.some.injEq, Prod.mk.injEq] at H
      obtain ⟨rfl, rfl⟩ := H
      go_wp2
      repeat (go_quiet (fail); try go_wp2)
      go_ret2
      exact ⟨by first | rfl | (simp; done) | (simp [*]; done), by repeat (first | exact Drawn0.refl _ | apply Drawn0.step)⟩
     ·rw [if_neg c22] at H
      have c22b0 : decide ((l2.length : Int) < a0) = false := decide_eq_false c22
      clear c22
      simp only [Option.some.injEq, Prod.mk.injEq] at H
      obtain ⟨rfl, rfl⟩ := H
      go_wp2
      repeat (go_quiet (fail); try go_wp2)
      go_ret2
      exact ⟨by first | rfl | (simp; done) | (simp [*]; done), by repeat (first | exact Drawn0.refl _ | apply Drawn0.step)⟩
 ·replace c5 := Bool.eq_false_iff.mpr c5
  subst c5
  have H1 : (some ((-1), 1)) = some (r1, r2) := by rw [if_neg (show ¬ (false = true) by decide)] at H; exact H
  clear H
  have H := H1
  clear H1
  simp only [Option.some.injEq, Prod.mk.injEq] at H
  obtain ⟨rfl, rfl⟩ := H
  go_enter Tryd.func35, Tryd.ntmps35
  go_wp2_with (first | (go_at_call 25; (with_reducible refine (corncribref03_Code.calls a0 a1 false _ A4.out).mono ?_); rintro e w' ⟨rfl, ⟨nd, rfl⟩⟩; (try first | exact ⟨rfl, _, World.drewN_drewN _ _ _⟩ | exact ⟨rfl, _, Eq.trans (World.drewN_drewN _ _ _) (congrArg (World.drewN _) (Nat.add_assoc _ _ _))⟩)))
  repeat (go_quiet (first | (go_at_call 25; (with_reducible refine (corncribref03_Code.calls a0 a1 false _ A4.out).mono ?_); rintro e w' ⟨rfl, ⟨nd, rfl⟩⟩; (try first | exact ⟨rfl, _, World.drewN_drewN _ _ _⟩ | exact ⟨rfl, _, Eq.trans (World.drewN_drewN _ _ _) (congrArg (World.drewN _) (Nat.add_assoc _ _ _))⟩))); try go_wp2_with (first | (go_at_call 25; (with_reducible refine (corncribref03_Code.calls a0 a1 false _ A4.out).mono ?_); rintro e w' ⟨rfl, ⟨nd, rfl⟩⟩; (try first | exact ⟨rfl, _, World.drewN_drewN _ _ _⟩ | exact ⟨rfl, _, Eq.trans (World.drewN_drewN _ _ _) (congrArg (World.drewN _) (Nat.add_assoc _ _ _))⟩))))
  go_ret2
  exact ⟨by first | rfl | (simp; done) | (simp [*]; done), by repeat (first | exact Drawn0.refl _ | apply Drawn0.step)⟩

end Go.Proofs.YtegmmefijihdeaaDoor.PS
namespace Go.Proofs.YtegmmefijihdeaaDoor.PS
open Go.RowKit Go.Proofs.YtegmmefijihdeaaDoorW.PrintWords Go.Proofs.YtegmmefijihdeaaDoorW.PrintLast Go.Proofs.YtegmmefijihdeaaDoorW.PrintMore Go.Proofs.YtegmmefijihdeaaDoor.MapN
set_option linter.unusedVariables false
set_option linter.unusedSimpArgs false
def seenB (l : List S62) (i : Nat) (q : Int) : Bool := (List.range i).any fun j => decide ((rd_T62 l (j : Int)).f0 = q)
theorem seenB_succ (l : List S62) (i : Nat) (q : Int) : seenB l (i + 1) q = (decide (q = (rd_T62 l (i : Int)).f0) || seenB l i q) := by
  unfold seenB
  rw [List.range_succ, List.any_append, Bool.or_comm]
  simp [eq_comm]
/-- What is wrong with shard i; 0: nothing. -/
def errAt (k m : Int) (l : List S62) (i : Nat) : Int :=
  if (rd_T62 l (i : Int)).f0 < 0 ∨ k + m ≤ (rd_T62 l (i : Int)).f0 then 1 else if seenB l i (rd_T62 l (i : Int)).f0 = true then 6 else if 2052 < (rd_T62 l (i : Int)).f1.size then 2 else if (rd_T62 l (i : Int)).f1.size ≠ (rd_T62 l 0).f1.size then 4 else 0
def scanC (k m : Int) (l : List S62) : Nat → Nat → Int × Int
  | 0, _ => if (l.length : Int) < k then (-1, 40) else (0, 0)
  | d + 1, i => if errAt k m l i = 0 then scanC k m l d (i + 1) else ((i : Int), errAt k m l i)
def checkV (k m : Int) (l : List S62) : Int × Int := if codeB k m = true then scanC k m l l.length 0 else (-1, 1)
/-! The document's. -/
theorem refdup (k m : Int) (l : List S62) (i : Nat) (hi : i < l.length) (hl : l.length ≤ 9223372036854775807) (r : Int × Int)
    (hr : Ev (fun f => if (((rd_T62 l (i : Int)).f1).size : Int) > 2052 then (some ((i : Int), (2 : Int))) else (if 0 < (l.length : Int) then (if (((rd_T62 l (i : Int)).f1).size : Int) = (((rd_T62 l 0).f1).size : Int) then (corncribref04_Check.l0 f k m l (wrap64 ((i : Int) + 1))) else (some ((i : Int), 4))) else (none))) r) (d : Nat) :
    ∀ j, j + d = i → seenB l j (rd_T62 l (i : Int)).f0 = false → Ev (fun f => corncribref04_Check.l1 f k m l (i : Int) (j : Int)) (if seenB l i (rd_T62 l (i : Int)).f0 = true then ((i : Int), 6) else r) := by
  induction d with
  | zero =>
    intro j hj hs
    have e : j = i := by omega
    subst e
    rw [if_neg (by rw [hs]; decide)]
    refine Ev.step (fun f => ?_) hr
    simp only [corncribref04_Check.l1]
    rw [if_neg (by omega), if_pos (by omega), if_pos (by omega)]
  | succ d ih =>
    intro j hj hs
    by_cases e : (rd_T62 l (j : Int)).f0 = (rd_T62 l (i : Int)).f0
    · have ht : seenB l i (rd_T62 l (i : Int)).f0 = true := by
        unfold seenB
        rw [List.any_eq_true]
        exact ⟨j, List.mem_range.2 (by omega), by simpa using e⟩
      rw [if_pos ht]
      refine ⟨1, fun f hf => ?_⟩
      obtain ⟨g, rfl⟩ : ∃ g, f = g + 1 := ⟨f - 1, by omega⟩
      show corncribref04_Check.l1 (g + 1) k m l (i : Int) (j : Int) = _
      simp only [corncribref04_Check.l1]
      rw [if_pos (by omega), if_pos (by omega), if_pos (by omega), if_pos (by omega), if_pos (by omega), if_pos e]
    · refine Ev.step (f := fun f => corncribref04_Check.l1 f k m l (i : Int) ((j + 1 : Nat) : Int)) (fun f => ?_) (ih (j + 1) (by omega) ?_)
      · simp only [corncribref04_Check.l1]
        rw [if_pos (by omega), if_pos (by omega), if_pos (by omega), if_pos (by omega), if_pos (by omega), if_neg e, w64_in ((j : Int) + 1) (by omega) (by omega)]
        rfl
      · rw [seenB_succ, hs, Bool.or_false]
        exact decide_eq_false (fun h => e h.symm)
theorem refscan (k m : Int) (hc : codeB k m = true) (l : List S62) (hl : l.length < 9223372036854775807) (d : Nat) : ∀ i, i + d = l.length → Ev (fun f => corncribref04_Check.l0 f k m l (i : Int)) (scanC k m l d i) := by
  have hkm : wrap64 (k + m) = k + m := by
    unfold codeB at hc
    have := of_decide_eq_true hc
    exact w64_in _ (by omega) (by omega)
  induction d with
  | zero =>
    intro i hi
    refine ⟨1, fun f hf => ?_⟩
    obtain ⟨g, rfl⟩ : ∃ g, f = g + 1 := ⟨f - 1, by omega⟩
    show corncribref04_Check.l0 (g + 1) k m l (i : Int) = _
    simp only [corncribref04_Check.l0]
    rw [if_neg (by omega)]
    unfold scanC
    by_cases h : (l.length : Int) < k
    · rw [if_pos h, if_pos h]
    · rw [if_neg h, if_neg h]
  | succ d ih =>
    intro i hi
    have hi' : i < l.length := by omega
    have key : ∀ b : Bool, b = decide ((rd_T62 l (i : Int)).f0 < 0 ∨ k + m ≤ (rd_T62 l (i : Int)).f0) → Ev (fun f => corncribref04_Check.j1 f k m l (i : Int) b) (scanC k m l (d + 1) i) := by
      intro b hb
      unfold scanC
      by_cases h1 : (rd_T62 l (i : Int)).f0 < 0 ∨ k + m ≤ (rd_T62 l (i : Int)).f0
      · have he : errAt k m l i = 1 := by unfold errAt; rw [if_pos h1]
        rw [he, if_neg (by decide)]
        rw [decide_eq_true h1] at hb
        subst hb
        refine ⟨1, fun f hf => ?_⟩
        obtain ⟨g, rfl⟩ : ∃ g, f = g + 1 := ⟨f - 1, by omega⟩
        show corncribref04_Check.j1 (g + 1) k m l (i : Int) true = _
        simp only [corncribref04_Check.j1]
        rw [if_pos trivial]
      · rw [decide_eq_false h1] at hb
        subst hb
        refine Ev.step (f := fun f => corncribref04_Check.l1 f k m l (i : Int) ((0 : Nat) : Int)) (fun f => ?_) ?_
        · simp only [corncribref04_Check.j1]
          rw [if_neg (by decide)]
          rfl
        · have he : errAt k m l i = if seenB l i (rd_T62 l (i : Int)).f0 = true then 6 else if 2052 < (rd_T62 l (i : Int)).f1.size then 2 else if (rd_T62 l (i : Int)).f1.size ≠ (rd_T62 l 0).f1.size then 4 else 0 := by
            unfold errAt
            rw [if_neg h1]
          have hE := refdup k m l i hi' (by omega) (if 2052 < (rd_T62 l (i : Int)).f1.size then ((i : Int), 2) else if (rd_T62 l (i : Int)).f1.size ≠ (rd_T62 l 0).f1.size then ((i : Int), 4) else scanC k m l d (i + 1)) (by
            by_cases h2 : 2052 < (rd_T62 l (i : Int)).f1.size
            · rw [if_pos h2]
              exact ⟨0, fun f _ => by show (if _ then _ else _) = _; rw [if_pos (by omega)]⟩
            · rw [if_neg h2]
              by_cases h3 : (rd_T62 l (i : Int)).f1.size ≠ (rd_T62 l 0).f1.size
              · rw [if_pos h3]
                exact ⟨0, fun f _ => by show (if _ then _ else _) = _; rw [if_neg (by omega), if_pos (by omega), if_neg (by omega)]⟩
              · rw [if_neg h3]
                refine Ev.congr (fun f => ?_) (ih (i + 1) (by omega))
                show (if _ then _ else _) = _
                rw [if_neg (by omega), if_pos (by omega), if_pos (by omega), w64_in ((i : Int) + 1) (by omega) (by omega)]
                rfl) i 0 (by omega) rfl
          rw [he]
          by_cases h2 : seenB l i (rd_T62 l (i : Int)).f0 = true
          · rw [if_pos h2] at hE ⊢
            rw [if_neg (by decide)]
            exact hE
          · rw [if_neg h2] at hE ⊢
            by_cases h3 : 2052 < (rd_T62 l (i : Int)).f1.size
            · rw [if_pos h3] at hE ⊢
              rw [if_neg (by decide)]
              exact hE
            · rw [if_neg h3] at hE ⊢
              by_cases h4 : (rd_T62 l (i : Int)).f1.size ≠ (rd_T62 l 0).f1.size
              · rw [if_pos h4] at hE ⊢
                rw [if_neg (by decide)]
                exact hE
              · rw [if_neg h4] at hE ⊢
                rw [if_pos rfl]
                exact hE
    by_cases h0 : (rd_T62 l (i : Int)).f0 < 0
    · refine Ev.step (fun f => ?_) (key true (decide_eq_true (.inl h0)).symm)
      simp only [corncribref04_Check.l0]
      rw [if_pos (by omega), if_pos (by omega), if_pos h0]
    · refine Ev.step (fun f => ?_) (key (decide ((rd_T62 l (i : Int)).f0 ≥ k + m)) (by rw [decide_eq_decide]; omega))
      simp only [corncribref04_Check.l0]
      rw [if_pos (by omega), if_pos (by omega), if_neg h0, hkm]
theorem refcheck_ev (k m : Int) (l : List S62) (hl : l.length < 9223372036854775807) : Ev (fun f => corncribref04_Check.f f k m l) (checkV k m l) := by
  unfold checkV
  cases hc : codeB k m with
  | true =>
    rw [if_pos rfl]
    refine Ev.congr (fun f => ?_) (refscan k m hc l hl l.length 0 (by omega))
    unfold corncribref04_Check.f
    rw [show corncribref03_Code.f k m = some true from (code_f k m).trans (by rw [hc]), Option.bind_some, if_pos rfl]
    rfl
  | false =>
    rw [if_neg (by decide)]
    refine ⟨0, fun f _ => ?_⟩
    show corncribref04_Check.f f k m l = _
    unfold corncribref04_Check.f
    rw [show corncribref03_Code.f k m = some false from (code_f k m).trans (by rw [hc]), Option.bind_some, if_neg (by decide)]
/-! The walk. -/
theorem wfL_get {l : List S62} (h : ∀ x, x ∈ l → -9223372036854775808 ≤ x.f0 ∧ x.f0 ≤ 9223372036854775807) (i : Nat) (hi : i < l.length) : -9223372036854775808 ≤ (rd_T62 l (i : Int)).f0 ∧ (rd_T62 l (i : Int)).f0 ≤ 9223372036854775807 := by
  have : rd_T62 l (i : Int) = l[i] := by
    unfold rd_T62
    rw [Int.toNat_natCast, List.getD_eq_getElem?_getD, List.getElem?_eq_getElem hi]
    rfl
  rw [this]
  exact h _ (List.getElem_mem hi)
theorem below_over {b : Nat} {w W W' : World} (h : Below w.heap.size w W) (hg : W.grownBy W' (some b)) (hb : w.heap.size ≤ b) : Below w.heap.size w W' :=
  h.trans ⟨hg.os, hg.tape, hg.output, hg.size, fun k hk => hg.block k (Nat.lt_of_lt_of_le hk h.size) (fun e => by injection e; omega)⟩
def ChkIs (k m : Int) (l : List S62) (w : World) (e : Ending) (w' : World) : Prop := e = .returned (.tuple #[.int .i64 (checkV k m l).1, .int .i64 (checkV k m l).2]) ∧ Below w.heap.size w w'
section
variable (K M : Nat) (h1 : 1 ≤ K) (h2 : K + M ≤ 255) (A2 : Option Addr) (c2 : Nat) (l : List S62) (w : World) (hr : Kd.C k62 w A2 l.length l) (hc : l.length ≤ c2) (hwf : ∀ x, x ∈ l → -9223372036854775808 ≤ x.f0 ∧ x.f0 ≤ 9223372036854775807)
include h1 h2 hr hc hwf
set_option maxRecDepth 100000 in
set_option maxHeartbeats 4000000 in
theorem chk_main : Calls Tryd.prog 34 #[.int .i64 (K : Int), .int .i64 (M : Int), .slice A2 l.length c2] w (ChkIs (K : Int) (M : Int) l w) := by
  have HV : Aside0 (checkV (K : Int) (M : Int) l = scanC (K : Int) (M : Int) l l.length 0) := ⟨by
    unfold checkV
    rw [if_pos]
    unfold codeB
    exact decide_eq_true (by omega)⟩
  have d1 : decide ((K : Int) < 1) = false := by simp; omega
  have d2 : decide ((255 : Int) < (K : Int)) = false := by simp; omega
  have d3 : decide ((M : Int) < 0) = false := by simp
  have d4 : decide ((255 : Int) - (K : Int) < (M : Int)) = false := by simp; omega
  have HR := Aside0.mk hr
  have HC := Aside0.mk hc
  have HW := Aside0.mk hwf
  have hlm := Kd.C_max hr
  have HLM := Aside0.mk hlm
  clear hr hc hwf hlm
  have hmm := @run_makeMap Tryd.prog
  go_enter Tryd.func34, Tryd.ntmps34
  go_wp2
  have HK0 : Aside0 (KeysAt (w.alloc (.map #[] 0)) w.heap.size 0 (seenB l 0)) := ⟨(KeysAt.made w).congr (fun _ => rfl)⟩
  have HB0 : Aside0 (Below w.heap.size w (w.alloc (.map #[] 0))) := ⟨below_alloc (Below.refl _ _) _⟩
  go_loopw [32] (fun v W => ∃ i : Nat, i ≤ l.length ∧ v = .int .i64 (i : Int) ∧ Aside0 (scanC (K : Int) (M : Int) l l.length 0 = scanC (K : Int) (M : Int) l (l.length - i) i) ∧ Aside0 (KeysAt W w.heap.size i (seenB l i)) ∧ Aside0 (Below w.heap.size w W)) (fun v _ => l.length - (intOf v).toNat)
  case atStart => exact ⟨0, by omega, rfl, ⟨rfl⟩, HK0, HB0⟩
  case round =>
    obtain ⟨i, hi, rfl, HS, HK, HB⟩ := hrel
    clear HK0 HB0
    by_cases hlt : i < l.length
    · have hCW := Kd.C_below HR.out HB.out
      obtain ⟨ad, hA, hx0, hx1⟩ := at_T62 hCW (i : Int) (by omega) (by omega)
      obtain ⟨ad', hA', hy0, hy1⟩ := at_T62 hCW 0 (by omega) (by omega)
      subst hA
      obtain rfl : ad = ad' := by injection hA'
      rw [Int.toNat_natCast] at hx0 hx1
      rw [show ((0 : Int)).toNat * 2 = 0 from rfl, Addr.add_zero'] at hy0 hy1
      have HX := Aside0.mk (wfL_get HW.out i hlt)
      have HST : Aside0 (scanC (K : Int) (M : Int) l (l.length - i) i = if errAt (K : Int) (M : Int) l i = 0 then scanC (K : Int) (M : Int) l (l.length - (i + 1)) (i + 1) else ((i : Int), errAt (K : Int) (M : Int) l i)) := ⟨by
        rw [show l.length - i = (l.length - (i + 1)) + 1 by omega]
        rfl⟩
      have HEA : Aside0 (errAt (K : Int) (M : Int) l i = if (rd_T62 l (i : Int)).f0 < 0 ∨ (K : Int) + (M : Int) ≤ (rd_T62 l (i : Int)).f0 then 1 else if seenB l i (rd_T62 l (i : Int)).f0 = true then 6 else if 2052 < (rd_T62 l (i : Int)).f1.size then 2 else if (rd_T62 l (i : Int)).f1.size ≠ (rd_T62 l 0).f1.size then 4 else 0) := ⟨rfl⟩
      have HSS := Aside0.mk (fun q => seenB_succ l i q)
      have hy1b := World.block_lt_of_cell? _ _ hy1
      have HFAR : Aside0 (∀ (W : World) (g : Nat) (u v : Value), Below wr.heap.size wr W → wr.heap.size ≤ g → ((W.setCell ⟨g, 0, none⟩ u).setCell ⟨g, 1, none⟩ v).cell? ⟨ad.block, ad.off + 1, none⟩ = some (.string (rd_T62 l 0).f1)) := ⟨fun W g u v hb hg => by
        have hlt' : ad.block < wr.heap.size := hy1b
        rw [cell_far (p := ⟨g, 1, none⟩) (by show ad.block ≠ g; omega), cell_far (p := ⟨g, 0, none⟩) (by show ad.block ≠ g; omega)]
        exact pw_cell_below hb hy1⟩
      generalize rd_T62 l 0 = s0 at *
      generalize rd_T62 l (i : Int) = si at *
      obtain ⟨x, s⟩ := si
      simp only at hx0 hx1 HX HEA HSS
      have i0 : (0 : Int) < (l.length : Int) := by omega
      have i1 : 0 < l.length := by omega
      have dlt : decide ((i : Int) < (l.length : Int)) = true := decide_eq_true (by omega)
      have HKK : Aside0 (∀ (W : World) (g : Nat) (u v : Value), Below wr.heap.size wr W → wr.heap.size ≤ g → KeysAt ((W.setCell ⟨g, 0, none⟩ u).setCell ⟨g, 1, none⟩ v) w.heap.size i (seenB l i)) := ⟨fun W g u v hb hg => HK.out.below ((hb.setCell hg _).setCell hg _)⟩
      have HMX : Aside0 (i < maxLen) := ⟨by have := HLM.out; have : maxLen = 9223372036854775807 := rfl; omega⟩
      clear hCW hy0 hy1 hy1b
      by_cases e1 : x < 0 ∨ (K : Int) + (M : Int) ≤ x
      · rw [if_pos e1] at HEA
        have HRES : Aside0 (checkV (K : Int) (M : Int) l = ((i : Int), 1)) := ⟨by rw [HV.out, HS.out, HST.out, HEA.out, if_neg (by decide)]⟩
        rcases e1 with e1 | e1
        · have q1 : decide (x < 0) = true := decide_eq_true e1
          clear e1
          go_wp2_with (first
          | ((with_reducible refine gate_dst (N := 10) rfl ?_); refine box_event ?hg (N := 10) ?hd (cs := #[.int .i64 0, .string (⟨#[]⟩ : ByteArray)]) (t := 62) ?hr ?_; (case hd => rfl); (case hg => rfl); (case hr => first | (go_simp; done) | (go_simp; rfl)); intro gb hgb w3 hbox hb3; have HBB : Aside0 (Below w.heap.size w w3) := ⟨below_step HB.out hb3⟩; have HGE : Aside0 (w.heap.size ≤ gb) := ⟨by rw [hgb]; exact HB.out.size⟩; have zz := HFAR.out w3 gb (.int .i64 x) (.string s) hb3 (by rw [hgb]; exact Nat.le_refl _); have HBX := Aside0.mk hbox; have HB3 := Aside0.mk hb3; have HGB := Aside0.mk hgb; clear hbox hb3 hgb; have z0 : w3.cell? ⟨gb, 0, none⟩ = some (.int .i64 0) := (blk_cell HBX.out 0).trans rfl; have z1 : w3.cell? ⟨gb, 1, none⟩ = some (.string (⟨#[]⟩ : ByteArray)) := (blk_cell HBX.out 1).trans rfl; have f0 := blk_frozen HBX.out 0; have f1 := blk_frozen HBX.out 1)
          | (at_lookup; refine KeysAt.look (HKK.out _ _ _ _ HB3.out (by rw [HGB.out]; exact Nat.le_refl _)) rfl _ _ rfl rfl x rfl HX.out ?_; intro v5)
          | (at_mapUpdate; refine KeysAt.store (HKK.out _ _ _ _ HB3.out (by rw [HGB.out]; exact Nat.le_refl _)) rfl _ _ _ rfl HMX.out rfl x rfl HX.out _ rfl ?_; intro w9 hk9 hg9; have HK9 := Aside0.mk hk9; have HG9 := Aside0.mk hg9; clear hk9 hg9))
          go_ret2
          unfold ChkIs
          rw [HRES.out]
          exact ⟨rfl, by repeat (first | exact HBB.out | refine Below.setCell ?_ HGE.out _ | apply below_drew1 | apply pw_below_drewN)⟩
        · have q1 : decide (x < 0) = false := decide_eq_false (by omega)
          have q2 : decide ((K : Int) + (M : Int) ≤ x) = true := decide_eq_true e1
          clear e1
          go_wp2_with (first
          | ((with_reducible refine gate_dst (N := 10) rfl ?_); refine box_event ?hg (N := 10) ?hd (cs := #[.int .i64 0, .string (⟨#[]⟩ : ByteArray)]) (t := 62) ?hr ?_; (case hd => rfl); (case hg => rfl); (case hr => first | (go_simp; done) | (go_simp; rfl)); intro gb hgb w3 hbox hb3; have HBB : Aside0 (Below w.heap.size w w3) := ⟨below_step HB.out hb3⟩; have HGE : Aside0 (w.heap.size ≤ gb) := ⟨by rw [hgb]; exact HB.out.size⟩; have zz := HFAR.out w3 gb (.int .i64 x) (.string s) hb3 (by rw [hgb]; exact Nat.le_refl _); have HBX := Aside0.mk hbox; have HB3 := Aside0.mk hb3; have HGB := Aside0.mk hgb; clear hbox hb3 hgb; have z0 : w3.cell? ⟨gb, 0, none⟩ = some (.int .i64 0) := (blk_cell HBX.out 0).trans rfl; have z1 : w3.cell? ⟨gb, 1, none⟩ = some (.string (⟨#[]⟩ : ByteArray)) := (blk_cell HBX.out 1).trans rfl; have f0 := blk_frozen HBX.out 0; have f1 := blk_frozen HBX.out 1)
          | (at_lookup; refine KeysAt.look (HKK.out _ _ _ _ HB3.out (by rw [HGB.out]; exact Nat.le_refl _)) rfl _ _ rfl rfl x rfl HX.out ?_; intro v5)
          | (at_mapUpdate; refine KeysAt.store (HKK.out _ _ _ _ HB3.out (by rw [HGB.out]; exact Nat.le_refl _)) rfl _ _ _ rfl HMX.out rfl x rfl HX.out _ rfl ?_; intro w9 hk9 hg9; have HK9 := Aside0.mk hk9; have HG9 := Aside0.mk hg9; clear hk9 hg9))
          go_ret2
          unfold ChkIs
          rw [HRES.out]
          exact ⟨rfl, by repeat (first | exact HBB.out | refine Below.setCell ?_ HGE.out _ | apply below_drew1 | apply pw_below_drewN)⟩
      · rw [if_neg e1] at HEA
        have q1 : decide (x < 0) = false := decide_eq_false (by omega)
        have q2 : decide ((K : Int) + (M : Int) ≤ x) = false := decide_eq_false (by omega)
        clear e1
        cases hsx : seenB l i x with
        | true =>
          rw [if_pos hsx] at HEA
          have HRES : Aside0 (checkV (K : Int) (M : Int) l = ((i : Int), 6)) := ⟨by rw [HV.out, HS.out, HST.out, HEA.out, if_neg (by decide)]⟩
          go_wp2_with (first
          | ((with_reducible refine gate_dst (N := 10) rfl ?_); refine box_event ?hg (N := 10) ?hd (cs := #[.int .i64 0, .string (⟨#[]⟩ : ByteArray)]) (t := 62) ?hr ?_; (case hd => rfl); (case hg => rfl); (case hr => first | (go_simp; done) | (go_simp; rfl)); intro gb hgb w3 hbox hb3; have HBB : Aside0 (Below w.heap.size w w3) := ⟨below_step HB.out hb3⟩; have HGE : Aside0 (w.heap.size ≤ gb) := ⟨by rw [hgb]; exact HB.out.size⟩; have zz := HFAR.out w3 gb (.int .i64 x) (.string s) hb3 (by rw [hgb]; exact Nat.le_refl _); have HBX := Aside0.mk hbox; have HB3 := Aside0.mk hb3; have HGB := Aside0.mk hgb; clear hbox hb3 hgb; have z0 : w3.cell? ⟨gb, 0, none⟩ = some (.int .i64 0) := (blk_cell HBX.out 0).trans rfl; have z1 : w3.cell? ⟨gb, 1, none⟩ = some (.string (⟨#[]⟩ : ByteArray)) := (blk_cell HBX.out 1).trans rfl; have f0 := blk_frozen HBX.out 0; have f1 := blk_frozen HBX.out 1)
          | (at_lookup; refine KeysAt.look (HKK.out _ _ _ _ HB3.out (by rw [HGB.out]; exact Nat.le_refl _)) rfl _ _ rfl rfl x rfl HX.out ?_; intro v5)
          | (at_mapUpdate; refine KeysAt.store (HKK.out _ _ _ _ HB3.out (by rw [HGB.out]; exact Nat.le_refl _)) rfl _ _ _ rfl HMX.out rfl x rfl HX.out _ rfl ?_; intro w9 hk9 hg9; have HK9 := Aside0.mk hk9; have HG9 := Aside0.mk hg9; clear hk9 hg9))
          go_ret2
          unfold ChkIs
          rw [HRES.out]
          exact ⟨rfl, by repeat (first | exact HBB.out | refine Below.setCell ?_ HGE.out _ | apply below_drew1 | apply pw_below_drewN)⟩
        | false =>
          rw [if_neg (by rw [hsx]; decide)] at HEA
          by_cases e3 : 2052 < s.size
          · rw [if_pos e3] at HEA
            have HRES : Aside0 (checkV (K : Int) (M : Int) l = ((i : Int), 2)) := ⟨by rw [HV.out, HS.out, HST.out, HEA.out, if_neg (by decide)]⟩
            have q3 : decide ((2052 : Int) < (s.size : Int)) = true := decide_eq_true (by omega)
            clear e3
            go_wp2_with (first
          | ((with_reducible refine gate_dst (N := 10) rfl ?_); refine box_event ?hg (N := 10) ?hd (cs := #[.int .i64 0, .string (⟨#[]⟩ : ByteArray)]) (t := 62) ?hr ?_; (case hd => rfl); (case hg => rfl); (case hr => first | (go_simp; done) | (go_simp; rfl)); intro gb hgb w3 hbox hb3; have HBB : Aside0 (Below w.heap.size w w3) := ⟨below_step HB.out hb3⟩; have HGE : Aside0 (w.heap.size ≤ gb) := ⟨by rw [hgb]; exact HB.out.size⟩; have zz := HFAR.out w3 gb (.int .i64 x) (.string s) hb3 (by rw [hgb]; exact Nat.le_refl _); have HBX := Aside0.mk hbox; have HB3 := Aside0.mk hb3; have HGB := Aside0.mk hgb; clear hbox hb3 hgb; have z0 : w3.cell? ⟨gb, 0, none⟩ = some (.int .i64 0) := (blk_cell HBX.out 0).trans rfl; have z1 : w3.cell? ⟨gb, 1, none⟩ = some (.string (⟨#[]⟩ : ByteArray)) := (blk_cell HBX.out 1).trans rfl; have f0 := blk_frozen HBX.out 0; have f1 := blk_frozen HBX.out 1)
          | (at_lookup; refine KeysAt.look (HKK.out _ _ _ _ HB3.out (by rw [HGB.out]; exact Nat.le_refl _)) rfl _ _ rfl rfl x rfl HX.out ?_; intro v5)
          | (at_mapUpdate; refine KeysAt.store (HKK.out _ _ _ _ HB3.out (by rw [HGB.out]; exact Nat.le_refl _)) rfl _ _ _ rfl HMX.out rfl x rfl HX.out _ rfl ?_; intro w9 hk9 hg9; have HK9 := Aside0.mk hk9; have HG9 := Aside0.mk hg9; clear hk9 hg9))
            go_ret2
            unfold ChkIs
            rw [HRES.out]
            exact ⟨rfl, by repeat (first | exact HBB.out | refine Below.setCell ?_ HGE.out _ | apply below_drew1 | apply pw_below_drewN)⟩
          · rw [if_neg e3] at HEA
            have q3 : decide ((2052 : Int) < (s.size : Int)) = false := decide_eq_false (by omega)
            clear e3
            by_cases e4 : s.size ≠ s0.f1.size
            · rw [if_pos e4] at HEA
              have HRES : Aside0 (checkV (K : Int) (M : Int) l = ((i : Int), 4)) := ⟨by rw [HV.out, HS.out, HST.out, HEA.out, if_neg (by decide)]⟩
              have q4 : ((s.size : Int) != (s0.f1.size : Int)) = true := by simp; omega
              clear e4
              go_wp2_with (first
          | ((with_reducible refine gate_dst (N := 10) rfl ?_); refine box_event ?hg (N := 10) ?hd (cs := #[.int .i64 0, .string (⟨#[]⟩ : ByteArray)]) (t := 62) ?hr ?_; (case hd => rfl); (case hg => rfl); (case hr => first | (go_simp; done) | (go_simp; rfl)); intro gb hgb w3 hbox hb3; have HBB : Aside0 (Below w.heap.size w w3) := ⟨below_step HB.out hb3⟩; have HGE : Aside0 (w.heap.size ≤ gb) := ⟨by rw [hgb]; exact HB.out.size⟩; have zz := HFAR.out w3 gb (.int .i64 x) (.string s) hb3 (by rw [hgb]; exact Nat.le_refl _); have HBX := Aside0.mk hbox; have HB3 := Aside0.mk hb3; have HGB := Aside0.mk hgb; clear hbox hb3 hgb; have z0 : w3.cell? ⟨gb, 0, none⟩ = some (.int .i64 0) := (blk_cell HBX.out 0).trans rfl; have z1 : w3.cell? ⟨gb, 1, none⟩ = some (.string (⟨#[]⟩ : ByteArray)) := (blk_cell HBX.out 1).trans rfl; have f0 := blk_frozen HBX.out 0; have f1 := blk_frozen HBX.out 1)
          | (at_lookup; refine KeysAt.look (HKK.out _ _ _ _ HB3.out (by rw [HGB.out]; exact Nat.le_refl _)) rfl _ _ rfl rfl x rfl HX.out ?_; intro v5)
          | (at_mapUpdate; refine KeysAt.store (HKK.out _ _ _ _ HB3.out (by rw [HGB.out]; exact Nat.le_refl _)) rfl _ _ _ rfl HMX.out rfl x rfl HX.out _ rfl ?_; intro w9 hk9 hg9; have HK9 := Aside0.mk hk9; have HG9 := Aside0.mk hg9; clear hk9 hg9))
              go_quiet (fail)
              go_wp2
              go_ret2
              unfold ChkIs
              rw [HRES.out]
              exact ⟨rfl, by repeat (first | exact HBB.out | refine Below.setCell ?_ HGE.out _ | apply below_drew1 | apply pw_below_drewN)⟩
            · rw [if_neg e4] at HEA
              have q4 : ((s.size : Int) != (s0.f1.size : Int)) = false := by
                have : s.size = s0.f1.size := Decidable.not_not.1 e4
                rw [this]
                simp
              clear e4
              rw [HEA.out, if_pos rfl] at HST
              have hlm := HLM.out
              go_wp2_with (first
          | ((with_reducible refine gate_dst (N := 10) rfl ?_); refine box_event ?hg (N := 10) ?hd (cs := #[.int .i64 0, .string (⟨#[]⟩ : ByteArray)]) (t := 62) ?hr ?_; (case hd => rfl); (case hg => rfl); (case hr => first | (go_simp; done) | (go_simp; rfl)); intro gb hgb w3 hbox hb3; have HBB : Aside0 (Below w.heap.size w w3) := ⟨below_step HB.out hb3⟩; have HGE : Aside0 (w.heap.size ≤ gb) := ⟨by rw [hgb]; exact HB.out.size⟩; have zz := HFAR.out w3 gb (.int .i64 x) (.string s) hb3 (by rw [hgb]; exact Nat.le_refl _); have HBX := Aside0.mk hbox; have HB3 := Aside0.mk hb3; have HGB := Aside0.mk hgb; clear hbox hb3 hgb; have z0 : w3.cell? ⟨gb, 0, none⟩ = some (.int .i64 0) := (blk_cell HBX.out 0).trans rfl; have z1 : w3.cell? ⟨gb, 1, none⟩ = some (.string (⟨#[]⟩ : ByteArray)) := (blk_cell HBX.out 1).trans rfl; have f0 := blk_frozen HBX.out 0; have f1 := blk_frozen HBX.out 1)
          | (at_lookup; refine KeysAt.look (HKK.out _ _ _ _ HB3.out (by rw [HGB.out]; exact Nat.le_refl _)) rfl _ _ rfl rfl x rfl HX.out ?_; intro v5)
          | (at_mapUpdate; refine KeysAt.store (HKK.out _ _ _ _ HB3.out (by rw [HGB.out]; exact Nat.le_refl _)) rfl _ _ _ rfl HMX.out rfl x rfl HX.out _ rfl ?_; intro w9 hk9 hg9; have HK9 := Aside0.mk hk9; have HG9 := Aside0.mk hg9; clear hk9 hg9))
              go_quiet (fail)
              go_wp2_with (first
          | ((with_reducible refine gate_dst (N := 10) rfl ?_); refine box_event ?hg (N := 10) ?hd (cs := #[.int .i64 0, .string (⟨#[]⟩ : ByteArray)]) (t := 62) ?hr ?_; (case hd => rfl); (case hg => rfl); (case hr => first | (go_simp; done) | (go_simp; rfl)); intro gb hgb w3 hbox hb3; have HBB : Aside0 (Below w.heap.size w w3) := ⟨below_step HB.out hb3⟩; have HGE : Aside0 (w.heap.size ≤ gb) := ⟨by rw [hgb]; exact HB.out.size⟩; have zz := HFAR.out w3 gb (.int .i64 x) (.string s) hb3 (by rw [hgb]; exact Nat.le_refl _); have HBX := Aside0.mk hbox; have HB3 := Aside0.mk hb3; have HGB := Aside0.mk hgb; clear hbox hb3 hgb; have z0 : w3.cell? ⟨gb, 0, none⟩ = some (.int .i64 0) := (blk_cell HBX.out 0).trans rfl; have z1 : w3.cell? ⟨gb, 1, none⟩ = some (.string (⟨#[]⟩ : ByteArray)) := (blk_cell HBX.out 1).trans rfl; have f0 := blk_frozen HBX.out 0; have f1 := blk_frozen HBX.out 1)
          | (at_lookup; refine KeysAt.look (HKK.out _ _ _ _ HB3.out (by rw [HGB.out]; exact Nat.le_refl _)) rfl _ _ rfl rfl x rfl HX.out ?_; intro v5)
          | (at_mapUpdate; refine KeysAt.store (HKK.out _ _ _ _ HB3.out (by rw [HGB.out]; exact Nat.le_refl _)) rfl _ _ _ rfl HMX.out rfl x rfl HX.out _ rfl ?_; intro w9 hk9 hg9; have HK9 := Aside0.mk hk9; have HG9 := Aside0.mk hg9; clear hk9 hg9))
              go_roundw
              case rel => exact ⟨i + 1, by omega, by go_num, ⟨HS.out.trans HST.out⟩, ⟨HK9.out.congr (fun q => (HSS.out q).symm)⟩, ⟨below_over (by repeat (first | exact HBB.out | refine Below.setCell ?_ HGE.out _ | apply below_drew1 | apply pw_below_drewN)) HG9.out (Nat.le_refl _)⟩⟩
              case measure => simp [intOf]; omega
    · have hil : i = l.length := by omega
      have HSC : Aside0 (scanC (K : Int) (M : Int) l (l.length - i) i = if (l.length : Int) < (K : Int) then (-1, 40) else (0, 0)) := ⟨by
        rw [hil, Nat.sub_self]
        rfl⟩
      have dlt : decide ((i : Int) < (l.length : Int)) = false := decide_eq_false (by omega)
      clear hil
      by_cases e1 : (l.length : Int) < (K : Int)
      · have HRES : Aside0 (checkV (K : Int) (M : Int) l = (-1, 40)) := ⟨by rw [HV.out, HS.out, HSC.out, if_pos e1]⟩
        have q1 : decide ((l.length : Int) < (K : Int)) = true := decide_eq_true e1
        have q1n : l.length < K := by omega
        clear e1
        go_wp2
        go_ret2
        unfold ChkIs
        rw [HRES.out]
        exact ⟨rfl, HB.out⟩
      · have HRES : Aside0 (checkV (K : Int) (M : Int) l = (0, 0)) := ⟨by rw [HV.out, HS.out, HSC.out, if_neg e1]⟩
        have q1 : decide ((l.length : Int) < (K : Int)) = false := decide_eq_false e1
        have q1n : ¬ l.length < K := by omega
        clear e1
        go_wp2
        go_ret2
        unfold ChkIs
        rw [HRES.out]
        exact ⟨rfl, HB.out⟩
end
section
variable (k m : Int) (A2 : Option Addr) (c2 : Nat) (l : List S62) (w : World) (hr : Kd.C k62 w A2 l.length l) (hc : l.length ≤ c2) (hwf : ∀ x, x ∈ l → -9223372036854775808 ≤ x.f0 ∧ x.f0 ≤ 9223372036854775807)
include hr hc hwf
set_option maxRecDepth 100000 in
set_option maxHeartbeats 4000000 in
theorem chk_walk : Calls Tryd.prog 34 #[.int .i64 k, .int .i64 m, .slice A2 l.length c2] w (ChkIs k m l w) := by
  cases hcb : codeB k m with
  | true =>
    obtain ⟨K, M, rfl, rfl, h1, h2⟩ := codeB_nat hcb
    exact chk_main K M h1 h2 A2 c2 l w hr hc hwf
  | false =>
    have HRES : Aside0 (checkV k m l = (-1, 1)) := ⟨by unfold checkV; rw [hcb, if_neg (by decide)]⟩
    have hn : ¬ (1 ≤ k ∧ k ≤ 255 ∧ 0 ≤ m ∧ m ≤ 255 - k) := by unfold codeB at hcb; exact of_decide_eq_false hcb
    clear hr hc hwf hcb
    by_cases e1 : k < 1
    · have d1 : decide (k < 1) = true := decide_eq_true e1
      clear hn e1
      go_enter Tryd.func34, Tryd.ntmps34
      go_wp2
      go_ret2
      unfold ChkIs
      rw [HRES.out]
      exact ⟨rfl, Below.refl _ _⟩
    · have d1 : decide (k < 1) = false := decide_eq_false e1
      by_cases e2 : 255 < k
      · have d2 : decide (255 < k) = true := decide_eq_true e2
        clear hn e1 e2
        go_enter Tryd.func34, Tryd.ntmps34
        go_wp2
        go_ret2
        unfold ChkIs
        rw [HRES.out]
        exact ⟨rfl, Below.refl _ _⟩
      · have d2 : decide (255 < k) = false := decide_eq_false e2
        by_cases e3 : m < 0
        · have d3 : decide (m < 0) = true := decide_eq_true e3
          clear hn e1 e2 e3
          go_enter Tryd.func34, Tryd.ntmps34
          go_wp2
          go_ret2
          unfold ChkIs
          rw [HRES.out]
          exact ⟨rfl, Below.refl _ _⟩
        · have d3 : decide (m < 0) = false := decide_eq_false e3
          have d4 : decide ((255 : Int) - k < m) = true := decide_eq_true (by omega)
          have d5 : (255 : Int) - k < m := by omega
          clear hn
          go_enter Tryd.func34, Tryd.ntmps34
          go_wp2
          go_ret2
          unfold ChkIs
          rw [HRES.out]
          exact ⟨rfl, Below.refl _ _⟩
end
def numsOk (l : List S62) : Bool := l.all fun x => decide (-9223372036854775808 ≤ x.f0 ∧ x.f0 ≤ 9223372036854775807)
theorem numsOk_of {l : List S62} (h : numsOk l = true) : ∀ x, x ∈ l → -9223372036854775808 ≤ x.f0 ∧ x.f0 ≤ 9223372036854775807 := fun x hx => of_decide_eq_true (List.all_eq_true.1 h x hx)
theorem numsOk_mk {l : List S62} (h : ∀ x, x ∈ l → -9223372036854775808 ≤ x.f0 ∧ x.f0 ≤ 9223372036854775807) : numsOk l = true := List.all_eq_true.2 fun x hx => decide_eq_true (h x hx)
def mend_Check.f (a0 : Int) (a1 : Int) (l2 : List (S62)) : Option (Int × Int) := if numsOk l2 = true then some (checkV a0 a1 l2) else none
theorem mend_Check.calls (a0 : Int) (a1 : Int) (A2 : Option Addr) (c2 : Nat) (l2 : List (S62)) (r1 : Int) (r2 : Int) (w : World) (hr2 : Kd.C k62 w A2 l2.length l2) (hc2 : l2.length ≤ c2) (h : mend_Check.f a0 a1 l2 = some (r1, r2)) :
    Calls Tryd.prog 34 #[.int .i64 a0, .int .i64 a1, .slice A2 l2.length c2] w fun e w' => e = .returned (.tuple #[.int .i64 r1, .int .i64 r2]) ∧ Below w.heap.size w w' := by
  unfold mend_Check.f at h
  by_cases hw : numsOk l2 = true
  · rw [if_pos hw] at h
    have e := Option.some.inj h
    have := chk_walk a0 a1 A2 c2 l2 w hr2 hc2 (numsOk_of hw)
    unfold ChkIs at this
    rw [e] at this
    exact this
  · rw [if_neg hw] at h
    cases h
end Go.Proofs.YtegmmefijihdeaaDoor.PS
namespace Go.Proofs.YtegmmefijihdeaaDoor.Grd
open Go.RowKit Go.Proofs.YtegmmefijihdeaaDoorW.PrintWords Go.Proofs.YtegmmefijihdeaaDoorW.PrintLast Go.Proofs.YtegmmefijihdeaaDoorW.PrintMore Go.Proofs.YtegmmefijihdeaaDoor.Gf Go.Proofs.YtegmmefijihdeaaDoor.Rowb Go.Proofs.YtegmmefijihdeaaDoor.Fld
open Go.Lib (byteCells byteCells_length)
set_option linter.unusedVariables false
set_option linter.unusedSimpArgs false
theorem flat_row {c : Nat} : ∀ (M : Grid) (i : Nat) (hi : i < M.length), (∀ r, r ∈ M → r.length = c) → (M.flatten.drop (i * c)).take c = M[i]
  | r :: M, 0, _, h => by
    have h1 := h r List.mem_cons_self
    rw [Nat.zero_mul, List.drop_zero, List.flatten_cons, List.take_append_of_le_length (by omega), List.take_of_length_le (by omega)]
    rfl
  | r :: M, i + 1, hi, h => by
    have h1 := h r List.mem_cons_self
    rw [List.flatten_cons, Nat.succ_mul, List.drop_append, List.drop_of_length_le (by omega), List.nil_append, show i * c + c - r.length = i * c by omega]
    exact flat_row M i (by simpa using hi) (fun x hx => h x (List.mem_cons_of_mem _ hx))
theorem flat_len {c : Nat} : ∀ (M : Grid), (∀ r, r ∈ M → r.length = c) → M.flatten.length = M.length * c
  | [], _ => by simp
  | r :: M, h => by
    have h1 := h r List.mem_cons_self
    have ih := flat_len M (fun x hx => h x (List.mem_cons_of_mem _ hx))
    rw [List.flatten_cons, List.length_append, ih, h1, List.length_cons, Nat.succ_mul, Nat.add_comm]
theorem row_ne {w : World} {g p : Nat} {l : List UInt8} {cs : Array Value} (h : RowS w p l) (hg : w.heap[g]? = some (.cells cs 60 (0, 0))) : p ≠ g := by
  obtain ⟨sp, fr, h, _⟩ := h
  intro e
  subst e
  rw [h] at hg
  injection hg with hg
  injection hg with _ hg _
  exact absurd hg (by decide)
/-- The outer row: the first rows are there, the others are not yet. -/
def outerOf (ps : List (Nat × Nat)) (L : Grid) (n : Nat) : Array Value := (List.zipWith rowV ps L ++ List.replicate (n - L.length) nilV).toArray
structure PartAt (W : World) (base g : Nat) (ps : List (Nat × Nat)) (L : Grid) (n : Nat) : Prop where
  blk : W.heap[g]? = some (.cells (outerOf ps L n) 60 (0, 0))
  len : ps.length = L.length
  row : ∀ (i : Nat) (p : Nat × Nat) (l : List UInt8), ps[i]? = some p → L[i]? = some l → base ≤ p.1 ∧ l.length ≤ p.2 ∧ RowS W p.1 l
  nodup : (ps.map (·.1)).Nodup
theorem outer_new (n b : Nat) : outerOf [] [] n = oneOuter b n 0 := by
  apply Array.ext_getElem?
  intro j
  by_cases hj : j < n
  · rw [oneOuter_at b n 0 j hj, if_neg (by omega)]
    unfold outerOf
    simp [hj]
  · rw [Array.getElem?_eq_none (by simp [outerOf]; omega), Array.getElem?_eq_none (by simp [oneOuter]; omega)]
theorem outer_step (ps : List (Nat × Nat)) (L : Grid) (n : Nat) (hl : ps.length = L.length) (hn : L.length < n) (p : Nat × Nat) (l : List UInt8) :
    (outerOf ps L n).setIfInBounds L.length (rowV p l) = outerOf (ps ++ [p]) (L ++ [l]) n := by
  have hz : (List.zipWith rowV ps L).length = L.length := by simp [hl]
  unfold outerOf
  rw [List.setIfInBounds_toArray, List.set_append_right _ _ (by omega), hz, Nat.sub_self, List.zipWith_append hl, List.length_append]
  obtain ⟨m, hm⟩ : ∃ m, n - L.length = m + 1 := ⟨n - L.length - 1, by omega⟩
  rw [hm, List.replicate_succ, List.set_cons_zero, List.length_singleton, show n - (L.length + 1) = m by omega]
  simp
theorem outer_at (ps : List (Nat × Nat)) (L : Grid) (n : Nat) (hl : ps.length = L.length) (hn : L.length < n) : (outerOf ps L n)[L.length]? = some nilV := by
  have hz : (List.zipWith rowV ps L).length = L.length := by simp [hl]
  unfold outerOf
  rw [List.getElem?_toArray, List.getElem?_append_right (by omega), hz, Nat.sub_self, List.getElem?_replicate]
  rw [if_pos (by omega)]
theorem nodup_snoc {α : Type} {l : List α} {a : α} (h : l.Nodup) (ha : a ∉ l) : (l ++ [a]).Nodup := by
  rw [List.nodup_append]
  refine ⟨h, by simp, fun x hx y hy e => ?_⟩
  rw [List.mem_singleton] at hy
  subst hy
  subst e
  exact ha hx
theorem PartAt.step {W W1 : World} {base g n cap : Nat} {ps : List (Nat × Nat)} {L : Grid} {l : List UInt8} (h : PartAt W base g ps L n) (hn : L.length < n) (hB : Below W.heap.size W W1) (hr : RowS W1 W.heap.size l) (hc : l.length ≤ cap) (hb : base ≤ W.heap.size)
    {W2 : World} (hW2 : W2.heap = W1.heap) :
    PartAt (W2.setCell ⟨g, L.length, none⟩ (rowV (W.heap.size, cap) l)) base g (ps ++ [(W.heap.size, cap)]) (L ++ [l]) n := by
  have hg1 : W2.heap[g]? = some (.cells (outerOf ps L n) 60 (0, 0)) := by rw [hW2]; exact blk_below h.blk hB
  refine ⟨blk_put hg1 _ _ (outer_step ps L n h.len hn _ l), by simp [h.len], fun i p x h1 h2 => ?_, ?_⟩
  · by_cases hi : i < L.length
    · rw [List.getElem?_append_left (by rw [h.len]; exact hi)] at h1
      rw [List.getElem?_append_left hi] at h2
      obtain ⟨a, b, c⟩ := h.row i p x h1 h2
      have c2 : RowS W2 p.1 x := (c.below hB).heap hW2
      exact ⟨a, b, c2.far (row_ne c2 hg1) _⟩
    · have hi2 : i = L.length := by
        have := (List.getElem?_eq_some_iff.1 h2).1
        rw [List.length_append, List.length_singleton] at this
        omega
      subst hi2
      rw [List.getElem?_append_right (by rw [h.len]; exact Nat.le_refl _), h.len, Nat.sub_self] at h1
      rw [List.getElem?_append_right (Nat.le_refl _), Nat.sub_self] at h2
      injection h1 with h1
      injection h2 with h2
      subst h1 h2
      have c2 : RowS W2 W.heap.size l := hr.heap hW2
      exact ⟨hb, hc, c2.far (row_ne c2 hg1) _⟩
  · rw [List.map_append]
    refine nodup_snoc h.nodup (fun hm => ?_)
    obtain ⟨p, hp, e⟩ := List.mem_map.1 hm
    obtain ⟨i, hi, rfl⟩ := List.getElem_of_mem hp
    have hiL : i < L.length := by rw [← h.len]; exact hi
    have := (h.row i _ _ (List.getElem?_eq_getElem hi) (List.getElem?_eq_getElem hiL)).2.2.lt
    have e' : (ps[i]).1 = W.heap.size := e
    omega
theorem PartAt.grid {W : World} {base g n : Nat} {ps : List (Nat × Nat)} {L : Grid} (h : PartAt W base g ps L n) (hn : L.length = n) (hb : base ≤ g) (hm : n ≤ 255) : GridAt W base (.slice (some ⟨g, 0, none⟩) n n) ps L := by
  subst hn
  have hz : (List.zipWith rowV ps L).length = L.length := by simp [h.len]
  have ho : outerOf ps L L.length = (List.zipWith rowV ps L).toArray := by
    unfold outerOf
    rw [Nat.sub_self]
    simp
  have hblk := h.blk
  rw [ho] at hblk
  refine ⟨⟨by rw [hz, Nat.mul_one], .inr ⟨g, L.length, _, rfl, hb, hblk, Nat.le_refl _, by unfold maxLen; omega, by simp [h.len], by rw [List.toList_toArray, Nat.mul_one, List.take_of_length_le (by omega)]⟩⟩, h.len, h.row, h.nodup⟩
theorem PartAt.heap {W W' : World} {base g n : Nat} {ps : List (Nat × Nat)} {L : Grid} (h : PartAt W base g ps L n) (e : W'.heap = W.heap) : PartAt W' base g ps L n :=
  ⟨by rw [e]; exact h.blk, h.len, fun i p l h1 h2 => ⟨(h.row i p l h1 h2).1, (h.row i p l h1 h2).2.1, (h.row i p l h1 h2).2.2.heap e⟩, h.nodup⟩
theorem row_text (s : ByteArray) (M : Grid) (c i z : Nat) (hs : s.data.toList = M.flatten) (hr : ∀ r, r ∈ M → r.length = c) (hi : i < M.length) (hz : i * c = z) : (s.extract z (z + c)).data.toList = M[i] := by
  rw [← flat_row M i hi hr, hz, ← hs]
  rw [ByteArray.data_extract]
  simp [List.extract_eq_take_drop]
def IsGrid (M : Grid) (w : World) (e : Ending) (w' : World) : Prop := ∃ v ps, e = .returned v ∧ GridAt w' w.heap.size v ps M ∧ Below w.heap.size w w'
set_option maxRecDepth 100000 in
set_option maxHeartbeats 1000000 in
theorem of_walk (w : World) (M : Grid) (c : Nat) (hr : ∀ r, r ∈ M → r.length = c) (h1 : 1 ≤ M.length) (h2 : M.length ≤ 255) (hc : c ≤ 255) :
    Calls Tryd.prog 87 #[matV M.length c M.flatten] w (IsGrid M w) := by
  have hfl := flat_len M hr
  obtain ⟨s, hs⟩ : ∃ s : ByteArray, s = ⟨M.flatten.toArray⟩ := ⟨_, rfl⟩
  have hsl : s.data.toList = M.flatten := by rw [hs]
  have hss : s.size = M.length * c := by rw [← hfl, ← hsl]; exact Array.length_toList.symm
  unfold matV
  rw [← hs]
  clear hs
  obtain ⟨n, hn⟩ : ∃ n, M.length = n := ⟨_, rfl⟩
  have HROW : Aside0 (∀ i z (hi : i < M.length), i * c = z → (s.extract z (z + c)).data.toList = M[i]) := ⟨fun i z hi hz => row_text s M c i z hsl hr hi hz⟩
  have HNL := Aside0.mk hn
  rw [hn] at hss h1 h2 ⊢
  have hnc : n * c ≤ 255 * 255 := Nat.mul_le_mul h2 hc
  have HSS := Aside0.mk hss
  have hmk := run_make_rows n h2 0
  clear hfl hsl hr hn
  go_enter Tryd.func87, Tryd.ntmps87
  have hbx : (w.alloc (.cells #[.int .i64 (n : Int), .int .i64 (c : Int), .string s] 74)).heap[w.heap.size]? = some (.cells #[.int .i64 (n : Int), .int .i64 (c : Int), .string s] 74 (0, 0)) := blk_new _ _
  go_wp2
  have HB0 : Aside0 (Below w.heap.size w ((w.alloc (.cells #[.int .i64 (n : Int), .int .i64 (c : Int), .string s] 74)).alloc (.cells (oneOuter 0 n 0) 60))) := ⟨((Below.refl _ _).alloc (Nat.le_refl _) _).alloc (by simp) _⟩
  have HX0 : Aside0 (((w.alloc (.cells #[.int .i64 (n : Int), .int .i64 (c : Int), .string s] 74)).alloc (.cells (oneOuter 0 n 0) 60)).heap[w.heap.size]? = some (.cells #[.int .i64 (n : Int), .int .i64 (c : Int), .string s] 74 (0, 0))) := ⟨blk_alloc hbx _⟩
  have HP0 : Aside0 (PartAt ((w.alloc (.cells #[.int .i64 (n : Int), .int .i64 (c : Int), .string s] 74)).alloc (.cells (oneOuter 0 n 0) 60)) w.heap.size (w.heap.size + 1) [] (M.take 0) n) := ⟨by
    refine ⟨?_, rfl, fun i p l h1 _ => by simp at h1, List.nodup_nil⟩
    rw [List.take_zero, outer_new n 0]
    have := blk_new (w.alloc (.cells #[.int .i64 (n : Int), .int .i64 (c : Int), .string s] 74)) (.cells (oneOuter 0 n 0) 60 (0, 0))
    simpa using this⟩
  clear hbx hmk
  go_loopw [4, 10] (fun _ i W => ∃ (k : Nat) (ps : List (Nat × Nat)), k ≤ n ∧ i = .int .i64 (k : Int) ∧ Aside0 (PartAt W w.heap.size (w.heap.size + 1) ps (M.take k) n) ∧ Aside0 (W.heap[w.heap.size]? = some (.cells #[.int .i64 (n : Int), .int .i64 (c : Int), .string s] 74 (0, 0))) ∧ Aside0 (Below w.heap.size w W)) (fun _ i _ => n - (intOf i).toNat)
  case atStart => exact ⟨0, [], by omega, rfl, HP0, HX0, HB0⟩
  case round =>
    obtain ⟨k, ps, hk, rfl, HP, HX, HB⟩ := hrel
    clear HP0 HX0 HB0
    have hkl : (M.take k).length = k := by rw [List.length_take, HNL.out]; omega
    by_cases hlt : k < n
    · obtain ⟨z, hz⟩ : ∃ z, k * c = z := ⟨_, rfl⟩
      have hz1 : (k : Int) * (c : Int) = (z : Int) := by rw [← hz]; push_cast; rfl
      have hz2 : ((k : Int) + 1) * (c : Int) = (z : Int) + (c : Int) := by rw [Int.add_mul, hz1, Int.one_mul]
      have hzn : z + c ≤ n * c := by
        rw [← hz]
        have : (k + 1) * c ≤ n * c := Nat.mul_le_mul_right _ (by omega)
        rw [Nat.succ_mul] at this
        exact this
      have hss := HSS.out
      have hkM : k < M.length := by rw [HNL.out]; exact hlt
      have HR := Aside0.mk (HROW.out k z hkM hz)
      have hsl : ∀ W, (Instr.slice 9 (.string s) (some (.int .i64 (z : Int))) (some (.int .i64 ((z : Int) + (c : Int)))) none).run Tryd.prog W = .ok (.string (s.extract z (z + c))) W := fun W => by
        have := run_slice_string (P := Tryd.prog) (w := W) 9 s .i64 .i64 (z : Int) ((z : Int) + (c : Int)) Tryd.underlying9 (by omega) (by omega) (by omega)
        rw [this, show ((z : Int) + (c : Int)).toNat = z + c by omega, Int.toNat_natCast]
      obtain ⟨t, ht⟩ : ∃ t, s.extract z (z + c) = t := ⟨_, rfl⟩
      rw [ht] at HR hsl
      have htl : t.size = M[k].length := by rw [← HR.out]; exact Array.length_toList.symm
      obtain ⟨cap, W1, hcv, hcap, hrs, hb2, _⟩ := run_bytes_new wr t
      rw [HR.out] at hrs
      have c0 := (blk_cell HX.out 1)
      have c2 := (blk_cell HX.out 2)
      have hg1 := blk_below HP.out.blk hb2
      have c1 : W1.cell? ⟨w.heap.size + 1, k, none⟩ = some nilV := by
        have := outer_at ps (M.take k) n HP.out.len (by rw [hkl]; exact hlt)
        rw [hkl] at this
        exact (blk_cell hg1 k).trans this
      have f1 := blk_frozen hg1 k
      have HST : Aside0 (PartAt (W1.setCell ⟨w.heap.size + 1, k, none⟩ (rowV (wr.heap.size, cap) M[k])) w.heap.size (w.heap.size + 1) (ps ++ [(wr.heap.size, cap)]) (M.take (k + 1)) n) := ⟨by
        have := HP.out.step (l := M[k]) (cap := cap) (by rw [hkl]; exact hlt) hb2 hrs (by rw [← htl]; exact hcap) HB.out.size (W2 := W1) rfl
        rw [hkl] at this
        rw [List.take_succ_eq_append_getElem hkM]
        exact this⟩
      have HX1 : Aside0 ((W1.setCell ⟨w.heap.size + 1, k, none⟩ (rowV (wr.heap.size, cap) M[k])).heap[w.heap.size]? = some (.cells #[.int .i64 (n : Int), .int .i64 (c : Int), .string s] 74 (0, 0))) := ⟨blk_far (blk_below HX.out hb2) (by show w.heap.size ≠ w.heap.size + 1; omega) _⟩
      have HB1 : Aside0 (Below w.heap.size w (W1.setCell ⟨w.heap.size + 1, k, none⟩ (rowV (wr.heap.size, cap) M[k]))) := ⟨(HB.out.trans (hb2.mono HB.out.size)).setCell (by show w.heap.size ≤ w.heap.size + 1; omega) _⟩
      have hrv : rowV (wr.heap.size, cap) M[k] = .slice (some ⟨wr.heap.size, 0, none⟩) t.size cap := by rw [htl]; rfl
      rw [hrv] at HST HX1 HB1
      clear ht hz hb2 hrs hg1 HR htl hrv hcap HP HX
      go_wp2
      go_roundw
      case rel => exact ⟨k + 1, _, by omega, by go_num, HST, HX1, HB1⟩
      case measure => simp [intOf]; omega
    · have hkn : k = n := by omega
      subst hkn
      have HG : Aside0 (GridAt wr w.heap.size (.slice (some ⟨w.heap.size + 1, 0, none⟩) k k) ps M) := ⟨by
        have := HP.out.grid hkl (by omega) h2
        rw [List.take_of_length_le (by rw [HNL.out]; exact Nat.le_refl _)] at this
        exact this⟩
      clear HP HX
      go_wp2
      go_ret
      exact ⟨_, _, rfl, HG.out, HB.out⟩
end Go.Proofs.YtegmmefijihdeaaDoor.Grd
namespace Go.Proofs.YtegmmefijihdeaaDoor.Grd
open Go.RowKit Go.Proofs.YtegmmefijihdeaaDoorW.PrintWords Go.Proofs.YtegmmefijihdeaaDoorW.PrintLast Go.Proofs.YtegmmefijihdeaaDoorW.PrintMore Go.Proofs.YtegmmefijihdeaaDoor.Gf Go.Proofs.YtegmmefijihdeaaDoor.Rowb Go.Proofs.YtegmmefijihdeaaDoor.Fld
open Go.Lib (byteCells byteCells_length)
set_option linter.unusedVariables false
set_option linter.unusedSimpArgs false
theorem grown_set (w : World) (b i : Nat) (u : Value) : w.grownBy (w.setCell ⟨b, i, none⟩ u) (some b) :=
  ⟨rfl, rfl, rfl, by simp, fun k hk hne => Below.heap_setCell w ⟨b, i, none⟩ u k (fun e => hne (by rw [e]))⟩
theorem grown_drew {w W : World} {row : Option Nat} (h : w.grownBy W row) : w.grownBy W.drew row := h.trans (grown_of_below (below_drew1 (Below.refl _ _)) _)
theorem grown_drewN {w W : World} {row : Option Nat} (h : w.grownBy W row) (n : Nat) : w.grownBy (W.drewN n) row := h.trans (grown_of_below (pw_below_drewN (Below.refl _ _) _) _)
theorem grown_refl (w : World) (row : Option Nat) : w.grownBy w row := grown_of_below (Below.refl _ _) _
theorem below_grown {w W : World} {b B : Nat} (h : w.grownBy W (some b)) (hb : B ≤ b) (hB : B ≤ w.heap.size) : Below B w W :=
  ⟨h.os, h.tape, h.output, h.size, fun k hk => h.block k (by omega) (fun e => by injection e; omega)⟩
/-- Two entries change places. -/
def swapL {α : Type} (l : List α) (a b : Nat) (ha : a < l.length) (hb : b < l.length) : List α := (l.set a l[b]).set b l[a]
theorem swapL_len {α : Type} (l : List α) (a b : Nat) (ha : a < l.length) (hb : b < l.length) : (swapL l a b ha hb).length = l.length := by simp [swapL]
theorem swapL_at {α : Type} (l : List α) (a b : Nat) (ha : a < l.length) (hb : b < l.length) (i : Nat) (x : α) (h : (swapL l a b ha hb)[i]? = some x) :
    l[if i = b then a else if i = a then b else i]? = some x := by
  unfold swapL at h
  rw [List.getElem?_set, List.getElem?_set, List.length_set] at h
  by_cases h1 : b = i
  · subst h1
    rw [if_pos rfl, if_pos hb] at h
    rw [if_pos rfl, ← h, List.getElem?_eq_getElem ha]
  · rw [if_neg h1] at h
    rw [if_neg (fun e => h1 e.symm)]
    by_cases h2 : a = i
    · subst h2
      rw [if_pos rfl, if_pos ha] at h
      rw [if_pos rfl, ← h, List.getElem?_eq_getElem hb]
    · rw [if_neg h2] at h
      rw [if_neg (fun e => h2 e.symm)]
      exact h
theorem swapR_eq (L : Grid) (a b : Nat) (ha : a < L.length) (hb : b < L.length) : swapR L a b = swapL L a b ha hb := by
  unfold swapR swapL
  rw [rowAt_lt ha, rowAt_lt hb]
theorem nodup_inj {l : List Nat} (h : l.Nodup) (p q : Nat) (hp : p < l.length) (hq : q < l.length) (e : l[p]? = l[q]?) : p = q := by
  have h' := List.pairwise_iff_getElem.1 h
  rw [List.getElem?_eq_getElem hp, List.getElem?_eq_getElem hq] at e
  injection e with e
  rcases Nat.lt_trichotomy p q with hlt | he | hgt
  · exact absurd e (h' p q hp hq hlt)
  · exact he
  · exact absurd e.symm (h' q p hq hp hgt)
theorem swap_idx (a b i j : Nat) (h : (if i = b then a else if i = a then b else i) = (if j = b then a else if j = a then b else j)) : i = j := by
  by_cases h1 : i = b
  · rw [if_pos h1] at h
    by_cases h2 : j = b
    · omega
    · rw [if_neg h2] at h
      by_cases h3 : j = a
      · rw [if_pos h3] at h; omega
      · rw [if_neg h3] at h; omega
  · rw [if_neg h1] at h
    by_cases h4 : i = a
    · rw [if_pos h4] at h
      by_cases h2 : j = b
      · rw [if_pos h2] at h; omega
      · rw [if_neg h2] at h
        by_cases h3 : j = a
        · omega
        · rw [if_neg h3] at h; omega
    · rw [if_neg h4] at h
      by_cases h2 : j = b
      · rw [if_pos h2] at h; omega
      · rw [if_neg h2] at h
        by_cases h3 : j = a
        · rw [if_pos h3] at h; omega
        · rw [if_neg h3] at h; exact h
theorem swap_lt (a b i n : Nat) (ha : a < n) (hb : b < n) (hi : i < n) : (if i = b then a else if i = a then b else i) < n := by
  by_cases h1 : i = b
  · rw [if_pos h1]; exact ha
  · rw [if_neg h1]
    by_cases h2 : i = a
    · rw [if_pos h2]; exact hb
    · rw [if_neg h2]; exact hi
theorem swap_nodup {l : List Nat} (h : l.Nodup) (a b : Nat) (ha : a < l.length) (hb : b < l.length) : (swapL l a b ha hb).Nodup := by
  refine List.pairwise_iff_getElem.2 (fun i j hi hj hij e => ?_)
  have hi' : i < l.length := by rw [swapL_len] at hi; exact hi
  have hj' : j < l.length := by rw [swapL_len] at hj; exact hj
  have h1 := swapL_at l a b ha hb i _ (List.getElem?_eq_getElem hi)
  have h2 := swapL_at l a b ha hb j _ (List.getElem?_eq_getElem hj)
  rw [← e] at h2
  have := swap_idx a b i j (nodup_inj h _ _ (swap_lt a b i _ ha hb hi') (swap_lt a b j _ ha hb hj') (h1.trans h2.symm))
  omega
theorem map_swap {α β : Type} (f : α → β) (l : List α) (a b : Nat) (ha : a < l.length) (hb : b < l.length) : (swapL l a b ha hb).map f = swapL (l.map f) a b (by rw [List.length_map]; exact ha) (by rw [List.length_map]; exact hb) := by
  unfold swapL
  rw [List.map_set, List.map_set, List.getElem_map, List.getElem_map]
theorem GridAt.outerSet {w : World} {base g n cap : Nat} {ps : List (Nat × Nat)} {L : Grid} (h : GridAt w base (.slice (some ⟨g, 0, none⟩) n cap) ps L) (hp : 0 < L.length) : n = L.length ∧ base ≤ g ∧ ∃ cur : Array Value, w.heap[g]? = some (.cells cur 60 (0, 0)) ∧ L.length ≤ cap ∧ cap ≤ maxLen ∧ cur.size = cap ∧ cur.toList.take L.length = List.zipWith rowV ps L := by
  rcases h.outer.2 with ⟨_, h0⟩ | ⟨g', cap', cur, hv, hb, hh, hn, hc, hs, ht⟩
  · omega
  · injection hv with hv1 hv2 hv3
    injection hv1 with hv1
    injection hv1 with hv1 _ _
    subst hv1 hv3
    exact ⟨hv2, hb, cur, hh, hn, hc, by omega, by rwa [Nat.mul_one] at ht⟩
/-- The grid behind two stores into its outer row. -/
theorem GridAt.swap {w : World} {base g n cap : Nat} {ps : List (Nat × Nat)} {L : Grid} (h : GridAt w base (.slice (some ⟨g, 0, none⟩) n cap) ps L) (a b : Nat) (ha : a < L.length) (hb : b < L.length) (ha' : a < ps.length) (hb' : b < ps.length) {W : World} (hW : W.heap = w.heap) :
    GridAt ((W.setCell ⟨g, a, none⟩ (rowV ps[b] L[b])).setCell ⟨g, b, none⟩ (rowV ps[a] L[a])) base (.slice (some ⟨g, 0, none⟩) n cap) (swapL ps a b ha' hb') (swapR L a b) := by
  obtain ⟨hn, hbg, cur, hh, hle, hcm, hcs, ht⟩ := h.outerSet (by omega)
  rw [swapR_eq L a b ha hb]
  have hz : (List.zipWith rowV ps L).length = L.length := by rw [List.length_zipWith, h.len, Nat.min_self]
  have hh1 : W.heap[g]? = some (.cells cur 60 (0, 0)) := by rw [hW]; exact hh
  have hb1 := blk_put (cs' := cur.setIfInBounds a (rowV ps[b] L[b])) hh1 a (rowV ps[b] L[b]) rfl
  have hb2 := blk_put (cs' := (cur.setIfInBounds a (rowV ps[b] L[b])).setIfInBounds b (rowV ps[a] L[a])) hb1 b (rowV ps[a] L[a]) rfl
  refine ⟨⟨by rw [swapL_len, Nat.mul_one, List.length_zipWith, swapL_len, swapL_len, h.len, Nat.min_self], .inr ⟨g, cap, _, by rw [hn, swapL_len], hbg, hb2, by rw [swapL_len]; exact hle, hcm, by simp [hcs], ?_⟩⟩, by rw [swapL_len, swapL_len, h.len], fun i p l h1 h2 => ?_, ?_⟩
  · rw [swapL_len, Nat.mul_one, Array.toList_setIfInBounds, Array.toList_setIfInBounds, List.take_set, List.take_set, ht]
    apply List.ext_getElem?
    intro i
    rw [List.getElem?_set, List.getElem?_set, List.length_set, hz, List.getElem?_zipWith, List.getElem?_zipWith]
    unfold swapL
    rw [List.getElem?_set, List.getElem?_set, List.length_set, List.getElem?_set, List.getElem?_set, List.length_set]
    by_cases e1 : b = i
    · rw [if_pos e1, if_pos (by omega), if_pos e1, if_pos (by omega), if_pos e1, if_pos (by omega)]
    · rw [if_neg e1, if_neg e1, if_neg e1]
      by_cases e2 : a = i
      · rw [if_pos e2, if_pos (by omega), if_pos e2, if_pos (by omega), if_pos e2, if_pos (by omega)]
      · rw [if_neg e2, if_neg e2, if_neg e2]
  · have g1 := swapL_at _ _ _ _ _ _ _ h1
    have g2 := swapL_at _ _ _ _ _ _ _ h2
    obtain ⟨r1, r2, r3⟩ := h.row _ p l g1 g2
    have r4 : RowS W p.1 l := r3.heap hW
    have r5 := r4.far (p := ⟨g, a, none⟩) (row_ne r4 hh1) (rowV ps[b] L[b])
    exact ⟨r1, r2, r5.far (p := ⟨g, b, none⟩) (row_ne r5 hb1) _⟩
  · rw [map_swap]
    exact swap_nodup h.nodup _ _ _ _
theorem GridAt.rowCell {w : World} {base g n cap : Nat} {ps : List (Nat × Nat)} {L : Grid} (h : GridAt w base (.slice (some ⟨g, 0, none⟩) n cap) ps L) (i : Nat) (hi : i < L.length) (hi' : i < ps.length) :
    w.cell? ⟨g, i, none⟩ = some (rowV ps[i] L[i]) ∧ w.frozen? ⟨g, i, none⟩ = false := by
  obtain ⟨hn, hbg, cur, hh, hle, hcm, hcs, ht⟩ := h.outerSet (by omega)
  refine ⟨?_, blk_frozen hh i⟩
  rw [blk_cell hh i, ← Array.getElem?_toList]
  have : (cur.toList.take L.length)[i]? = (List.zipWith rowV ps L)[i]? := by rw [ht]
  rw [List.getElem?_take, if_pos hi, zip_row h.len i hi] at this
  exact this
theorem GridAt.heap {w w' : World} {base : Nat} {v : Value} {ps : List (Nat × Nat)} {L : Grid} (h : GridAt w base v ps L) (e : w'.heap = w.heap) : GridAt w' base v ps L :=
  ⟨⟨h.outer.1, by rw [e]; exact h.outer.2⟩, h.len, fun i p l h1 h2 => ⟨(h.row i p l h1 h2).1, (h.row i p l h1 h2).2.1, (h.row i p l h1 h2).2.2.heap e⟩, h.nodup⟩
set_option maxRecDepth 100000 in
set_option maxHeartbeats 1000000 in
theorem swap_walk {w : World} {base : Nat} {v : Value} {ps : List (Nat × Nat)} {L : Grid} (h : GridAt w base v ps L) (a b : Nat) (ha : a < L.length) (hb : b < L.length) :
    Calls Tryd.prog 88 #[v, .int .i64 (a : Int), .int .i64 (b : Int)] w fun e w' => e = .returned (.tuple #[]) ∧ GridAt w' base v (swapL ps a b (by rw [h.len]; exact ha) (by rw [h.len]; exact hb)) (swapR L a b) ∧ w.grownBy w' v.ownBlock := by
  obtain ⟨g, cap, cur, rfl, hbg, hh, hle, hcell⟩ := h.form (by omega)
  have ha' : a < ps.length := by rw [h.len]; exact ha
  have hb' : b < ps.length := by rw [h.len]; exact hb
  obtain ⟨ca, fa⟩ := h.rowCell a ha ha'
  obtain ⟨cb, fb⟩ := h.rowCell b hb hb'
  have HG : Aside0 (∀ W : World, W.heap = w.heap → GridAt ((W.setCell ⟨g, a, none⟩ (rowV ps[b] L[b])).setCell ⟨g, b, none⟩ (rowV ps[a] L[a])) base (.slice (some ⟨g, 0, none⟩) L.length cap) (swapL ps a b ha' hb') (swapR L a b)) := ⟨fun W hW => h.swap a b ha hb ha' hb' hW⟩
  have hlt := blk_lt hh
  obtain ⟨xa, ya, za, hva⟩ : ∃ (x : Addr) (y z : Nat), rowV ps[a] L[a] = .slice (some x) y z := ⟨_, _, _, rfl⟩
  obtain ⟨xb, yb, zb, hvb⟩ : ∃ (x : Addr) (y z : Nat), rowV ps[b] L[b] = .slice (some x) y z := ⟨_, _, _, rfl⟩
  rw [hva, hvb] at HG
  rw [hva] at ca
  rw [hvb] at cb
  have c3 : (w.setCell ⟨g, a, none⟩ (.slice (some xb) yb zb)).cell? ⟨g, b, none⟩ = some (.slice (some xb) yb zb) := by
    rw [blk_cell (blk_put (cs' := cur.setIfInBounds a (.slice (some xb) yb zb)) hh a _ rfl) b, Array.getElem?_setIfInBounds]
    have hs : a < cur.size := by
      have := ca
      rw [blk_cell hh a] at this
      exact (Array.getElem?_eq_some_iff.1 this).1
    by_cases e : a = b
    · rw [if_pos e, if_pos hs]
    · rw [if_neg e, ← blk_cell hh b, cb]
  clear hva hvb hcell hle hh
  have HH := Aside0.mk h
  go_enter Tryd.func88, Tryd.ntmps88
  go_region_law (fail)
  all_goals
    refine bodyPost_end (results_none rfl _ _ _) rfl ?_
    exact ⟨rfl, (HG.out w rfl).heap rfl, grown_drew ((grown_set _ g _ _).trans (grown_set _ g _ _))⟩
end Go.Proofs.YtegmmefijihdeaaDoor.Grd
namespace Go.Proofs.YtegmmefijihdeaaDoor.Grd
open Go.RowKit Go.Proofs.YtegmmefijihdeaaDoorW.PrintWords Go.Proofs.YtegmmefijihdeaaDoorW.PrintLast Go.Proofs.YtegmmefijihdeaaDoorW.PrintMore Go.Proofs.YtegmmefijihdeaaDoor.Gf Go.Proofs.YtegmmefijihdeaaDoor.Rowb Go.Proofs.YtegmmefijihdeaaDoor.Fld
open Go.Lib (byteCells byteCells_length)
set_option linter.unusedVariables false
set_option linter.unusedSimpArgs false
theorem field_ne {w : World} {p f : Nat} {l : List UInt8} (h : RowS w p l) (hf : FieldAt w f) : f ≠ p := by
  obtain ⟨sp, fr, h, _⟩ := h
  unfold FieldAt at hf
  intro e
  subst e
  rw [h] at hf
  injection hf with hf
  injection hf with _ hf _
  exact absurd hf (by decide)
theorem zip_same (ps : List (Nat × Nat)) (L : Grid) (a : Nat) (ha : a < L.length) (l : List UInt8) (hl : l.length = L[a].length) : List.zipWith rowV ps (L.set a l) = List.zipWith rowV ps L := by
  apply List.ext_getElem?
  intro i
  rw [List.getElem?_zipWith, List.getElem?_zipWith, List.getElem?_set]
  by_cases e : a = i
  · subst e
    rw [if_pos rfl, if_pos ha, List.getElem?_eq_getElem ha]
    cases ps[a]? with
    | none => rfl
    | some p => simp [rowV, hl]
  · rw [if_neg e]
theorem GridAt.rowPut {w : World} {base g n cap : Nat} {ps : List (Nat × Nat)} {L : Grid} (h : GridAt w base (.slice (some ⟨g, 0, none⟩) n cap) ps L) (a : Nat) (ha : a < L.length) (ha' : a < ps.length) (k : Nat) (hk : k < L[a].length) (b : UInt8) {W : World} (hW : W.heap = w.heap) :
    GridAt (W.setCell ⟨ps[a].1, k, none⟩ (.int .u8 (b.toNat : Int))) base (.slice (some ⟨g, 0, none⟩) n cap) ps (L.set a (L[a].set k b)) := by
  obtain ⟨hn, hbg, cur, hh, hle, hcm, hcs, ht⟩ := h.outerSet (by omega)
  have hra := h.row a _ _ (List.getElem?_eq_getElem ha') (List.getElem?_eq_getElem ha)
  have hh1 : W.heap[g]? = some (.cells cur 60 (0, 0)) := by rw [hW]; exact hh
  have hr1 : RowS W ps[a].1 L[a] := hra.2.2.heap hW
  have hne := row_ne hr1 hh1
  have hl : (L[a].set k b).length = L[a].length := List.length_set
  refine ⟨⟨by rw [zip_same ps L a ha _ hl, List.length_set]; exact h.outer.1, .inr ⟨g, cap, cur, by rw [hn, List.length_set], hbg, blk_far hh1 (by show g ≠ ps[a].1; exact fun e => hne e.symm) _, by rw [List.length_set]; exact hle, hcm, by omega, by rw [zip_same ps L a ha _ hl, List.length_set, Nat.mul_one]; exact ht⟩⟩, by rw [List.length_set]; exact h.len, fun i p l h1 h2 => ?_, h.nodup⟩
  rw [List.getElem?_set] at h2
  by_cases e : a = i
  · subst e
    rw [if_pos rfl, if_pos ha] at h2
    injection h2 with h2
    subst h2
    rw [List.getElem?_eq_getElem ha'] at h1
    injection h1 with h1
    subst h1
    exact ⟨hra.1, by rw [hl]; exact hra.2.1, hr1.put k hk b⟩
  · rw [if_neg e] at h2
    obtain ⟨r1, r2, r3⟩ := h.row i p l h1 h2
    refine ⟨r1, r2, (r3.heap hW).far (p := ⟨ps[a].1, k, none⟩) (fun ep => ?_) _⟩
    have hi : i < ps.length := (List.getElem?_eq_some_iff.1 h1).1
    refine e (nodup_inj h.nodup a i (by rw [List.length_map]; exact ha') (by rw [List.length_map]; exact hi) ?_)
    rw [List.getElem?_map, List.getElem?_map, h1, List.getElem?_eq_getElem ha']
    show some ps[a].1 = some p.1
    rw [ep]
theorem FieldAt.rowPut {w : World} {f p k : Nat} {l : List UInt8} {u : Value} (hf : FieldAt w f) (h : RowS w p l) {W : World} (hW : W.heap = w.heap) : FieldAt (W.setCell ⟨p, k, none⟩ u) f := by
  have h1 : FieldAt W f := by unfold FieldAt; rw [hW]; exact hf
  exact blk_far h1 (field_ne (h.heap hW) h1) _
def scaleP (x : UInt8) (l : List UInt8) (k : Nat) : List UInt8 := (l.take k).map (gmul x) ++ l.drop k
theorem scaleP_len (x : UInt8) (l : List UInt8) (k : Nat) : (scaleP x l k).length = l.length := by simp [scaleP]; omega
theorem scaleP_zero (x : UInt8) (l : List UInt8) : scaleP x l 0 = l := by simp [scaleP]
theorem scaleP_full (x : UInt8) (l : List UInt8) : scaleP x l l.length = scaleR x l := by simp [scaleP, scaleR]
theorem scaleP_at (x : UInt8) (l : List UInt8) (k : Nat) (hk : k < l.length) : (scaleP x l k)[k]'(by rw [scaleP_len]; exact hk) = l[k] := by
  unfold scaleP
  rw [List.getElem_append_right (by simp; omega)]
  simp
  congr 1
  omega
theorem scaleP_set (x : UInt8) (l : List UInt8) (k : Nat) (hk : k < l.length) : (scaleP x l k).set k (gmul x l[k]) = scaleP x l (k + 1) := by
  unfold scaleP
  have hl : ((l.take k).map (gmul x)).length = k := by simp; omega
  rw [List.set_append_right _ _ (by omega), hl, Nat.sub_self, List.drop_eq_getElem_cons hk, List.set_cons_zero, List.take_succ_eq_append_getElem hk, List.map_append]
  simp
theorem set_again {α : Type} (l : List α) (i : Nat) (a b : α) : (l.set i a).set i b = l.set i b := by simp
set_option maxRecDepth 100000 in
set_option maxHeartbeats 2000000 in
theorem scale_walk {w : World} {base f : Nat} {v : Value} {ps : List (Nat × Nat)} {L : Grid} (h : GridAt w base v ps L) (hf : FieldAt w f) (a : Nat) (ha : a < L.length) (hl : L[a].length ≤ 255) (x : UInt8) :
    Calls Tryd.prog 89 #[v, .pointer (some ⟨f, 0, none⟩), .int .i64 (a : Int), .int .u8 (x.toNat : Int)] w fun e w' => e = .returned (.tuple #[]) ∧ GridAt w' base v ps (L.set a (scaleR x L[a])) ∧ FieldAt w' f ∧ w.grownBy w' (some (ps[a]'(by rw [h.len]; exact ha)).1) := by
  obtain ⟨g, cap, cur, rfl, hbg, hh, hle, hcell⟩ := h.form (by omega)
  have ha' : a < ps.length := by rw [h.len]; exact ha
  obtain ⟨r, hr⟩ : ∃ r, r = L[a] := ⟨_, rfl⟩
  obtain ⟨p, hp⟩ : ∃ p, p = ps[a] := ⟨_, rfl⟩
  have HBP : base ≤ p.1 := by
    have := (h.row a _ _ (List.getElem?_eq_getElem ha') (List.getElem?_eq_getElem ha)).1
    rw [hp]; exact this
  have HG0 : Aside0 (GridAt w base (.slice (some ⟨g, 0, none⟩) L.length cap) ps (L.set a (scaleP x r 0))) := ⟨by rw [scaleP_zero, hr, List.set_getElem_self]; exact h⟩
  have HF0 := Aside0.mk hf
  have HB0 : Aside0 (w.grownBy w (some p.1)) := ⟨grown_refl _ _⟩
  have c0 := (h.rowCell a ha ha').1
  have e0 : rowV ps[a] L[a] = .slice (some ⟨p.1, 0, none⟩) r.length p.2 := by rw [hp, hr]; rfl
  rw [e0] at c0
  rw [← hr] at hl ⊢
  have hpa0 : (ps[a]'(by rw [h.len]; exact ha)).1 = p.1 := by rw [hp]
  rw [hpa0]
  have HP : Aside0 (ps[a]? = some p) := ⟨by rw [hp]; exact List.getElem?_eq_getElem ha'⟩
  have HA := Aside0.mk ha
  obtain ⟨n, hn⟩ : ∃ n, n = L.length := ⟨_, rfl⟩
  rw [← hn] at HG0 ha ⊢
  clear hh hle hcell hr hp ha' e0 hf hpa0
  have HN := Aside0.mk hn
  clear hn
  obtain ⟨pp, pc⟩ := p
  go_enter Tryd.func89, Tryd.ntmps89
  go_wp2
  go_loopw [15] (fun i W => ∃ k : Nat, k ≤ r.length ∧ i = .int .i64 (k : Int) ∧ Aside0 (GridAt W base (.slice (some ⟨g, 0, none⟩) n cap) ps (L.set a (scaleP x r k))) ∧ Aside0 (FieldAt W f) ∧ Aside0 (w.grownBy W (some pp))) (fun i _ => r.length - (intOf i).toNat)
  case atStart => exact ⟨0, by omega, rfl, HG0, HF0, HB0⟩
  case round =>
    obtain ⟨k, hk, rfl, HG, HF, HB⟩ := hrel
    clear HG0 HF0 HB0
    by_cases hlt : k < r.length
    · have hla : a < (L.set a (scaleP x r k)).length := by rw [List.length_set]; exact HA.out
      have hpa : a < ps.length := (List.getElem?_eq_some_iff.1 HP.out).1
      have hpe : ps[a] = (pp, pc) := (List.getElem?_eq_some_iff.1 HP.out).2
      have hLe : (L.set a (scaleP x r k))[a] = scaleP x r k := by simp
      have c1 := (HG.out.rowCell a hla hpa).1
      rw [hpe, hLe] at c1
      unfold rowV at c1
      rw [scaleP_len] at c1
      have hrow := (HG.out.row a (pp, pc) (scaleP x r k) HP.out (by rw [List.getElem?_eq_getElem hla, hLe])).2.2
      have d0 := hrow.cell k (by rw [scaleP_len]; exact hlt)
      rw [scaleP_at x r k hlt] at d0
      have f0 := hrow.frozen k (by rw [scaleP_len]; exact hlt)
      have HST : Aside0 (∀ W : World, W.heap = wr.heap → GridAt (W.setCell ⟨pp, k, none⟩ (.int .u8 ((gmul x r[k]).toNat : Int))) base (.slice (some ⟨g, 0, none⟩) n cap) ps (L.set a (scaleP x r (k + 1))) ∧ FieldAt (W.setCell ⟨pp, k, none⟩ (.int .u8 ((gmul x r[k]).toNat : Int))) f) := ⟨fun W hW => by
        have h1 := HG.out.rowPut a hla hpa k (by rw [hLe, scaleP_len]; exact hlt) (gmul x r[k]) hW
        rw [hLe, scaleP_set x r k hlt, set_again, hpe] at h1
        exact ⟨h1, Grd.FieldAt.rowPut HF.out hrow hW⟩⟩
      have HMU : Aside0 (∀ W : World, W.heap = wr.heap → Calls Tryd.prog 57 #[.pointer (some ⟨f, 0, none⟩), .int .u8 (x.toNat : Int), .int .u8 (r[k].toNat : Int)] W fun e w' => e = .returned (.int .u8 ((gmul x r[k]).toNat : Int)) ∧ Drawn0 W w') := ⟨fun W hW => mul_walk (by have := HF.out; unfold FieldAt at this ⊢; rw [hW]; exact this) x r[k]⟩
      have hxb := b_lt x
      have hrb := b_lt r[k]
      have hgb := b_lt (gmul x r[k])
      clear hla hpa hpe hLe hrow
      generalize (gmul x r[k]).toNat = res at *
      generalize r[k].toNat = old at *
      generalize x.toNat = xx at *
      go_wp2_with fail
      go_region_law (first | (go_simp; go_at_call 57; refine (HMU.out _ (by rfl)).mono ?_; rintro e w6 ⟨rfl, ⟨nd, rfl⟩⟩))
      all_goals go_wp2
      all_goals go_roundw
      all_goals first
        | (case rel => exact ⟨k + 1, by omega, by go_num, ⟨(HST.out _ (by rfl)).1⟩, ⟨(HST.out _ (by rfl)).2⟩, ⟨World.grownBy.trans (by repeat (first | exact HB.out | apply grown_drewN | apply grown_drew)) (grown_set _ pp _ _)⟩⟩)
        | skip
      all_goals (case measure => simp [intOf]; omega)
    · have hkr : k = r.length := by omega
      subst hkr
      rw [scaleP_full] at HG
      go_wp2
      refine bodyPost_end (results_none rfl _ _ _) rfl ?_
      exact ⟨rfl, HG.out, HF.out, HB.out⟩
def addP (x : UInt8) (f t : List UInt8) (k : Nat) : List UInt8 := addR x (f.take k) (t.take k) ++ t.drop k
theorem addP_len (x : UInt8) (f t : List UInt8) (k : Nat) (hl : f.length = t.length) : (addP x f t k).length = t.length := by simp [addP, addR]; omega
theorem addP_zero (x : UInt8) (f t : List UInt8) : addP x f t 0 = t := by simp [addP, addR]
theorem addP_full (x : UInt8) (f t : List UInt8) (hl : f.length = t.length) : addP x f t t.length = addR x f t := by
  unfold addP
  rw [List.take_of_length_le (by omega), List.take_of_length_le (Nat.le_refl _), List.drop_of_length_le (Nat.le_refl _), List.append_nil]
theorem addP_at (x : UInt8) (f t : List UInt8) (k : Nat) (hl : f.length = t.length) (hk : k < t.length) : (addP x f t k)[k]'(by rw [addP_len x f t k hl]; exact hk) = t[k] := by
  unfold addP addR
  rw [List.getElem_append_right (by simp; omega)]
  simp
  congr 1
  omega
theorem addP_set (x : UInt8) (f t : List UInt8) (k : Nat) (hl : f.length = t.length) (hk : k < t.length) : (addP x f t k).set k (t[k] ^^^ gmul x (f[k]'(by omega))) = addP x f t (k + 1) := by
  unfold addP addR
  have hz : (List.zipWith (fun t y => t ^^^ gmul x y) (t.take k) (f.take k)).length = k := by simp; omega
  rw [List.set_append_right _ _ (by omega), hz, Nat.sub_self, List.drop_eq_getElem_cons hk, List.set_cons_zero, List.take_succ_eq_append_getElem hk, List.take_succ_eq_append_getElem (show k < f.length by omega), List.zipWith_append (by simp; omega)]
  simp
set_option maxRecDepth 100000 in
set_option maxHeartbeats 2000000 in
theorem add_walk {w : World} {base f : Nat} {v : Value} {ps : List (Nat × Nat)} {L : Grid} (h : GridAt w base v ps L) (hf : FieldAt w f) (a c : Nat) (ha : a < L.length) (hc : c < L.length) (hac : a ≠ c) (hl : L[c].length = L[a].length) (hl2 : L[a].length ≤ 255) (x : UInt8) :
    Calls Tryd.prog 90 #[v, .pointer (some ⟨f, 0, none⟩), .int .i64 (a : Int), .int .u8 (x.toNat : Int), .int .i64 (c : Int)] w fun e w' => e = .returned (.tuple #[]) ∧ GridAt w' base v ps (L.set a (addR x L[c] L[a])) ∧ FieldAt w' f ∧ w.grownBy w' (some (ps[a]'(by rw [h.len]; exact ha)).1) := by
  obtain ⟨g, cap, cur, rfl, hbg, hh, hle, hcell⟩ := h.form (by omega)
  have ha' : a < ps.length := by rw [h.len]; exact ha
  have hc' : c < ps.length := by rw [h.len]; exact hc
  obtain ⟨r, hr⟩ : ∃ r, r = L[a] := ⟨_, rfl⟩
  obtain ⟨y, hy⟩ : ∃ y, y = L[c] := ⟨_, rfl⟩
  obtain ⟨p, hp⟩ : ∃ p, p = ps[a] := ⟨_, rfl⟩
  obtain ⟨q, hq⟩ : ∃ q, q = ps[c] := ⟨_, rfl⟩
  have HBP : base ≤ p.1 := by
    have := (h.row a _ _ (List.getElem?_eq_getElem ha') (List.getElem?_eq_getElem ha)).1
    rw [hp]; exact this
  have HG0 : Aside0 (GridAt w base (.slice (some ⟨g, 0, none⟩) L.length cap) ps (L.set a (addP x y r 0))) := ⟨by rw [addP_zero, hr, List.set_getElem_self]; exact h⟩
  have HF0 := Aside0.mk hf
  have HB0 : Aside0 (w.grownBy w (some p.1)) := ⟨grown_refl _ _⟩
  have c0 := (h.rowCell c hc hc').1
  have e0 : rowV ps[c] L[c] = .slice (some ⟨q.1, 0, none⟩) r.length q.2 := by rw [hq, hr, ← hl]; rfl
  rw [e0] at c0
  rw [← hr, ← hy] at hl ⊢
  have hpa0 : (ps[a]'(by rw [h.len]; exact ha)).1 = p.1 := by rw [hp]
  rw [hpa0]
  rw [← hr] at hl2
  have HY : Aside0 (L[c]? = some y) := ⟨by rw [hy]; exact List.getElem?_eq_getElem hc⟩
  have HP : Aside0 (ps[a]? = some p) := ⟨by rw [hp]; exact List.getElem?_eq_getElem ha'⟩
  have HQ : Aside0 (ps[c]? = some q) := ⟨by rw [hq]; exact List.getElem?_eq_getElem hc'⟩
  have HA := Aside0.mk ha
  have HAC := Aside0.mk hac
  have HL := Aside0.mk hl
  obtain ⟨n, hn⟩ : ∃ n, n = L.length := ⟨_, rfl⟩
  rw [← hn] at HG0 ha hc ⊢
  clear hh hle hcell hr hp ha' hc' e0 hf hy hq hl hac hpa0
  have HN := Aside0.mk hn
  clear hn
  obtain ⟨pp, pc⟩ := p
  obtain ⟨qp, qc⟩ := q
  go_enter Tryd.func90, Tryd.ntmps90
  go_wp2
  go_loopw [17] (fun i W => ∃ k : Nat, k ≤ r.length ∧ i = .int .i64 (k : Int) ∧ Aside0 (GridAt W base (.slice (some ⟨g, 0, none⟩) n cap) ps (L.set a (addP x y r k))) ∧ Aside0 (FieldAt W f) ∧ Aside0 (w.grownBy W (some pp))) (fun i _ => r.length - (intOf i).toNat)
  case atStart => exact ⟨0, by omega, rfl, HG0, HF0, HB0⟩
  case round =>
    obtain ⟨k, hk, rfl, HG, HF, HB⟩ := hrel
    clear HG0 HF0 HB0
    by_cases hlt : k < r.length
    · have hly : k < y.length := by rw [HL.out]; exact hlt
      have hla : a < (L.set a (addP x y r k)).length := by rw [List.length_set]; exact HA.out
      have hpa : a < ps.length := (List.getElem?_eq_some_iff.1 HP.out).1
      have hpe : ps[a] = (pp, pc) := (List.getElem?_eq_some_iff.1 HP.out).2
      have hLe : (L.set a (addP x y r k))[a] = addP x y r k := by simp
      have c1 := (HG.out.rowCell a hla hpa).1
      rw [hpe, hLe] at c1
      unfold rowV at c1
      rw [addP_len x y r k HL.out] at c1
      have hrow := (HG.out.row a (pp, pc) (addP x y r k) HP.out (by rw [List.getElem?_eq_getElem hla, hLe])).2.2
      have d0 := hrow.cell k (by rw [addP_len x y r k HL.out]; exact hlt)
      rw [addP_at x y r k HL.out hlt] at d0
      have f0 := hrow.frozen k (by rw [addP_len x y r k HL.out]; exact hlt)
      have hrowc := (HG.out.row c (qp, qc) y HQ.out (by rw [List.getElem?_set, if_neg HAC.out]; exact HY.out)).2.2
      have d1 := hrowc.cell k hly
      have HST : Aside0 (∀ W : World, W.heap = wr.heap → GridAt (W.setCell ⟨pp, k, none⟩ (.int .u8 ((r[k] ^^^ gmul x y[k]).toNat : Int))) base (.slice (some ⟨g, 0, none⟩) n cap) ps (L.set a (addP x y r (k + 1))) ∧ FieldAt (W.setCell ⟨pp, k, none⟩ (.int .u8 ((r[k] ^^^ gmul x y[k]).toNat : Int))) f) := ⟨fun W hW => by
        have h1 := HG.out.rowPut a hla hpa k (by rw [hLe, addP_len x y r k HL.out]; exact hlt) (r[k] ^^^ gmul x y[k]) hW
        rw [hLe, addP_set x y r k HL.out hlt, set_again, hpe] at h1
        exact ⟨h1, Grd.FieldAt.rowPut HF.out hrow hW⟩⟩
      have HMU : Aside0 (∀ W : World, W.heap = wr.heap → Calls Tryd.prog 57 #[.pointer (some ⟨f, 0, none⟩), .int .u8 (x.toNat : Int), .int .u8 (y[k].toNat : Int)] W fun e w' => e = .returned (.int .u8 ((gmul x y[k]).toNat : Int)) ∧ Drawn0 W w') := ⟨fun W hW => mul_walk (by have := HF.out; unfold FieldAt at this ⊢; rw [hW]; exact this) x y[k]⟩
      have hxr := xor_u8 r[k].toNat (gmul x y[k]).toNat (b_lt _) (b_lt _)
      rw [← UInt8.toNat_xor] at hxr
      have hxb := b_lt x
      have hrb := b_lt r[k]
      have hyb := b_lt y[k]
      have hgb := b_lt (gmul x y[k])
      clear hla hpa hpe hLe hrow hrowc
      generalize (r[k] ^^^ gmul x y[k]).toNat = res at *
      generalize (gmul x y[k]).toNat = prod at *
      generalize r[k].toNat = old at *
      generalize y[k].toNat = yy at *
      generalize x.toNat = xx at *
      go_wp2_with fail
      go_region_law (first | (go_simp; go_at_call 57; refine (HMU.out _ (by rfl)).mono ?_; rintro e w6 ⟨rfl, ⟨nd, rfl⟩⟩))
      all_goals go_wp2
      all_goals go_roundw
      all_goals first
        | (case rel => exact ⟨k + 1, by omega, by go_num, ⟨(HST.out _ (by rfl)).1⟩, ⟨(HST.out _ (by rfl)).2⟩, ⟨World.grownBy.trans (by repeat (first | exact HB.out | apply grown_drewN | apply grown_drew)) (grown_set _ pp _ _)⟩⟩)
        | skip
      all_goals (case measure => simp [intOf]; omega)
    · have hkr : k = r.length := by omega
      subst hkr
      rw [addP_full x y r HL.out] at HG
      go_wp2
      refine bodyPost_end (results_none rfl _ _ _) rfl ?_
      exact ⟨rfl, HG.out, HF.out, HB.out⟩
end Go.Proofs.YtegmmefijihdeaaDoor.Grd
namespace Go.Proofs.YtegmmefijihdeaaDoor.Grd
open Go.RowKit Go.Proofs.YtegmmefijihdeaaDoorW.PrintWords Go.Proofs.YtegmmefijihdeaaDoorW.PrintLast Go.Proofs.YtegmmefijihdeaaDoorW.PrintMore Go.Proofs.YtegmmefijihdeaaDoor.Gf Go.Proofs.YtegmmefijihdeaaDoor.Rowb Go.Proofs.YtegmmefijihdeaaDoor.Fld
set_option linter.unusedVariables false
set_option linter.unusedSimpArgs false
theorem GridAt.grown {w w' : World} {base b : Nat} {v : Value} {ps : List (Nat × Nat)} {L : Grid} (h : GridAt w base v ps L) (hg : w.grownBy w' (some b)) (hv : v.ownBlock ≠ some b) (hp : ∀ p, p ∈ ps → p.1 ≠ b) : GridAt w' base v ps L :=
  ⟨own_other h.outer hg (.inr hv), h.len, fun i p l h1 h2 => ⟨(h.row i p l h1 h2).1, (h.row i p l h1 h2).2.1, (h.row i p l h1 h2).2.2.grown hg (fun e => hp p (List.mem_of_getElem? h1) (by injection e))⟩, h.nodup⟩
theorem GridAt.rowOf {w : World} {base : Nat} {v : Value} {ps : List (Nat × Nat)} {L : Grid} (h : GridAt w base v ps L) {p : Nat × Nat} (hp : p ∈ ps) : ∃ l, RowS w p.1 l ∧ base ≤ p.1 := by
  obtain ⟨i, hi, rfl⟩ := List.getElem_of_mem hp
  have := h.row i _ _ (List.getElem?_eq_getElem hi) (List.getElem?_eq_getElem (by rw [← h.len]; exact hi))
  exact ⟨_, this.2.2, this.1⟩
structure TwoAt (w : World) (base : Nat) (v : Value) (ps : List (Nat × Nat)) (L : Grid) (u : Value) (qs : List (Nat × Nat)) (R : Grid) (f : Nat) : Prop where
  gl : GridAt w base v ps L
  gr : GridAt w base u qs R
  sep : ∀ p, p ∈ ps → ∀ q, q ∈ qs → p.1 ≠ q.1
  own : v.ownBlock ≠ u.ownBlock
  field : FieldAt w f
theorem TwoAt.symm {w : World} {base f : Nat} {v u : Value} {ps qs : List (Nat × Nat)} {L R : Grid} (h : TwoAt w base v ps L u qs R f) : TwoAt w base u qs R v ps L f :=
  ⟨h.gr, h.gl, fun p hp q hq e => h.sep q hq p hp e.symm, fun e => h.own e.symm, h.field⟩
/-- A row of the one is written: the other stands. -/
theorem TwoAt.row {w w' : World} {base f : Nat} {v u : Value} {ps qs : List (Nat × Nat)} {L L' R : Grid} (h : TwoAt w base v ps L u qs R f) (hl : GridAt w' base v ps L') (hf : FieldAt w' f) {p : Nat × Nat} (hp : p ∈ ps) (hg : w.grownBy w' (some p.1)) : TwoAt w' base v ps L' u qs R f := by
  obtain ⟨l, hr, _⟩ := h.gl.rowOf hp
  exact ⟨hl, h.gr.grown hg (fun e => row_ne_own hr h.gr.outer e.symm) (fun q hq e => h.sep p hp q hq e.symm), h.sep, h.own, hf⟩
/-- The outer row of the one is written. -/
theorem TwoAt.outer {w w' : World} {base f g n cap : Nat} {u : Value} {ps ps' qs : List (Nat × Nat)} {L L' R : Grid} (h : TwoAt w base (.slice (some ⟨g, 0, none⟩) n cap) ps L u qs R f) (hl : GridAt w' base (.slice (some ⟨g, 0, none⟩) n cap) ps' L') (hn : 0 < L.length)
    (hm : ∀ p, p ∈ ps' → p ∈ ps) (hg : w.grownBy w' (some g)) : TwoAt w' base (.slice (some ⟨g, 0, none⟩) n cap) ps' L' u qs R f := by
  obtain ⟨_, _, cur, hh, _⟩ := h.gl.outerSet hn
  refine ⟨hl, h.gr.grown hg (fun e => h.own e.symm) (fun q hq e => ?_), fun p hp q hq => h.sep p (hm p hp) q hq, h.own, blk_grown h.field hg (fun e => ?_)⟩
  · obtain ⟨l, hr, _⟩ := h.gr.rowOf hq
    exact row_ne_own hr h.gl.outer (by rw [e]; rfl)
  · have hf := h.field
    unfold FieldAt at hf
    injection e with e
    rw [e, hh] at hf
    injection hf with hf
    injection hf with _ hf _
    exact absurd hf (by decide)
theorem mem_swapL {α : Type} (l : List α) (a b : Nat) (ha : a < l.length) (hb : b < l.length) {x : α} (h : x ∈ swapL l a b ha hb) : x ∈ l := by
  obtain ⟨i, hi⟩ := List.mem_iff_getElem?.1 h
  exact List.mem_of_getElem? (swapL_at l a b ha hb i x hi)
/-! A column cleared row by row. -/
def clearP (c : Nat) (L M : Grid) (i : Nat) : Grid := M.mapIdx (fun j r => if j < i ∧ j ≠ c then addR (at2 L j c) (Gf.rowAt M c) r else r)
theorem clearP_len (c : Nat) (L M : Grid) (i : Nat) : (clearP c L M i).length = M.length := by simp [clearP]
theorem clearP_get (c : Nat) (L M : Grid) (i j : Nat) (hj : j < M.length) : (clearP c L M i)[j]'(by rw [clearP_len]; exact hj) = if j < i ∧ j ≠ c then addR (at2 L j c) (Gf.rowAt M c) M[j] else M[j] := by simp [clearP]
theorem clearP_zero (c : Nat) (L M : Grid) : clearP c L M 0 = M := by
  apply List.ext_getElem
  · exact clearP_len _ _ _ _
  · intro j h1 h2
    rw [clearP_get _ _ _ _ _ h2, if_neg (by omega)]
theorem clearC_get (c : Nat) (L M : Grid) (j : Nat) (h : j < (clearC c L M).length) (hj : j < M.length) : (clearC c L M)[j] = if j = c then M[j] else addR (at2 L j c) (Gf.rowAt M c) M[j] := by simp [clearC]
theorem clearP_full (c : Nat) (L M : Grid) : clearP c L M M.length = clearC c L M := by
  apply List.ext_getElem
  · rw [clearP_len]; simp [clearC]
  · intro j h1 h2
    have hj : j < M.length := by rw [clearP_len] at h1; exact h1
    rw [clearP_get _ _ _ _ _ hj, clearC_get c L M j h2 hj]
    by_cases e : j = c
    · rw [if_neg (by omega), if_pos e]
    · rw [if_pos ⟨hj, e⟩, if_neg e]
theorem clearP_same (c : Nat) (L M : Grid) (i : Nat) (hi : i < M.length) (h : i = c ∨ addR (at2 L i c) (Gf.rowAt M c) M[i] = M[i]) : clearP c L M (i + 1) = clearP c L M i := by
  apply List.ext_getElem
  · rw [clearP_len, clearP_len]
  · intro j h1 h2
    have hj : j < M.length := by rw [clearP_len] at h1; exact h1
    rw [clearP_get _ _ _ _ _ hj, clearP_get _ _ _ _ _ hj]
    by_cases e : j = i
    · subst e
      rcases h with h | h
      · rw [if_neg (by omega), if_neg (by omega)]
      · by_cases ec : j = c
        · rw [if_neg (by omega), if_neg (by omega)]
        · rw [if_pos (by omega), if_neg (by omega), h]
    · by_cases e2 : j < i ∧ j ≠ c
      · rw [if_pos e2, if_pos (by omega)]
      · rw [if_neg e2, if_neg (by omega)]
theorem clearP_set (c : Nat) (L M : Grid) (i : Nat) (hi : i < M.length) (h : i ≠ c) : (clearP c L M i).set i (addR (at2 L i c) (Gf.rowAt M c) M[i]) = clearP c L M (i + 1) := by
  apply List.ext_getElem
  · rw [List.length_set, clearP_len, clearP_len]
  · intro j h1 h2
    have hj : j < M.length := by rw [clearP_len] at h2; exact h2
    rw [List.getElem_set, clearP_get _ _ _ _ _ hj, clearP_get _ _ _ _ _ hj]
    by_cases e : i = j
    · subst e
      rw [if_pos rfl, if_pos (by omega)]
    · rw [if_neg e]
      by_cases e2 : j < i ∧ j ≠ c
      · rw [if_pos e2, if_pos (by omega)]
      · rw [if_neg e2, if_neg (by omega)]
theorem add_none (f t : List UInt8) (h : f.length = t.length) : addR 0 f t = t := by
  unfold addR
  apply List.ext_getElem
  · simp; omega
  · intro i h1 h2
    rw [List.getElem_zipWith, zero_gmul]
    simp
end Go.Proofs.YtegmmefijihdeaaDoor.Grd
namespace Go.Proofs.YtegmmefijihdeaaDoor.Grd
open Go.RowKit Go.Proofs.YtegmmefijihdeaaDoorW.PrintWords Go.Proofs.YtegmmefijihdeaaDoorW.PrintLast Go.Proofs.YtegmmefijihdeaaDoorW.PrintMore Go.Proofs.YtegmmefijihdeaaDoor.Gf Go.Proofs.YtegmmefijihdeaaDoor.Rowb Go.Proofs.YtegmmefijihdeaaDoor.Fld
attribute [local go_sem] max2_int min2_int max_two min_two
set_option linter.unusedVariables false
set_option linter.unusedSimpArgs false
set_option maxRecDepth 100000 in
set_option maxHeartbeats 1000000 in
theorem check_walk (w : World) (r c : Nat) (s : List UInt8) (hr1 : 1 ≤ r) (hr2 : r ≤ 255) (hc1 : 1 ≤ c) (hc2 : c ≤ 255) (hs : s.length = r * c) :
    Calls Tryd.prog 86 #[matV r c s] w fun e w' => e = .returned (.int .i64 0) ∧ Below w.heap.size w w' := by
  unfold matV
  obtain ⟨t, ht⟩ : ∃ t : ByteArray, t = ⟨s.toArray⟩ := ⟨_, rfl⟩
  have hts : (t.size : Int) = (r : Int) * (c : Int) := by
    have : t.size = s.length := by rw [ht]; show (s.toArray).size = _; simp
    rw [this, hs]
    push_cast
    rfl
  rw [← ht]
  have hb : r * c ≤ 255 * 255 := Nat.mul_le_mul hr2 hc2
  have hbi : (r : Int) * (c : Int) = ((r * c : Nat) : Int) := by push_cast; rfl
  rw [hbi] at hts
  obtain ⟨z, hz⟩ : ∃ z, r * c = z := ⟨_, rfl⟩
  rw [hz] at hts hbi hb
  have c1 : decide ((r : Int) < 1) = false := by simp; omega
  have c2 : decide ((c : Int) < 1) = false := by simp; omega
  have c3 : decide ((255 : Int) < (r : Int)) = false := by simp; omega
  have c4 : decide ((255 : Int) < (c : Int)) = false := by simp; omega
  have d1 : ¬ r = 0 := by omega
  have d2 : ¬ c = 0 := by omega
  have d3 : ¬ (255 < r) := by omega
  have d4 : ¬ (255 < c) := by omega
  clear ht hz hs hr1 hc1
  go_enter Tryd.func86, Tryd.ntmps86
  have hbx : (w.alloc (.cells #[.int .i64 (r : Int), .int .i64 (c : Int), .string t] 74)).heap[w.heap.size]? = some (.cells #[.int .i64 (r : Int), .int .i64 (c : Int), .string t] 74 (0, 0)) := blk_new _ _
  have c5 := blk_cell hbx 0
  have c6 := blk_cell hbx 1
  have c7 := blk_cell hbx 2
  go_wp2
  all_goals first
    | (go_ret; exact ⟨rfl, (Below.refl _ _).alloc (Nat.le_refl _) _⟩)
    | (exfalso; omega)
end Go.Proofs.YtegmmefijihdeaaDoor.Grd
namespace Go.Proofs.YtegmmefijihdeaaDoor.Grd
open Go.RowKit Go.Proofs.YtegmmefijihdeaaDoorW.PrintWords Go.Proofs.YtegmmefijihdeaaDoorW.PrintLast Go.Proofs.YtegmmefijihdeaaDoorW.PrintMore Go.Proofs.YtegmmefijihdeaaDoor.Gf Go.Proofs.YtegmmefijihdeaaDoor.Rowb Go.Proofs.YtegmmefijihdeaaDoor.Fld
set_option linter.unusedVariables false
set_option linter.unusedSimpArgs false
def gridV (g n cap : Nat) : Value := .slice (some ⟨g, 0, none⟩) n cap
/-- What stands beside the grids. -/
structure Side (w : World) (b2 gs : Nat) (cs : Array Value) (W : World) : Prop where
  res : W.heap[b2]? = some (.cells #[.int .i64 0, .int .i64 0, .string ⟨#[]⟩] 74 (0, 0))
  swaps : W.heap[gs]? = some (.cells cs 121 (0, 0))
  bel : Below w.heap.size w W
theorem Side.grown {w W W' : World} {b2 gs b : Nat} {cs : Array Value} (h : Side w b2 gs cs W) (hg : W.grownBy W' (some b)) (hb : w.heap.size ≤ b) (h1 : b2 ≠ b) (h2 : gs ≠ b) : Side w b2 gs cs W' :=
  ⟨blk_grown h.res hg (fun e => h1 (by injection e)), blk_grown h.swaps hg (fun e => h2 (by injection e)), h.bel.trans (below_grown hg hb h.bel.size)⟩
theorem row_ne_blk {w : World} {g p : Nat} {l : List UInt8} {cs : Array Value} {t : TypeId} {fr : Nat × Nat} (h : RowS w p l) (hg : w.heap[g]? = some (.cells cs t fr)) (ht : 5 ≠ t) : g ≠ p := by
  obtain ⟨sp, fr, h, _⟩ := h
  intro e
  subst e
  rw [h] at hg
  injection hg with hg
  injection hg with _ hg _
  exact ht hg
theorem blk_ne_blk {w : World} {g p : Nat} {cs cs' : Array Value} {t t' : TypeId} {fr fr' : Nat × Nat} (h : w.heap[p]? = some (.cells cs' t' fr')) (hg : w.heap[g]? = some (.cells cs t fr)) (ht : t' ≠ t) : g ≠ p := by
  intro e
  subst e
  rw [h] at hg
  injection hg with hg
  injection hg with _ hg _
  exact ht hg
/-- The state: left grid L at gl, right grid R at gr. -/
def State (w : World) (b2 gs : Nat) (cs : Array Value) (f n : Nat) (vL vR : Nat × Nat) (W : World) (L R : Grid) : Prop :=
  ∃ ps qs, TwoAt W w.heap.size (gridV vL.1 n vL.2) ps L (gridV vR.1 n vR.2) qs R f ∧ Side w b2 gs cs W
section
variable {w : World} {b2 gs f n : Nat} {cs : Array Value} {vL vR : Nat × Nat} {W : World} {L R : Grid}
theorem State.symm (h : State w b2 gs cs f n vL vR W L R) : State w b2 gs cs f n vR vL W R L := by
  obtain ⟨ps, qs, h1, h2⟩ := h
  exact ⟨qs, ps, h1.symm, h2⟩
theorem State.heap {W' : World} (h : State w b2 gs cs f n vL vR W L R) (hb : Below W.heap.size W W') : State w b2 gs cs f n vL vR W' L R := by
  obtain ⟨ps, qs, h1, h2⟩ := h
  exact ⟨ps, qs, ⟨h1.gl.below hb, h1.gr.below hb, h1.sep, h1.own, h1.field.below hb⟩, ⟨blk_below h2.res hb, blk_below h2.swaps hb, h2.bel.trans (hb.mono h2.bel.size)⟩⟩
theorem State.row {W' : World} {ps qs : List (Nat × Nat)} {L' : Grid} (h : TwoAt W w.heap.size (gridV vL.1 n vL.2) ps L (gridV vR.1 n vR.2) qs R f) (hs : Side w b2 gs cs W) (hl : GridAt W' w.heap.size (gridV vL.1 n vL.2) ps L') (hf : FieldAt W' f) {p : Nat × Nat} (hp : p ∈ ps) (hg : W.grownBy W' (some p.1)) :
    State w b2 gs cs f n vL vR W' L' R := by
  obtain ⟨l, hr, hb⟩ := h.gl.rowOf hp
  exact ⟨ps, qs, h.row hl hf hp hg, hs.grown hg hb (row_ne_blk hr hs.res (by decide)) (row_ne_blk hr hs.swaps (by decide))⟩
/-- A row is scaled. -/
theorem State.scale (h : State w b2 gs cs f n vL vR W L R) (hL : Sq n L) (hn : n ≤ 255) (c : Nat) (hc : c < n) (x : UInt8) :
    Calls Tryd.prog 89 #[gridV vL.1 n vL.2, .pointer (some ⟨f, 0, none⟩), .int .i64 (c : Int), .int .u8 (x.toNat : Int)] W fun e W' => e = .returned (.tuple #[]) ∧ State w b2 gs cs f n vL vR W' (gjS c x L) R := by
  obtain ⟨ps, qs, h1, h2⟩ := h
  have hcl : c < L.length := by rw [hL.len]; exact hc
  have hrl : L[c].length = n := by have := hL.rows c hc; rwa [rowAt_lt hcl] at this
  refine (scale_walk h1.gl h1.field c hcl (by omega) x).mono fun e W' ⟨he, hg, hf, hgr⟩ => ⟨he, ?_⟩
  unfold gjS
  rw [rowAt_lt hcl]
  exact State.row h1 h2 hg hf (List.getElem_mem _) hgr
/-- A row, scaled, is added to another one. -/
theorem State.add (h : State w b2 gs cs f n vL vR W L R) (hl : L.length = n) (hn : n ≤ 255) (i c : Nat) (hi : i < n) (hc : c < n) (hic : i ≠ c) (hri : (L[i]'(by omega)).length = n) (hrc : (L[c]'(by omega)).length = n) (x : UInt8) :
    Calls Tryd.prog 90 #[gridV vL.1 n vL.2, .pointer (some ⟨f, 0, none⟩), .int .i64 (i : Int), .int .u8 (x.toNat : Int), .int .i64 (c : Int)] W fun e W' => e = .returned (.tuple #[]) ∧ State w b2 gs cs f n vL vR W' (L.set i (addR x (L[c]'(by omega)) (L[i]'(by omega)))) R := by
  obtain ⟨ps, qs, h1, h2⟩ := h
  refine (add_walk h1.gl h1.field i c (by omega) (by omega) hic (by omega) (by omega) x).mono fun e W' ⟨he, hg, hf, hgr⟩ => ⟨he, ?_⟩
  exact State.row h1 h2 hg hf (List.getElem_mem _) hgr
/-- Two rows change places. -/
theorem State.swap (h : State w b2 gs cs f n vL vR W L R) (hl : L.length = n) (a b : Nat) (ha : a < n) (hb : b < n) :
    Calls Tryd.prog 88 #[gridV vL.1 n vL.2, .int .i64 (a : Int), .int .i64 (b : Int)] W fun e W' => e = .returned (.tuple #[]) ∧ State w b2 gs cs f n vL vR W' (swapR L a b) R := by
  obtain ⟨ps, qs, h1, h2⟩ := h
  refine (swap_walk h1.gl a b (by omega) (by omega)).mono fun e W' ⟨he, hg, hgr⟩ => ⟨he, ?_⟩
  have hgr' : W.grownBy W' (some vL.1) := hgr
  obtain ⟨_, hbg, cur, hh, _⟩ := h1.gl.outerSet (by omega)
  exact ⟨_, qs, h1.outer hg (by omega) (fun p hp => mem_swapL _ _ _ _ _ hp) hgr', h2.grown hgr' hbg (blk_ne_blk hh h2.res (by decide)) (blk_ne_blk hh h2.swaps (by decide))⟩
theorem State.read (h : State w b2 gs cs f n vL vR W L R) (hL : L.length = n) (i j : Nat) (hi : i < n) (hj : j < (L[i]'(by omega)).length) :
    ∃ p : Nat × Nat, W.cell? ⟨vL.1, i, none⟩ = some (.slice (some ⟨p.1, 0, none⟩) (L[i]'(by omega)).length p.2) ∧ W.cell? ⟨p.1, j, none⟩ = some (.int .u8 (((L[i]'(by omega))[j]).toNat : Int)) := by
  obtain ⟨ps, qs, h1, h2⟩ := h
  have hp : i < ps.length := by rw [h1.gl.len]; omega
  refine ⟨ps[i], (h1.gl.rowCell i (by omega) hp).1, ?_⟩
  exact (h1.gl.row i _ _ (List.getElem?_eq_getElem hp) (List.getElem?_eq_getElem (by omega))).2.2.cell j hj
theorem State.field (h : State w b2 gs cs f n vL vR W L R) : FieldAt W f := by
  obtain ⟨ps, qs, h1, h2⟩ := h
  exact h1.field
theorem State.side (h : State w b2 gs cs f n vL vR W L R) : Side w b2 gs cs W := by
  obtain ⟨ps, qs, h1, h2⟩ := h
  exact h2
end
end Go.Proofs.YtegmmefijihdeaaDoor.Grd
