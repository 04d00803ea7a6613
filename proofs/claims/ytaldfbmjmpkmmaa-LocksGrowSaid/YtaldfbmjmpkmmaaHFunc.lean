/- slices.ContainsFunc at the function that locks.Admit makes. -/
-- IMPORTS
-- END IMPORTS
import Derived.Test.YtaldfbmjmpkmmaaPL0
import Derived.StillTailTactics
import Derived.Test.YtaldfbmjmpkmmaaHClash
namespace Go.Proofs.Ytaldfbmjmpkmmaa.PL
open Go.RowKit Go.Proofs.YtaldfbmjmpkmmaaW.PrintWords Go.Proofs.YtaldfbmjmpkmmaaW.PrintLast Go.Proofs.YtaldfbmjmpkmmaaW.PrintMore Go.Maps Mk
set_option linter.unusedVariables false
set_option linter.unusedSimpArgs false

/-- What a function of one number does, called at the numbers of a list, in whatever world that has come of w. -/
def Tells (w : World) (g : Nat) (cap : Array Value) (xs : List Int) (p : Int → Bool) : Prop :=
 ∀ W : World, Below w.heap.size w W → ∀ x, x ∈ xs → Calls Try.prog g (#[.int .i64 x] ++ cap) W fun e W' => e = .returned (.bool (p x)) ∧ Below W.heap.size W W'

def firstAt (p : Int → Bool) : List Int → Int → Int
 | [], _ => -1
 | x :: r, i => if p x then i else firstAt p r (i + 1)
theorem firstAt_ge (p : Int → Bool) : ∀ (l : List Int) (i : Int), 0 ≤ i → (0 ≤ firstAt p l i ↔ l.any p = true)
 | [], i, h => by simp [firstAt]
 | x :: r, i, h => by
  unfold firstAt
  rw [List.any_cons]
  cases hp : p x
  ·simp only [Bool.false_or, Bool.false_eq_true, if_false]
   exact firstAt_ge p r (i + 1) (by omega)
  ·simp [h]

set_option maxRecDepth 100000 in
set_option maxHeartbeats 1000000 in
theorem index_func (w : World) (A : Option Addr) (c : Nat) (xs : List Int) (c1 c2 : Value) (p : Int → Bool) (hr : Kd.C (Kd.int .i64) w A xs.length xs) (hp : Tells w 60 #[c1, c2] xs p) :
 Calls Try.prog 101 #[.slice A xs.length c, .func (.func 60) #[] #[c1, c2]] w fun e w' => e = .returned (.int .i64 (firstAt p xs 0)) ∧ Below w.heap.size w w' := by
 have HR := Aside0.mk hr
 have HP := Aside0.mk hp
 have hmax := Kd.C_max hr
 clear hr hp
 go_enter Try.func101, Try.ntmps101
 go_wp2
 go_loopw [8] (fun i wr => ∃ k : Nat, k ≤ xs.length ∧ i = .int .i64 k ∧ Aside0 (firstAt p xs 0 = firstAt p (xs.drop k) k) ∧ Aside0 (Below w.heap.size w wr))
  (fun i _ => xs.length - (intOf i).toNat)
 case atStart => exact ⟨0, Nat.zero_le _, rfl, ⟨rfl⟩, ⟨Below.refl _ _⟩⟩
 case round =>
  obtain ⟨k, hk, rfl, HF, HB⟩ := hrel
  by_cases hlt : k < xs.length
  ·obtain ⟨ad, rfl, hc⟩ := Kd.at_int (Kd.C_below HR.out HB.out) (k : Int) (by omega) (by omega)
   rw [Int.toNat_natCast] at hc
   have hmem : rd xs (k : Int) ∈ xs := by unfold rd; simp [List.getElem?_eq_getElem hlt]
   have hdrop : xs.drop k = rd xs (k : Int) :: xs.drop (k + 1) := by
    rw [List.drop_eq_getElem_cons hlt]; unfold rd; simp [List.getElem?_eq_getElem hlt]
   have HF2 := HF.out
   rw [hdrop] at HF2
   generalize hx : rd xs (k : Int) = x at *
   have HM := Aside0.mk hmem
   have HF3 := Aside0.mk HF2
   clear hmem hdrop hx HF2 HF
   go_wp2_with fail
   refine (HP.out wr HB.out x HM.out).mono ?_
   rintro e w1 ⟨rfl, hb1⟩
   have HB1 : Aside0 (Below w.heap.size w w1) := ⟨HB.out.trans (hb1.mono HB.out.size)⟩
   clear hb1
   cases hpx : p x with
   | true =>
    have HV : Aside0 (firstAt p xs 0 = (k : Int)) := ⟨by rw [HF3.out]; unfold firstAt; rw [hpx]; rfl⟩
    clear hpx
    go_wp2_with fail
    go_ret
    exact ⟨by rw [HV.out]; rfl, HB1.out⟩
   | false =>
    have HV : Aside0 (firstAt p xs 0 = firstAt p (xs.drop (k + 1)) ((k + 1 : Nat) : Int)) := ⟨by
     rw [HF3.out]
     show (if p x = true then (k : Int) else firstAt p (xs.drop (k + 1)) ((k : Int) + 1)) = _
     rw [hpx]; simp⟩
    clear hpx
    go_wp2_with fail
    go_roundw
    case rel => exact ⟨k + 1, by omega, by go_num, HV, HB1⟩
    case measure => simp [intOf]; omega
  ·obtain rfl : k = xs.length := by omega
   have HV : Aside0 (firstAt p xs 0 = -1) := ⟨by rw [HF.out, List.drop_of_length_le (Nat.le_refl _)]; rfl⟩
   go_wp2
   go_ret
   exact ⟨by rw [HV.out]; rfl, HB.out⟩

set_option maxRecDepth 100000 in
theorem contains_func (w : World) (A : Option Addr) (c : Nat) (xs : List Int) (c1 c2 : Value) (p : Int → Bool) (hr : Kd.C (Kd.int .i64) w A xs.length xs) (hp : Tells w 60 #[c1, c2] xs p) :
 Calls Try.prog 59 #[.slice A xs.length c, .func (.func 60) #[] #[c1, c2]] w fun e w' => e = .returned (.bool (xs.any p)) ∧ Below w.heap.size w w' := by
 have hc := index_func w A c xs c1 c2 p hr hp
 have hge := firstAt_ge p xs 0 (by omega)
 have hval : decide (firstAt p xs 0 ≥ 0) = xs.any p := by
  rw [Bool.eq_iff_iff, decide_eq_true_iff]
  exact hge
 generalize firstAt p xs 0 = n at hc hval
 have HC := Aside0.mk hc
 have HV := Aside0.mk hval
 clear hc hge hval hr hp
 go_enter Try.func59, Try.ntmps59
 go_wp2_with fail
 refine HC.out.mono ?_
 rintro e w1 ⟨rfl, hb1⟩
 have HB := Aside0.mk hb1
 clear hb1
 go_wp2_with fail
 go_ret
 exact ⟨by rw [← HV.out]; rfl, HB.out⟩

def clashR (a b : S35) : Bool := clashB a.f7 a.f8 b.f7 b.f8
def smallR (r : S35) : Prop := small r.f7 ∧ small (wkeys r.f8)

set_option maxRecDepth 100000 in
set_option maxHeartbeats 1000000 in
/-- The function that Admit makes: does the record at a place clash with the one at hand? -/
theorem admit_one (w : World) (bl br : Nat) (A : Option Addr) (c : Nat) (l : List S35) (r : S35) (A7 : Option Addr) (c7 : Nat) (A8 : Option Addr) (c8 : Nat) (k : Nat) (hk : k < l.length)
 (hl : Kd.C k35 w A l.length l) (h7 : Kd.C Kd.string w A7 r.f7.length r.f7) (h8 : Kd.C k56 w A8 r.f8.length r.f8)
 (hbl : w.heap[bl]? = some (.cells #[.slice A l.length c] 22 (0, 0)))
 (hbr : w.heap[br]? = some (.cells #[.int .i64 r.f0, .int .i64 r.f1, .int .i64 r.f2, .int .i64 r.f3, .string r.f4, .string r.f5, .bool r.f6, .slice A7 r.f7.length c7, .slice A8 r.f8.length c8] 35 (0, 0)))
 (hsk : smallR (rd_T35 l (k : Int))) (hsr : smallR r) :
 Calls Try.prog 60 #[.int .i64 (k : Int), .pointer (some ⟨bl, 0, none⟩), .pointer (some ⟨br, 0, none⟩)] w fun e w' => e = .returned (.bool (clashR (rd_T35 l (k : Int)) r)) ∧ Below w.heap.size w w' := by
 obtain ⟨ad, X7, d7, X8, d8, rfl, q0, q1, q2, q3, q4, q5, q6, q7, q8, g7c, g7, g8c, g8⟩ := at_T35 hl (k : Int) (by omega) (by omega)
 rw [Int.toNat_natCast] at q0 q1 q2 q3 q4 q5 q6 q7 q8
 have hmax := Kd.C_max hl
 have p0 : w.cell? ⟨bl, 0, none⟩ = some (.slice (some ad) l.length c) := (blk_cell hbl 0).trans rfl
 have s0 : w.cell? ⟨br, 0, none⟩ = some (.int .i64 r.f0) := (blk_cell hbr 0).trans rfl
 have s1 : w.cell? ⟨br, 1, none⟩ = some (.int .i64 r.f1) := (blk_cell hbr 1).trans rfl
 have s2 : w.cell? ⟨br, 2, none⟩ = some (.int .i64 r.f2) := (blk_cell hbr 2).trans rfl
 have s3 : w.cell? ⟨br, 3, none⟩ = some (.int .i64 r.f3) := (blk_cell hbr 3).trans rfl
 have s4 : w.cell? ⟨br, 4, none⟩ = some (.string r.f4) := (blk_cell hbr 4).trans rfl
 have s5 : w.cell? ⟨br, 5, none⟩ = some (.string r.f5) := (blk_cell hbr 5).trans rfl
 have s6 : w.cell? ⟨br, 6, none⟩ = some (.bool r.f6) := (blk_cell hbr 6).trans rfl
 have s7 : w.cell? ⟨br, 7, none⟩ = some (.slice A7 r.f7.length c7) := (blk_cell hbr 7).trans rfl
 have s8 : w.cell? ⟨br, 8, none⟩ = some (.slice A8 r.f8.length c8) := (blk_cell hbr 8).trans rfl
 have hu35 := Try.underlying35
 have HX := Aside0.mk (And.intro g7 (And.intro g8 (And.intro h7 (And.intro h8 (And.intro hsk hsr)))))
 have HL := Aside0.mk hl
 clear g7 g8 h7 h8 hsk hsr hl hbl hbr
 generalize rd_T35 l (k : Int) = x at *
 go_enter Try.func60, Try.ntmps60
 go_wp2
 go_still_tail 5, (by kernel_rfl)
 change wpList _ _ _ _ _ w.drew
 have HX2 := Aside0.mk (And.intro (Kd.C_drew HX.out.1) (And.intro (Kd.C_drew HX.out.2.1) (And.intro (Kd.C_drew HX.out.2.2.1) (Kd.C_drew HX.out.2.2.2.1))))
 have HB := Aside0.mk (below_drew (Below.refl w.heap.size w))
 have HSM := Aside0.mk HX.out.2.2.2.2
 clear HX HL p0 s0 s1 s2 s3 s4 s5 s6 s7 s8 q0 q1 q2 q3 q4 q5 q6 q7 q8
 generalize w.drew = w2 at *
 go_wp2_with fail
 refine (clash_walk w2 _ _ _ _ _ _ _ _ _ _ _ _ _ _ _ _ _ _ _ _ _ _ _ _ _ _ HX2.out.1 HX2.out.2.1 HSM.out.1.1 HSM.out.1.2 HX2.out.2.2.1 HX2.out.2.2.2 HSM.out.2.1 HSM.out.2.2).mono ?_
 rintro e w3 ⟨rfl, hb3⟩
 have HB3 : Aside0 (Below w.heap.size w w3) := ⟨HB.out.trans (hb3.mono HB.out.size)⟩
 have HV : Aside0 (clashB x.f7 x.f8 r.f7 r.f8 = clashR x r) := ⟨rfl⟩
 clear hb3
 generalize clashB x.f7 x.f8 r.f7 r.f8 = v at *
 go_wp2_with fail
 go_ret
 exact ⟨by rw [← HV.out]; rfl, HB3.out⟩
end Go.Proofs.Ytaldfbmjmpkmmaa.PL
