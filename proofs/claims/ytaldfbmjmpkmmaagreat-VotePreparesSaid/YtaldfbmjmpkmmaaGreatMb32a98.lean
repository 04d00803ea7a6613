/- Texts of this proof, one behind the other (merged by a program of this session). -/
import Derived.Test.YtaldfbmjmpkmmaaGreatM26ea5b
import Derived.StillTailTactics
import Derived.Lib.SliceRun
import Derived.Shelf.SlGeneric
import Derived.Shelf.SlSorted.Search
import Derived.Shelf.SlMaps.Clone
import Derived.Shelf.SlMaps.DeleteFunc
import Derived.Ground.SlsoProg
import Derived.Shelf.Spec.SlicesGrow
import Derived.Ground.Names8Prog
import Derived.Ground.SlmcProg
import Derived.Ground.SlmdProg
import Derived.Test.YtaldfbmjmpkmmaaGreatProg
namespace Go.Proofs.YtaldfbmjmpkmmaaGreat.PL
open Go.RowKit Go.Proofs.YtaldfbmjmpkmmaaGreatW.PrintWords Go.Proofs.YtaldfbmjmpkmmaaGreatW.PrintLast Go.Proofs.YtaldfbmjmpkmmaaGreatW.PrintMore
set_option linter.unusedVariables false
set_option linter.unusedSimpArgs false
/-- What a function value does at the elements of a list, in whatever world that has come of w. -/
def TellsG {α : Type} (w : World) (g : Nat) (cap : Array Value) (enc : α → Value) (xs : List α) (p : α → Bool) : Prop :=
 ∀ W : World, Below w.heap.size w W → ∀ x, x ∈ xs → Calls Tryz.prog g (#[enc x] ++ cap) W fun e W' => e = .returned (.bool (p x)) ∧ Below W.heap.size W W'
def firstG {α : Type} (p : α → Bool) : List α → Int → Int
 | [], _ => -1
 | x :: r, i => if p x then i else firstG p r (i + 1)
theorem firstG_ge {α : Type} (p : α → Bool) : ∀ (l : List α) (i : Int), 0 ≤ i → (0 ≤ firstG p l i ↔ l.any p = true)
 | [], i, h => by simp [firstG]
 | x :: r, i, h => by
  unfold firstG
  rw [List.any_cons]
  cases hp : p x
  ·simp only [Bool.false_or, Bool.false_eq_true, if_false]
   exact firstG_ge p r (i + 1) (by omega)
  ·simp [h]
theorem strK_open {w : World} {x : ByteArray} {cs : List Value} (h : Kd.string.K w x cs) : cs = [.string x] := h
set_option maxRecDepth 100000 in
set_option maxHeartbeats 2000000 in
theorem index_wrW (w : World) (A : Option Addr) (c : Nat) (xs : List Wr) (c1 : Value) (p : Wr → Bool) (hr : Kd.C k57 w A xs.length xs) (hp : TellsG w 114 #[c1] (fun x : Wr => .agg #[.string x.f0, .string x.f1, .bool x.f2]) xs p) :
 Calls Tryz.prog 109 #[.slice A xs.length c, .func (.func 114) #[] #[c1]] w fun e w' => e = .returned (.int .i64 (firstG p xs 0)) ∧ Below w.heap.size w w' := by
 have HR := Aside0.mk hr
 have HP := Aside0.mk hp
 have hmax := Kd.C_max hr
 clear hr hp
 go_enter Tryz.func109, Tryz.ntmps109
 go_wp2
 go_loopw [8] (fun i wr => ∃ k : Nat, k ≤ xs.length ∧ i = .int .i64 k ∧ Aside0 (firstG p xs 0 = firstG p (xs.drop k) k) ∧ Aside0 (Below w.heap.size w wr))
  (fun i _ => xs.length - (intOf i).toNat)
 case atStart => exact ⟨0, Nat.zero_le _, rfl, ⟨rfl⟩, ⟨Below.refl _ _⟩⟩
 case round =>
  obtain ⟨k, hk, rfl, HF, HB⟩ := hrel
  by_cases hlt : k < xs.length
  ·obtain ⟨ad, cs, rfl, hlen, hK, hc0⟩ := Kd.C_get (Kd.C_below HR.out HB.out) (⟨⟨#[]⟩, ⟨#[]⟩, false⟩ : Wr) (k : Int) (by omega) (by omega)
   rw [Int.toNat_natCast] at hK hc0
   have hc : ∀ j u, cs[j]? = some u → wr.cell? (ad.add (k * 3 + j)) = some u := hc0
   obtain rfl := k57_open hK
   have hc0' : wr.cell? (ad.add (k * 3)) = some (.string (xs.getD k (⟨⟨#[]⟩, ⟨#[]⟩, false⟩ : Wr)).f0) := hc 0 _ rfl
   have hc1 : wr.cell? ⟨(ad.add (k * 3)).block, (ad.add (k * 3)).off + 1, none⟩ = some (.string (xs.getD k (⟨⟨#[]⟩, ⟨#[]⟩, false⟩ : Wr)).f1) := by rw [← add_field _ _ 1 (by omega)]; exact hc 1 _ rfl
   have hc2 : wr.cell? ⟨(ad.add (k * 3)).block, (ad.add (k * 3)).off + 2, none⟩ = some (.bool (xs.getD k (⟨⟨#[]⟩, ⟨#[]⟩, false⟩ : Wr)).f2) := by rw [← add_field _ _ 2 (by omega)]; exact hc 2 _ rfl
   have hmem : xs.getD k (⟨⟨#[]⟩, ⟨#[]⟩, false⟩ : Wr) ∈ xs := by simp [List.getElem?_eq_getElem hlt]
   have hdrop : xs.drop k = xs.getD k (⟨⟨#[]⟩, ⟨#[]⟩, false⟩ : Wr) :: xs.drop (k + 1) := by
    rw [List.drop_eq_getElem_cons hlt]; simp [List.getElem?_eq_getElem hlt]
   have HF2 := HF.out
   rw [hdrop] at HF2
   generalize hx : xs.getD k (⟨⟨#[]⟩, ⟨#[]⟩, false⟩ : Wr) = x at *
   have HM := Aside0.mk hmem
   have HF3 := Aside0.mk HF2
   clear hmem hdrop hx HF2 HF hK hc0 hc hlen
   have hcall := HP.out wr HB.out x HM.out
   cases hpx : p x with
   | true =>
    have HV : Aside0 (firstG p xs 0 = (k : Int)) := ⟨by rw [HF3.out]; unfold firstG; rw [hpx]; rfl⟩
    rw [hpx] at hcall
    clear hpx
    go_wp2_with fail
    refine hcall.mono ?_
    rintro e w1 ⟨rfl, hb1⟩
    have HB1 : Aside0 (Below w.heap.size w w1) := ⟨HB.out.trans (hb1.mono HB.out.size)⟩
    clear hb1 hcall
    go_wp2_with fail
    go_ret
    exact ⟨by rw [HV.out]; rfl, HB1.out⟩
   | false =>
    have HV : Aside0 (firstG p xs 0 = firstG p (xs.drop (k + 1)) ((k + 1 : Nat) : Int)) := ⟨by
     rw [HF3.out]
     show (if p x = true then (k : Int) else firstG p (xs.drop (k + 1)) ((k : Int) + 1)) = _
     rw [hpx]; simp⟩
    rw [hpx] at hcall
    clear hpx
    go_wp2_with fail
    refine hcall.mono ?_
    rintro e w1 ⟨rfl, hb1⟩
    have HB1 : Aside0 (Below w.heap.size w w1) := ⟨HB.out.trans (hb1.mono HB.out.size)⟩
    clear hb1 hcall
    go_wp2_with fail
    go_roundw
    case rel => exact ⟨k + 1, by omega, by go_num, HV, HB1⟩
    case measure => simp [intOf]; omega
  ·obtain rfl : k = xs.length := by omega
   have HV : Aside0 (firstG p xs 0 = -1) := ⟨by rw [HF.out, List.drop_of_length_le (Nat.le_refl _)]; rfl⟩
   go_wp2
   go_ret
   exact ⟨by rw [HV.out]; rfl, HB.out⟩
set_option maxRecDepth 100000 in
theorem contains_wrW (w : World) (A : Option Addr) (c : Nat) (xs : List Wr) (c1 : Value) (p : Wr → Bool) (hr : Kd.C k57 w A xs.length xs) (hp : TellsG w 114 #[c1] (fun x : Wr => .agg #[.string x.f0, .string x.f1, .bool x.f2]) xs p) :
 Calls Tryz.prog 75 #[.slice A xs.length c, .func (.func 114) #[] #[c1]] w fun e w' => e = .returned (.bool (xs.any p)) ∧ Below w.heap.size w w' := by
 have hc := index_wrW w A c xs c1 p hr hp
 have hge := firstG_ge p xs 0 (by omega)
 have hval : decide (firstG p xs 0 ≥ 0) = xs.any p := by
  rw [Bool.eq_iff_iff, decide_eq_true_iff]
  exact hge
 generalize firstG p xs 0 = n at hc hval
 have HC := Aside0.mk hc
 have HV := Aside0.mk hval
 clear hc hge hval hr hp
 go_enter Tryz.func75, Tryz.ntmps75
 go_wp2_with fail
 refine HC.out.mono ?_
 rintro e w1 ⟨rfl, hb1⟩
 have HB := Aside0.mk hb1
 clear hb1
 go_wp2_with fail
 go_ret
 exact ⟨by rw [← HV.out]; rfl, HB.out⟩
set_option maxRecDepth 100000 in
set_option maxHeartbeats 2000000 in
theorem index_wrP (w : World) (A : Option Addr) (c : Nat) (xs : List Wr) (c1 : Value) (p : Wr → Bool) (hr : Kd.C k57 w A xs.length xs) (hp : TellsG w 76 #[c1] (fun x : Wr => .agg #[.string x.f0, .string x.f1, .bool x.f2]) xs p) :
 Calls Tryz.prog 109 #[.slice A xs.length c, .func (.func 76) #[] #[c1]] w fun e w' => e = .returned (.int .i64 (firstG p xs 0)) ∧ Below w.heap.size w w' := by
 have HR := Aside0.mk hr
 have HP := Aside0.mk hp
 have hmax := Kd.C_max hr
 clear hr hp
 go_enter Tryz.func109, Tryz.ntmps109
 go_wp2
 go_loopw [8] (fun i wr => ∃ k : Nat, k ≤ xs.length ∧ i = .int .i64 k ∧ Aside0 (firstG p xs 0 = firstG p (xs.drop k) k) ∧ Aside0 (Below w.heap.size w wr))
  (fun i _ => xs.length - (intOf i).toNat)
 case atStart => exact ⟨0, Nat.zero_le _, rfl, ⟨rfl⟩, ⟨Below.refl _ _⟩⟩
 case round =>
  obtain ⟨k, hk, rfl, HF, HB⟩ := hrel
  by_cases hlt : k < xs.length
  ·obtain ⟨ad, cs, rfl, hlen, hK, hc0⟩ := Kd.C_get (Kd.C_below HR.out HB.out) (⟨⟨#[]⟩, ⟨#[]⟩, false⟩ : Wr) (k : Int) (by omega) (by omega)
   rw [Int.toNat_natCast] at hK hc0
   have hc : ∀ j u, cs[j]? = some u → wr.cell? (ad.add (k * 3 + j)) = some u := hc0
   obtain rfl := k57_open hK
   have hc0' : wr.cell? (ad.add (k * 3)) = some (.string (xs.getD k (⟨⟨#[]⟩, ⟨#[]⟩, false⟩ : Wr)).f0) := hc 0 _ rfl
   have hc1 : wr.cell? ⟨(ad.add (k * 3)).block, (ad.add (k * 3)).off + 1, none⟩ = some (.string (xs.getD k (⟨⟨#[]⟩, ⟨#[]⟩, false⟩ : Wr)).f1) := by rw [← add_field _ _ 1 (by omega)]; exact hc 1 _ rfl
   have hc2 : wr.cell? ⟨(ad.add (k * 3)).block, (ad.add (k * 3)).off + 2, none⟩ = some (.bool (xs.getD k (⟨⟨#[]⟩, ⟨#[]⟩, false⟩ : Wr)).f2) := by rw [← add_field _ _ 2 (by omega)]; exact hc 2 _ rfl
   have hmem : xs.getD k (⟨⟨#[]⟩, ⟨#[]⟩, false⟩ : Wr) ∈ xs := by simp [List.getElem?_eq_getElem hlt]
   have hdrop : xs.drop k = xs.getD k (⟨⟨#[]⟩, ⟨#[]⟩, false⟩ : Wr) :: xs.drop (k + 1) := by
    rw [List.drop_eq_getElem_cons hlt]; simp [List.getElem?_eq_getElem hlt]
   have HF2 := HF.out
   rw [hdrop] at HF2
   generalize hx : xs.getD k (⟨⟨#[]⟩, ⟨#[]⟩, false⟩ : Wr) = x at *
   have HM := Aside0.mk hmem
   have HF3 := Aside0.mk HF2
   clear hmem hdrop hx HF2 HF hK hc0 hc hlen
   have hcall := HP.out wr HB.out x HM.out
   cases hpx : p x with
   | true =>
    have HV : Aside0 (firstG p xs 0 = (k : Int)) := ⟨by rw [HF3.out]; unfold firstG; rw [hpx]; rfl⟩
    rw [hpx] at hcall
    clear hpx
    go_wp2_with fail
    refine hcall.mono ?_
    rintro e w1 ⟨rfl, hb1⟩
    have HB1 : Aside0 (Below w.heap.size w w1) := ⟨HB.out.trans (hb1.mono HB.out.size)⟩
    clear hb1 hcall
    go_wp2_with fail
    go_ret
    exact ⟨by rw [HV.out]; rfl, HB1.out⟩
   | false =>
    have HV : Aside0 (firstG p xs 0 = firstG p (xs.drop (k + 1)) ((k + 1 : Nat) : Int)) := ⟨by
     rw [HF3.out]
     show (if p x = true then (k : Int) else firstG p (xs.drop (k + 1)) ((k : Int) + 1)) = _
     rw [hpx]; simp⟩
    rw [hpx] at hcall
    clear hpx
    go_wp2_with fail
    refine hcall.mono ?_
    rintro e w1 ⟨rfl, hb1⟩
    have HB1 : Aside0 (Below w.heap.size w w1) := ⟨HB.out.trans (hb1.mono HB.out.size)⟩
    clear hb1 hcall
    go_wp2_with fail
    go_roundw
    case rel => exact ⟨k + 1, by omega, by go_num, HV, HB1⟩
    case measure => simp [intOf]; omega
  ·obtain rfl : k = xs.length := by omega
   have HV : Aside0 (firstG p xs 0 = -1) := ⟨by rw [HF.out, List.drop_of_length_le (Nat.le_refl _)]; rfl⟩
   go_wp2
   go_ret
   exact ⟨by rw [HV.out]; rfl, HB.out⟩
set_option maxRecDepth 100000 in
theorem contains_wrP (w : World) (A : Option Addr) (c : Nat) (xs : List Wr) (c1 : Value) (p : Wr → Bool) (hr : Kd.C k57 w A xs.length xs) (hp : TellsG w 76 #[c1] (fun x : Wr => .agg #[.string x.f0, .string x.f1, .bool x.f2]) xs p) :
 Calls Tryz.prog 75 #[.slice A xs.length c, .func (.func 76) #[] #[c1]] w fun e w' => e = .returned (.bool (xs.any p)) ∧ Below w.heap.size w w' := by
 have hc := index_wrP w A c xs c1 p hr hp
 have hge := firstG_ge p xs 0 (by omega)
 have hval : decide (firstG p xs 0 ≥ 0) = xs.any p := by
  rw [Bool.eq_iff_iff, decide_eq_true_iff]
  exact hge
 generalize firstG p xs 0 = n at hc hval
 have HC := Aside0.mk hc
 have HV := Aside0.mk hval
 clear hc hge hval hr hp
 go_enter Tryz.func75, Tryz.ntmps75
 go_wp2_with fail
 refine HC.out.mono ?_
 rintro e w1 ⟨rfl, hb1⟩
 have HB := Aside0.mk hb1
 clear hb1
 go_wp2_with fail
 go_ret
 exact ⟨by rw [← HV.out]; rfl, HB.out⟩
set_option maxRecDepth 100000 in
set_option maxHeartbeats 2000000 in
theorem index_wrR (w : World) (A : Option Addr) (c : Nat) (xs : List Wr) (c1 c2 : Value) (p : Wr → Bool) (hr : Kd.C k57 w A xs.length xs) (hp : TellsG w 80 #[c1, c2] (fun x : Wr => .agg #[.string x.f0, .string x.f1, .bool x.f2]) xs p) :
 Calls Tryz.prog 109 #[.slice A xs.length c, .func (.func 80) #[] #[c1, c2]] w fun e w' => e = .returned (.int .i64 (firstG p xs 0)) ∧ Below w.heap.size w w' := by
 have HR := Aside0.mk hr
 have HP := Aside0.mk hp
 have hmax := Kd.C_max hr
 clear hr hp
 go_enter Tryz.func109, Tryz.ntmps109
 go_wp2
 go_loopw [8] (fun i wr => ∃ k : Nat, k ≤ xs.length ∧ i = .int .i64 k ∧ Aside0 (firstG p xs 0 = firstG p (xs.drop k) k) ∧ Aside0 (Below w.heap.size w wr))
  (fun i _ => xs.length - (intOf i).toNat)
 case atStart => exact ⟨0, Nat.zero_le _, rfl, ⟨rfl⟩, ⟨Below.refl _ _⟩⟩
 case round =>
  obtain ⟨k, hk, rfl, HF, HB⟩ := hrel
  by_cases hlt : k < xs.length
  ·obtain ⟨ad, cs, rfl, hlen, hK, hc0⟩ := Kd.C_get (Kd.C_below HR.out HB.out) (⟨⟨#[]⟩, ⟨#[]⟩, false⟩ : Wr) (k : Int) (by omega) (by omega)
   rw [Int.toNat_natCast] at hK hc0
   have hc : ∀ j u, cs[j]? = some u → wr.cell? (ad.add (k * 3 + j)) = some u := hc0
   obtain rfl := k57_open hK
   have hc0' : wr.cell? (ad.add (k * 3)) = some (.string (xs.getD k (⟨⟨#[]⟩, ⟨#[]⟩, false⟩ : Wr)).f0) := hc 0 _ rfl
   have hc1 : wr.cell? ⟨(ad.add (k * 3)).block, (ad.add (k * 3)).off + 1, none⟩ = some (.string (xs.getD k (⟨⟨#[]⟩, ⟨#[]⟩, false⟩ : Wr)).f1) := by rw [← add_field _ _ 1 (by omega)]; exact hc 1 _ rfl
   have hc2 : wr.cell? ⟨(ad.add (k * 3)).block, (ad.add (k * 3)).off + 2, none⟩ = some (.bool (xs.getD k (⟨⟨#[]⟩, ⟨#[]⟩, false⟩ : Wr)).f2) := by rw [← add_field _ _ 2 (by omega)]; exact hc 2 _ rfl
   have hmem : xs.getD k (⟨⟨#[]⟩, ⟨#[]⟩, false⟩ : Wr) ∈ xs := by simp [List.getElem?_eq_getElem hlt]
   have hdrop : xs.drop k = xs.getD k (⟨⟨#[]⟩, ⟨#[]⟩, false⟩ : Wr) :: xs.drop (k + 1) := by
    rw [List.drop_eq_getElem_cons hlt]; simp [List.getElem?_eq_getElem hlt]
   have HF2 := HF.out
   rw [hdrop] at HF2
   generalize hx : xs.getD k (⟨⟨#[]⟩, ⟨#[]⟩, false⟩ : Wr) = x at *
   have HM := Aside0.mk hmem
   have HF3 := Aside0.mk HF2
   clear hmem hdrop hx HF2 HF hK hc0 hc hlen
   have hcall := HP.out wr HB.out x HM.out
   cases hpx : p x with
   | true =>
    have HV : Aside0 (firstG p xs 0 = (k : Int)) := ⟨by rw [HF3.out]; unfold firstG; rw [hpx]; rfl⟩
    rw [hpx] at hcall
    clear hpx
    go_wp2_with fail
    refine hcall.mono ?_
    rintro e w1 ⟨rfl, hb1⟩
    have HB1 : Aside0 (Below w.heap.size w w1) := ⟨HB.out.trans (hb1.mono HB.out.size)⟩
    clear hb1 hcall
    go_wp2_with fail
    go_ret
    exact ⟨by rw [HV.out]; rfl, HB1.out⟩
   | false =>
    have HV : Aside0 (firstG p xs 0 = firstG p (xs.drop (k + 1)) ((k + 1 : Nat) : Int)) := ⟨by
     rw [HF3.out]
     show (if p x = true then (k : Int) else firstG p (xs.drop (k + 1)) ((k : Int) + 1)) = _
     rw [hpx]; simp⟩
    rw [hpx] at hcall
    clear hpx
    go_wp2_with fail
    refine hcall.mono ?_
    rintro e w1 ⟨rfl, hb1⟩
    have HB1 : Aside0 (Below w.heap.size w w1) := ⟨HB.out.trans (hb1.mono HB.out.size)⟩
    clear hb1 hcall
    go_wp2_with fail
    go_roundw
    case rel => exact ⟨k + 1, by omega, by go_num, HV, HB1⟩
    case measure => simp [intOf]; omega
  ·obtain rfl : k = xs.length := by omega
   have HV : Aside0 (firstG p xs 0 = -1) := ⟨by rw [HF.out, List.drop_of_length_le (Nat.le_refl _)]; rfl⟩
   go_wp2
   go_ret
   exact ⟨by rw [HV.out]; rfl, HB.out⟩
set_option maxRecDepth 100000 in
theorem contains_wrR (w : World) (A : Option Addr) (c : Nat) (xs : List Wr) (c1 c2 : Value) (p : Wr → Bool) (hr : Kd.C k57 w A xs.length xs) (hp : TellsG w 80 #[c1, c2] (fun x : Wr => .agg #[.string x.f0, .string x.f1, .bool x.f2]) xs p) :
 Calls Tryz.prog 75 #[.slice A xs.length c, .func (.func 80) #[] #[c1, c2]] w fun e w' => e = .returned (.bool (xs.any p)) ∧ Below w.heap.size w w' := by
 have hc := index_wrR w A c xs c1 c2 p hr hp
 have hge := firstG_ge p xs 0 (by omega)
 have hval : decide (firstG p xs 0 ≥ 0) = xs.any p := by
  rw [Bool.eq_iff_iff, decide_eq_true_iff]
  exact hge
 generalize firstG p xs 0 = n at hc hval
 have HC := Aside0.mk hc
 have HV := Aside0.mk hval
 clear hc hge hval hr hp
 go_enter Tryz.func75, Tryz.ntmps75
 go_wp2_with fail
 refine HC.out.mono ?_
 rintro e w1 ⟨rfl, hb1⟩
 have HB := Aside0.mk hb1
 clear hb1
 go_wp2_with fail
 go_ret
 exact ⟨by rw [← HV.out]; rfl, HB.out⟩
set_option maxRecDepth 100000 in
set_option maxHeartbeats 2000000 in
theorem index_strP (w : World) (A : Option Addr) (c : Nat) (xs : List ByteArray) (c1 : Value) (p : ByteArray → Bool) (hr : Kd.C Kd.string w A xs.length xs) (hp : TellsG w 74 #[c1] (fun x : ByteArray => .string x) xs p) :
 Calls Tryz.prog 108 #[.slice A xs.length c, .func (.func 74) #[] #[c1]] w fun e w' => e = .returned (.int .i64 (firstG p xs 0)) ∧ Below w.heap.size w w' := by
 have HR := Aside0.mk hr
 have HP := Aside0.mk hp
 have hmax := Kd.C_max hr
 clear hr hp
 go_enter Tryz.func108, Tryz.ntmps108
 go_wp2
 go_loopw [8] (fun i wr => ∃ k : Nat, k ≤ xs.length ∧ i = .int .i64 k ∧ Aside0 (firstG p xs 0 = firstG p (xs.drop k) k) ∧ Aside0 (Below w.heap.size w wr))
  (fun i _ => xs.length - (intOf i).toNat)
 case atStart => exact ⟨0, Nat.zero_le _, rfl, ⟨rfl⟩, ⟨Below.refl _ _⟩⟩
 case round =>
  obtain ⟨k, hk, rfl, HF, HB⟩ := hrel
  by_cases hlt : k < xs.length
  ·obtain ⟨ad, cs, rfl, hlen, hK, hc0⟩ := Kd.C_get (Kd.C_below HR.out HB.out) (⟨#[]⟩ : ByteArray) (k : Int) (by omega) (by omega)
   rw [Int.toNat_natCast] at hK hc0
   have hc : ∀ j u, cs[j]? = some u → wr.cell? (ad.add (k * 1 + j)) = some u := hc0
   obtain rfl := strK_open hK
   have hc0' : wr.cell? (ad.add k) = some (.string (xs.getD k (⟨#[]⟩ : ByteArray))) := by have := hc 0 _ rfl; simpa using this
   have hmem : xs.getD k (⟨#[]⟩ : ByteArray) ∈ xs := by simp [List.getElem?_eq_getElem hlt]
   have hdrop : xs.drop k = xs.getD k (⟨#[]⟩ : ByteArray) :: xs.drop (k + 1) := by
    rw [List.drop_eq_getElem_cons hlt]; simp [List.getElem?_eq_getElem hlt]
   have HF2 := HF.out
   rw [hdrop] at HF2
   generalize hx : xs.getD k (⟨#[]⟩ : ByteArray) = x at *
   have HM := Aside0.mk hmem
   have HF3 := Aside0.mk HF2
   clear hmem hdrop hx HF2 HF hK hc0 hc hlen
   have hcall := HP.out wr HB.out x HM.out
   cases hpx : p x with
   | true =>
    have HV : Aside0 (firstG p xs 0 = (k : Int)) := ⟨by rw [HF3.out]; unfold firstG; rw [hpx]; rfl⟩
    rw [hpx] at hcall
    clear hpx
    go_wp2_with fail
    refine hcall.mono ?_
    rintro e w1 ⟨rfl, hb1⟩
    have HB1 : Aside0 (Below w.heap.size w w1) := ⟨HB.out.trans (hb1.mono HB.out.size)⟩
    clear hb1 hcall
    go_wp2_with fail
    go_ret
    exact ⟨by rw [HV.out]; rfl, HB1.out⟩
   | false =>
    have HV : Aside0 (firstG p xs 0 = firstG p (xs.drop (k + 1)) ((k + 1 : Nat) : Int)) := ⟨by
     rw [HF3.out]
     show (if p x = true then (k : Int) else firstG p (xs.drop (k + 1)) ((k : Int) + 1)) = _
     rw [hpx]; simp⟩
    rw [hpx] at hcall
    clear hpx
    go_wp2_with fail
    refine hcall.mono ?_
    rintro e w1 ⟨rfl, hb1⟩
    have HB1 : Aside0 (Below w.heap.size w w1) := ⟨HB.out.trans (hb1.mono HB.out.size)⟩
    clear hb1 hcall
    go_wp2_with fail
    go_roundw
    case rel => exact ⟨k + 1, by omega, by go_num, HV, HB1⟩
    case measure => simp [intOf]; omega
  ·obtain rfl : k = xs.length := by omega
   have HV : Aside0 (firstG p xs 0 = -1) := ⟨by rw [HF.out, List.drop_of_length_le (Nat.le_refl _)]; rfl⟩
   go_wp2
   go_ret
   exact ⟨by rw [HV.out]; rfl, HB.out⟩
set_option maxRecDepth 100000 in
theorem contains_strP (w : World) (A : Option Addr) (c : Nat) (xs : List ByteArray) (c1 : Value) (p : ByteArray → Bool) (hr : Kd.C Kd.string w A xs.length xs) (hp : TellsG w 74 #[c1] (fun x : ByteArray => .string x) xs p) :
 Calls Tryz.prog 73 #[.slice A xs.length c, .func (.func 74) #[] #[c1]] w fun e w' => e = .returned (.bool (xs.any p)) ∧ Below w.heap.size w w' := by
 have hc := index_strP w A c xs c1 p hr hp
 have hge := firstG_ge p xs 0 (by omega)
 have hval : decide (firstG p xs 0 ≥ 0) = xs.any p := by
  rw [Bool.eq_iff_iff, decide_eq_true_iff]
  exact hge
 generalize firstG p xs 0 = n at hc hval
 have HC := Aside0.mk hc
 have HV := Aside0.mk hval
 clear hc hge hval hr hp
 go_enter Tryz.func73, Tryz.ntmps73
 go_wp2_with fail
 refine HC.out.mono ?_
 rintro e w1 ⟨rfl, hb1⟩
 have HB := Aside0.mk hb1
 clear hb1
 go_wp2_with fail
 go_ret
 exact ⟨by rw [← HV.out]; rfl, HB.out⟩
set_option maxRecDepth 100000 in
set_option maxHeartbeats 2000000 in
theorem index_endS (w : World) (A : Option Addr) (c : Nat) (xs : List (Int × Int)) (c1 : Value) (p : (Int × Int) → Bool) (hr : Kd.C kEnd w A xs.length xs) (hp : TellsG w 64 #[c1] (fun x : (Int × Int) => .agg #[.int .i64 x.1, .int .i64 x.2]) xs p) :
 Calls Tryz.prog 63 #[.slice A xs.length c, .func (.func 64) #[] #[c1]] w fun e w' => e = .returned (.int .i64 (firstG p xs 0)) ∧ Below w.heap.size w w' := by
 have HR := Aside0.mk hr
 have HP := Aside0.mk hp
 have hmax := Kd.C_max hr
 clear hr hp
 go_enter Tryz.func63, Tryz.ntmps63
 go_wp2
 go_loopw [8] (fun i wr => ∃ k : Nat, k ≤ xs.length ∧ i = .int .i64 k ∧ Aside0 (firstG p xs 0 = firstG p (xs.drop k) k) ∧ Aside0 (Below w.heap.size w wr))
  (fun i _ => xs.length - (intOf i).toNat)
 case atStart => exact ⟨0, Nat.zero_le _, rfl, ⟨rfl⟩, ⟨Below.refl _ _⟩⟩
 case round =>
  obtain ⟨k, hk, rfl, HF, HB⟩ := hrel
  by_cases hlt : k < xs.length
  ·obtain ⟨ad, cs, rfl, hlen, hK, hc0⟩ := Kd.C_get (Kd.C_below HR.out HB.out) ((0, 0) : Int × Int) (k : Int) (by omega) (by omega)
   rw [Int.toNat_natCast] at hK hc0
   have hc : ∀ j u, cs[j]? = some u → wr.cell? (ad.add (k * 2 + j)) = some u := hc0
   obtain rfl := kEnd_open hK
   have hc0' : wr.cell? (ad.add (k * 2)) = some (.int .i64 (xs.getD k ((0, 0) : Int × Int)).1) := hc 0 _ rfl
   have hc1 : wr.cell? ⟨(ad.add (k * 2)).block, (ad.add (k * 2)).off + 1, none⟩ = some (.int .i64 (xs.getD k ((0, 0) : Int × Int)).2) := by rw [← add_field _ _ 1 (by omega)]; exact hc 1 _ rfl
   have hmem : xs.getD k ((0, 0) : Int × Int) ∈ xs := by simp [List.getElem?_eq_getElem hlt]
   have hdrop : xs.drop k = xs.getD k ((0, 0) : Int × Int) :: xs.drop (k + 1) := by
    rw [List.drop_eq_getElem_cons hlt]; simp [List.getElem?_eq_getElem hlt]
   have HF2 := HF.out
   rw [hdrop] at HF2
   generalize hx : xs.getD k ((0, 0) : Int × Int) = x at *
   have HM := Aside0.mk hmem
   have HF3 := Aside0.mk HF2
   clear hmem hdrop hx HF2 HF hK hc0 hc hlen
   have hcall := HP.out wr HB.out x HM.out
   cases hpx : p x with
   | true =>
    have HV : Aside0 (firstG p xs 0 = (k : Int)) := ⟨by rw [HF3.out]; unfold firstG; rw [hpx]; rfl⟩
    rw [hpx] at hcall
    clear hpx
    go_wp2_with fail
    refine hcall.mono ?_
    rintro e w1 ⟨rfl, hb1⟩
    have HB1 : Aside0 (Below w.heap.size w w1) := ⟨HB.out.trans (hb1.mono HB.out.size)⟩
    clear hb1 hcall
    go_wp2_with fail
    go_ret
    exact ⟨by rw [HV.out]; rfl, HB1.out⟩
   | false =>
    have HV : Aside0 (firstG p xs 0 = firstG p (xs.drop (k + 1)) ((k + 1 : Nat) : Int)) := ⟨by
     rw [HF3.out]
     show (if p x = true then (k : Int) else firstG p (xs.drop (k + 1)) ((k : Int) + 1)) = _
     rw [hpx]; simp⟩
    rw [hpx] at hcall
    clear hpx
    go_wp2_with fail
    refine hcall.mono ?_
    rintro e w1 ⟨rfl, hb1⟩
    have HB1 : Aside0 (Below w.heap.size w w1) := ⟨HB.out.trans (hb1.mono HB.out.size)⟩
    clear hb1 hcall
    go_wp2_with fail
    go_roundw
    case rel => exact ⟨k + 1, by omega, by go_num, HV, HB1⟩
    case measure => simp [intOf]; omega
  ·obtain rfl : k = xs.length := by omega
   have HV : Aside0 (firstG p xs 0 = -1) := ⟨by rw [HF.out, List.drop_of_length_le (Nat.le_refl _)]; rfl⟩
   go_wp2
   go_ret
   exact ⟨by rw [HV.out]; rfl, HB.out⟩
end Go.Proofs.YtaldfbmjmpkmmaaGreat.PL
namespace Go.Proofs
open Go.Shelf
def Tryz.search_ren : Go.Shelf.Ren := ⟨fun | 16 => 116 | n => n, fun | 3 => 3 | 35 => 118 | 4 => 4 | 38 => 139 | n => n, fun | n => n⟩
theorem Tryz.search : Go.Proofs.SlLaysO.n16 Tryz.prog Tryz.search_ren := {
 mixed := by kernel_rfl
 f16 := Tryz.func116.trans (congrArg some (by kernel_rfl))
 t3 := Tryz.underlying3
 a3 := Tryz.isAgg3
 z3 := Tryz.sizeOf3
 v3 := Tryz.zeroValue3
 t4 := Tryz.underlying4
 a4 := Tryz.isAgg4
 z4 := Tryz.sizeOf4
 v4 := Tryz.zeroValue4
 t35 := Tryz.underlying118
 a35 := Tryz.isAgg118
 z35 := Tryz.sizeOf118
 v35 := Tryz.zeroValue118
 t38 := Tryz.underlying139
 a38 := Tryz.isAgg139
 z38 := Tryz.sizeOf139
 v38 := Tryz.zeroValue139 }
def Tryz.cloneK_ren : Go.Shelf.Ren := ⟨fun | 5 => 42 | 7 => 89 | n => n, fun | 23 => 65 | 25 => 9 | 3 => 74 | 4 => 4 | 20 => 20 | n => n, fun | n => n⟩

def Tryz.cloneP_ren : Go.Shelf.Ren := ⟨fun | 5 => 43 | 7 => 89 | n => n, fun | 23 => 66 | 25 => 3 | 3 => 26 | 4 => 4 | 20 => 20 | n => n, fun | n => n⟩

def Tryz.delK_ren : Go.Shelf.Ren := ⟨fun | 5 => 78 | n => n, fun | 23 => 65 | 26 => 9 | 24 => 74 | 27 => 114 | 0 => 0 | 4 => 4 | n => n, fun | n => n⟩
theorem Tryz.delK : Go.Proofs.SlLaysDf.n5 Tryz.prog Tryz.delK_ren := {
 mixed := by kernel_rfl
 f5 := ⟨Tryz.f78.name, by decide, Tryz.func78.trans (congrArg some (by kernel_rfl))⟩
 t0 := Tryz.underlying0
 a0 := Tryz.isAgg0
 z0 := Tryz.sizeOf0
 v0 := Tryz.zeroValue0
 t4 := Tryz.underlying4
 a4 := Tryz.isAgg4
 z4 := Tryz.sizeOf4
 v4 := Tryz.zeroValue4
 t23 := Tryz.underlying65
 a23 := Tryz.isAgg65
 z23 := Tryz.sizeOf65
 v23 := Tryz.zeroValue65
 a24 := Tryz.isAgg74
 z24 := Tryz.sizeOf74
 a26 := Tryz.isAgg9
 z26 := Tryz.sizeOf9
 t27 := Tryz.underlying114
 a27 := Tryz.isAgg114
 z27 := Tryz.sizeOf114
 v27 := Tryz.zeroValue114 }
def Tryz.growV_ren : Go.Shelf.Ren := ⟨fun | 4 => 134 | n => n, fun | 22 => 74 | 25 => 43 | 3 => 3 | 4 => 4 | 9 => 9 | 20 => 20 | 0 => 0 | n => n, fun | n => n⟩
theorem Tryz.growV : Go.Proofs.Lays8.n4 Tryz.prog Tryz.growV_ren := {
 mixed := by kernel_rfl
 f4 := ⟨Tryz.f134.name, by decide, Tryz.func134.trans (congrArg some (by kernel_rfl))⟩
 t0 := Tryz.underlying0
 a0 := Tryz.isAgg0
 z0 := Tryz.sizeOf0
 v0 := Tryz.zeroValue0
 t3 := Tryz.underlying3
 a3 := Tryz.isAgg3
 z3 := Tryz.sizeOf3
 v3 := Tryz.zeroValue3
 t4 := Tryz.underlying4
 a4 := Tryz.isAgg4
 z4 := Tryz.sizeOf4
 v4 := Tryz.zeroValue4
 t9 := Tryz.underlying9
 a9 := Tryz.isAgg9
 z9 := Tryz.sizeOf9
 v9 := Tryz.zeroValue9
 t20 := Tryz.underlying20
 a20 := Tryz.isAgg20
 z20 := Tryz.sizeOf20
 v20 := Tryz.zeroValue20
 t22 := Tryz.underlying74
 a22 := Tryz.isAgg74
 z22 := Tryz.sizeOf74
 v22 := Tryz.zeroValue74 }
end Go.Proofs
