/- The document's shelf, walked: Held. -/
import Derived.Test.YtaldfbmjmpkmmaaGreatHRfD
namespace Go.Proofs.YtaldfbmjmpkmmaaGreat.PL
open Go.RowKit Go.Proofs.YtaldfbmjmpkmmaaGreatW.PrintWords Go.Proofs.YtaldfbmjmpkmmaaGreatW.PrintLast Go.Proofs.YtaldfbmjmpkmmaaGreatW.PrintMore
set_option linter.unusedVariables false
set_option linter.unusedSimpArgs false
set_option linter.unusedSectionVars false
theorem any_no {α : Type} (p : α → Bool) (l : List α) (h0 : ∀ (j : Nat) (hj : j < l.length), p l[j] = false) : l.any p = false := by
 rw [List.any_eq_false]
 intro x hx
 obtain ⟨j, hj, rfl⟩ := List.getElem_of_mem hx
 rw [h0 j hj]
 decide
theorem any_yes {α : Type} (p : α → Bool) (l : List α) (k : Nat) (hk : k < l.length) (h : p l[k] = true) : l.any p = true := List.any_eq_true.2 ⟨l[k], List.getElem_mem hk, h⟩
theorem all_next {α : Type} (p : α → Bool) (l : List α) (k : Nat) (hk : k < l.length) (h0 : ∀ (j : Nat) (hj : j < l.length), j < k → p l[j] = false) (h : p l[k] = false) : ∀ (j : Nat) (hj : j < l.length), j < k + 1 → p l[j] = false := fun j hj hjk => by
 by_cases e : j = k
 ·subst e; exact h
 ·exact h0 j hj (by omega)
set_option maxRecDepth 100000 in
set_option maxHeartbeats 8000000 in
theorem rheld_walk {w : World} {ok : Nat → Prop} {b : Nat} {s : Sh} (h : RfAt w ok b s) (key : ByteArray) (write : Bool) :
 Calls Tryz.prog 60 #[.pointer (some ⟨b, 0, none⟩), .string key, .bool write] w fun e w' => e = .returned (.bool (heldV s (kb key) write)) ∧ Below w.heap.size w w' := by
 obtain ⟨AK, AP, AE, cK, cP, cE, hp⟩ := h
 obtain ⟨-, c1, -, -⟩ := hp.cells
 have HC := Aside0.mk (Kd.F_now hp.fP)
 have hlen := hp.good.few
 have HHV : Aside0 (heldV s (kb key) write = s.P.any (fun r => heldR r (kb key) write)) := ⟨rfl⟩
 clear hp
 generalize heldV s (kb key) write = hv at *
 generalize s.P = P at *
 clear s
 have hkl : key.toList = kb key := kb_toList key
 have HKL := Aside0.mk hkl
 clear hkl
 go_enter Tryz.func60, Tryz.ntmps60
 go_wp2
 go_loopw [7] (fun v wr => ∃ i : Nat, i ≤ P.length ∧ v = .int .i64 (i : Int) ∧ Aside0 (∀ (j : Nat) (hj : j < P.length), j < i → heldR P[j] (kb key) write = false) ∧ wr = w) (fun i _ => P.length - (intOf i).toNat)
 case atStart => exact ⟨0, Nat.zero_le _, rfl, ⟨fun j hj hk => absurd hk (by omega)⟩, by first | rfl | trivial⟩
 case round =>
  obtain ⟨i, hi, rfl, HN, rfl⟩ := hrel
  by_cases hlt : i < P.length
  ·obtain ⟨ad, A7, c7, A8, c8, rfl, -, x7, x8, l7, g7, l8, g8⟩ := rec_at HC.out i hlt
   have HG7 := Aside0.mk g7
   have HG8 := Aside0.mk g8
   have HYES : Aside0 (heldR P[i] (kb key) write = true → hv = true) := ⟨fun h => by rw [HHV.out]; exact any_yes (fun r => heldR r (kb key) write) P i hlt h⟩
   have HNO : Aside0 (heldR P[i] (kb key) write = false → ∀ (j : Nat) (hj : j < P.length), j < i + 1 → heldR P[j] (kb key) write = false) := ⟨fun h => all_next (fun r => heldR r (kb key) write) P i hlt HN.out h⟩
   have HPI : Aside0 (P[i] = P[i]) := ⟨rfl⟩
   have hm7 := Kd.C_max g7
   have hm8 := Kd.C_max g8
   clear g7 g8 l7 l8
   generalize P[i] = r at *
   clear HPI
   go_wp2_with fail
   go_loopw [8] (fun v wz => ∃ k : Nat, k ≤ r.f8.length ∧ v = .int .i64 (k : Int) ∧ Aside0 (∀ (j : Nat) (hj : j < r.f8.length), j < k → (kb r.f8[j].f0 == kb key) = false) ∧ wz = wr) (fun i _ => r.f8.length - (intOf i).toNat)
   case atStart => exact ⟨0, Nat.zero_le _, rfl, ⟨fun j hj hk => absurd hk (by omega)⟩, by first | rfl | trivial⟩
   case round =>
    obtain ⟨k, hk, rfl, HM, rfl⟩ := hrel
    by_cases hlk : k < r.f8.length
    ·obtain ⟨ad2, rfl, z0, -, -⟩ := wrK_at HG8.out k hlk
     have hxl : r.f8[k].f0.toList = kb r.f8[k].f0 := kb_toList _
     cases he : kb r.f8[k].f0 == kb key with
     | true =>
      have hv1 : hv = true := HYES.out (by
       unfold heldR wrote
       rw [any_yes (fun w : Wr => kb w.f0 == kb key) r.f8 k hlk he]
       rfl)
      subst hv1
      have d1 : (r.f8[k].f0.toList == key.toList) = true := by rw [hxl, HKL.out]; exact he
      clear he hxl HYES HNO HHV
      generalize r.f8[k].f0 = x at *
      go_wp2_with fail
      go_ret
      exact ⟨rfl, Below.refl _ _⟩
     | false =>
      have HMN := Aside0.mk (all_next (fun w : Wr => kb w.f0 == kb key) r.f8 k hlk HM.out he)
      have d1 : (r.f8[k].f0.toList == key.toList) = false := by rw [hxl, HKL.out]; exact he
      clear he hxl
      generalize r.f8[k].f0 = x at z0 d1
      go_wp2_with fail
      go_roundw
      case rel => exact ⟨k + 1, by omega, by go_num, HMN, by first | rfl | trivial⟩
      case measure => simp [intOf]; omega
    ·obtain rfl : k = r.f8.length := by omega
     have hwr : wrote r (kb key) = false := any_no (fun w : Wr => kb w.f0 == kb key) r.f8 (fun j hj => HM.out j hj hj)
     have HWR := Aside0.mk hwr
     clear hwr HM
     go_wp2_with fail
     go_loopw [9] (fun v wz => ∃ k : Nat, k ≤ r.f7.length ∧ v = .int .i64 (k : Int) ∧ Aside0 (∀ (j : Nat) (hj : j < r.f7.length), j < k → (kb r.f7[j] == kb key) = false) ∧ wz = wr) (fun i _ => r.f7.length - (intOf i).toNat)
     case atStart => exact ⟨0, Nat.zero_le _, rfl, ⟨fun j hj hk => absurd hk (by omega)⟩, by first | rfl | trivial⟩
     case round =>
      obtain ⟨k, hk, rfl, HM, rfl⟩ := hrel
      cases write with
      | false =>
       have HNN := Aside0.mk (HNO.out (by unfold heldR; rw [HWR.out]; rfl))
       go_wp2_with fail
       go_roundw
       case rel => exact ⟨i + 1, by omega, by go_num, HNN, by first | rfl | trivial⟩
       case measure => simp [intOf]; omega
      | true =>
       by_cases hlk : k < r.f7.length
       ·obtain ⟨ad2, rfl, z0⟩ := strK_at HG7.out k hlk
        have hxl : r.f7[k].toList = kb r.f7[k] := kb_toList _
        cases he : kb r.f7[k] == kb key with
        | true =>
         have hv1 : hv = true := HYES.out (by
          unfold heldR watches
          rw [any_yes (fun q : ByteArray => kb q == kb key) r.f7 k hlk he]
          simp)
         subst hv1
         have d1 : (r.f7[k].toList == key.toList) = true := by rw [hxl, HKL.out]; exact he
         clear he hxl HYES HNO HHV
         generalize r.f7[k] = x at *
         go_wp2_with fail
         go_ret
         exact ⟨rfl, Below.refl _ _⟩
        | false =>
         have HMN := Aside0.mk (all_next (fun q : ByteArray => kb q == kb key) r.f7 k hlk HM.out he)
         have d1 : (r.f7[k].toList == key.toList) = false := by rw [hxl, HKL.out]; exact he
         clear he hxl
         generalize r.f7[k] = x at z0 d1
         go_wp2_with fail
         go_roundw
         case rel => exact ⟨k + 1, by omega, by go_num, HMN, by first | rfl | trivial⟩
         case measure => simp [intOf]; omega
       ·obtain rfl : k = r.f7.length := by omega
        have hwt : watches r (kb key) = false := any_no (fun q : ByteArray => kb q == kb key) r.f7 (fun j hj => HM.out j hj hj)
        have HNN := Aside0.mk (HNO.out (by unfold heldR; rw [HWR.out, hwt]; rfl))
        clear hwt
        go_wp2_with fail
        go_roundw
        case rel => exact ⟨i + 1, by omega, by go_num, HNN, by first | rfl | trivial⟩
        case measure => simp [intOf]; omega
  ·obtain rfl : i = P.length := by omega
   have hv0 : hv = false := by rw [HHV.out]; exact any_no (fun r => heldR r (kb key) write) P (fun j hj => HN.out j hj hj)
   subst hv0
   go_wp2_with fail
   go_ret
   exact ⟨rfl, Below.refl _ _⟩
end Go.Proofs.YtaldfbmjmpkmmaaGreat.PL
