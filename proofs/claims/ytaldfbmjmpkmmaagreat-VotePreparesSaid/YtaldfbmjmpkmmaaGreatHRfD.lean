/- The document's shelf, walked: State, Held. -/
import Derived.Test.YtaldfbmjmpkmmaaGreatMd23dbe
namespace Go.Proofs.YtaldfbmjmpkmmaaGreat.PL
open Go.RowKit Go.Proofs.YtaldfbmjmpkmmaaGreatW.PrintWords Go.Proofs.YtaldfbmjmpkmmaaGreatW.PrintLast Go.Proofs.YtaldfbmjmpkmmaaGreatW.PrintMore
set_option linter.unusedVariables false
set_option linter.unusedSimpArgs false
set_option linter.unusedSectionVars false
theorem find_at {α : Type} (p : α → Bool) (l : List α) (k : Nat) (hk : k < l.length) (h0 : ∀ (j : Nat) (hj : j < l.length), j < k → p l[j] = false) (h1 : p l[k] = true) : l.find? p = some l[k] := by
 have e : l = l.take k ++ l[k] :: l.drop (k + 1) := by rw [← List.drop_eq_getElem_cons hk, List.take_append_drop]
 have h2 : (l.take k).find? p = none := by
  rw [List.find?_eq_none]
  intro x hx
  obtain ⟨j, hj, rfl⟩ := List.getElem_of_mem hx
  have hj2 : j < k := by rw [List.length_take] at hj; omega
  rw [List.getElem_take, h0 j (by omega) hj2]
  decide
 conv => lhs; rw [e]
 rw [List.find?_append, h2, List.find?_cons, h1]
 rfl
theorem find_no {α : Type} (p : α → Bool) (l : List α) (h0 : ∀ (j : Nat) (hj : j < l.length), p l[j] = false) : l.find? p = none := by
 rw [List.find?_eq_none]
 intro x hx
 obtain ⟨j, hj, rfl⟩ := List.getElem_of_mem hx
 rw [h0 j hj]
 decide
theorem end_at {w : World} {A : Option Addr} {n : Nat} {E : List (Int × Int)} (h : Kd.C kEnd w A n E) (k : Nat) (hk : k < E.length) : ∃ ad, A = some ad ∧ w.cell? (ad.add (k * 2)) = some (.int .i64 E[k].1) ∧ w.cell? ⟨(ad.add (k * 2)).block, (ad.add (k * 2)).off + 1, none⟩ = some (.int .i64 E[k].2) := by
 have hn : E.length = n := h.1
 obtain ⟨ad, cs, rfl, hlen, hK, hc0⟩ := Kd.C_get h ((0, 0) : Int × Int) (k : Int) (by omega) (by omega)
 rw [Int.toNat_natCast] at hK hc0
 have hget : E.getD k ((0, 0) : Int × Int) = E[k] := by simp [List.getElem?_eq_getElem hk]
 rw [hget] at hK
 obtain rfl := kEnd_open hK
 have hc : ∀ j u, [Value.int .i64 E[k].1, .int .i64 E[k].2][j]? = some u → w.cell? (ad.add (k * 2 + j)) = some u := hc0
 exact ⟨ad, rfl, hc 0 _ rfl, by rw [← add_field _ _ 1 (by omega)]; exact hc 1 _ rfl⟩
set_option maxRecDepth 100000 in
set_option maxHeartbeats 4000000 in
theorem rstate_walk {w : World} {ok : Nat → Prop} {b : Nat} {s : Sh} (h : RfAt w ok b s) (t : Int) :
 Calls Tryz.prog 55 #[.pointer (some ⟨b, 0, none⟩), .int .i64 t] w fun e w' => e = .returned (.tuple #[.int .i64 (stateV s t).1, .int .i64 (stateV s t).2]) ∧ Below w.heap.size w w' := by
 have HPR := Aside0.mk (rprep_walk h t)
 have HS := Aside0.mk h
 have HSV : Aside0 (stateV s t = if (s.P.any fun r => decide (r.f1 = t)) = true then ((1, 0) : Int × Int) else match s.E.find? (fun e => decide (e.1 = t)) with | none => (0, 0) | some e => if e.2 = 0 then (3, 0) else (2, e.2)) := ⟨rfl⟩
 clear h
 generalize stateV s t = sv at *
 obtain ⟨s1, s2⟩ := sv
 go_enter Tryz.func55, Tryz.ntmps55
 go_wp2_with fail
 refine HPR.out.mono ?_
 rintro e w1 ⟨i, rfl, hi, hb1⟩
 obtain ⟨AK, AP, AE, cK, cP, cE, hp⟩ := HS.out.below hb1
 obtain ⟨-, -, c2, -⟩ := hp.cells
 have HC := Aside0.mk (Kd.F_now hp.fE)
 have HPO := Aside0.mk hp.pos
 have HB1 := Aside0.mk hb1
 have hlen := hp.few
 clear hp hb1 HPR HS
 rcases hi with ⟨rfl, hno⟩ | ⟨k, hk, rfl, hkt⟩
 ·have hany : (s.P.any fun r => decide (r.f1 = t)) = false := by
   rw [List.any_eq_false]
   intro r hr
   simpa using hno r hr
  rw [hany, if_neg (by decide)] at HSV
  clear hno hany
  go_wp2_with fail
  go_loopw [6] (fun v wr => ∃ k : Nat, k ≤ s.E.length ∧ v = .int .i64 (k : Int) ∧ Aside0 (∀ (j : Nat) (hj : j < s.E.length), j < k → decide (s.E[j].1 = t) = false) ∧ wr = w1) (fun i _ => s.E.length - (intOf i).toNat)
  case atStart => exact ⟨0, Nat.zero_le _, rfl, ⟨fun j hj hk => absurd hk (by omega)⟩, by first | rfl | trivial⟩
  case round =>
   obtain ⟨k, hk, rfl, HN, rfl⟩ := hrel
   by_cases hlt : k < s.E.length
   ·obtain ⟨ad, rfl, x0, x1⟩ := end_at HC.out k hlt
    have hpos := HPO.out _ (List.getElem_mem hlt)
    by_cases he : s.E[k].1 = t
    ·have hf := find_at (fun e : Int × Int => decide (e.1 = t)) s.E k hlt HN.out (by simpa using he)
     rw [hf] at HSV
     have d1 : (s.E[k].1 == t) = true := by simpa using he
     clear he hf HN
     generalize s.E[k] = en at *
     obtain ⟨e1, e2⟩ := en
     simp only at *
     by_cases h2 : e2 = 0
     ·subst h2
      rw [if_pos rfl] at HSV
      obtain ⟨rfl, rfl⟩ := Prod.mk.inj HSV.out
      clear HSV
      go_wp2_with fail
      go_ret2
      exact ⟨rfl, HB1.out⟩
     ·rw [if_neg h2] at HSV
      have d2 : decide (e2 > 0) = true := decide_eq_true (by omega)
      have d3 : decide (0 < e2) = true := decide_eq_true (by omega)
      obtain ⟨rfl, rfl⟩ := Prod.mk.inj HSV.out
      clear HSV h2
      go_wp2_with fail
      go_quiet (fail)
      all_goals (try go_wp2)
      go_ret2
      exact ⟨rfl, by repeat (first | exact HB1.out | apply below_drew1 | apply pw_below_drewN)⟩
    ·have HNN : Aside0 (∀ (j : Nat) (hj : j < s.E.length), j < k + 1 → decide (s.E[j].1 = t) = false) := ⟨fun j hj hk2 => by
      by_cases hjk : j = k
      ·subst hjk; simpa using he
      ·exact HN.out j hj (by omega)⟩
     have d1 : (s.E[k].1 == t) = false := by simpa using he
     clear he
     generalize s.E[k].1 = u at x0 d1
     go_wp2_with fail
     go_roundw
     case rel => exact ⟨k + 1, by omega, by go_num, HNN, by first | rfl | trivial⟩
     case measure => simp [intOf]; omega
   ·obtain rfl : k = s.E.length := by omega
    have hf := find_no (fun e : Int × Int => decide (e.1 = t)) s.E (fun j hj => HN.out j hj hj)
    rw [hf] at HSV
    obtain ⟨rfl, rfl⟩ := Prod.mk.inj HSV.out
    clear HSV hf
    go_wp2_with fail
    go_ret2
    exact ⟨rfl, HB1.out⟩
 ·have hany : (s.P.any fun r => decide (r.f1 = t)) = true := by
   rw [List.any_eq_true]
   exact ⟨s.P[k], List.getElem_mem hk, by simpa using hkt⟩
  rw [hany, if_pos rfl] at HSV
  obtain ⟨rfl, rfl⟩ := Prod.mk.inj HSV.out
  clear HSV hany hkt
  go_wp2_with fail
  go_ret2
  exact ⟨rfl, HB1.out⟩
theorem strK_at {w : World} {A : Option Addr} {n : Nat} {l : List ByteArray} (h : Kd.C Kd.string w A n l) (k : Nat) (hk : k < l.length) : ∃ ad, A = some ad ∧ w.cell? (ad.add k) = some (.string l[k]) := by
 have hn : l.length = n := h.1
 obtain ⟨ad, cs, rfl, hlen, hK, hc0⟩ := Kd.C_get h (⟨#[]⟩ : ByteArray) (k : Int) (by omega) (by omega)
 rw [Int.toNat_natCast] at hK hc0
 have hget : l.getD k (⟨#[]⟩ : ByteArray) = l[k] := by simp [List.getElem?_eq_getElem hk]
 rw [hget] at hK
 obtain rfl : cs = [.string l[k]] := hK
 have hc : ∀ j u, [Value.string l[k]][j]? = some u → w.cell? (ad.add (k * 1 + j)) = some u := hc0
 exact ⟨ad, rfl, by have := hc 0 _ rfl; simpa using this⟩
theorem wrK_at {w : World} {A : Option Addr} {n : Nat} {l : List Wr} (h : Kd.C k57 w A n l) (k : Nat) (hk : k < l.length) : ∃ ad, A = some ad ∧ w.cell? (ad.add (k * 3)) = some (.string l[k].f0) ∧ w.cell? ⟨(ad.add (k * 3)).block, (ad.add (k * 3)).off + 1, none⟩ = some (.string l[k].f1) ∧ w.cell? ⟨(ad.add (k * 3)).block, (ad.add (k * 3)).off + 2, none⟩ = some (.bool l[k].f2) := by
 have hn : l.length = n := h.1
 obtain ⟨ad, e, h0, h1, h2⟩ := at_T57 h (k : Int) (by omega) (by omega)
 have hg : rd_T57 l (k : Int) = l[k] := by unfold rd_T57; simp [List.getElem?_eq_getElem hk]
 rw [Int.toNat_natCast, hg] at h0 h1 h2
 exact ⟨ad, e, h0, h1, h2⟩
end Go.Proofs.YtaldfbmjmpkmmaaGreat.PL
