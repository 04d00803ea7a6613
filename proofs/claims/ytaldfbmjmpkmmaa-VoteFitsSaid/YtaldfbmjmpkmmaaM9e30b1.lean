/- Texts of this proof, one behind the other (merged by a program of this session). -/
import Derived.Test.YtaldfbmjmpkmmaaM829bf1
namespace Go.Proofs.Ytaldfbmjmpkmmaa.PL
open Go.RowKit Go.Proofs.YtaldfbmjmpkmmaaW.PrintWords Go.Proofs.YtaldfbmjmpkmmaaW.PrintLast Go.Proofs.YtaldfbmjmpkmmaaW.PrintMore
set_option linter.unusedVariables false
set_option linter.unusedSimpArgs false
set_option linter.unusedSectionVars false
theorem find_at {α : Type} (p : α → Bool) (l : List α) (k : Nat) (hk : k < l.length) (h0 : ∀ (j : Nat) (hj : j < l.length), j < k → p l[j] = false) (h1 : p l[k] = true) : l.find? p = some l[k] := by
  have e : l = l.take k ++ l[k] :: l.drop (k + 1) := by rw [← List.drop_eq_getElem_cons hk, List.take_append_drop]
  have h2 : (l.take k).find? p = none := by
    rw [List.find?_eq_none]
    intro x hx
    obtain ⟨j, hj, rfl⟩ := List.getElem_of_mem hx
    have hj2 : j < k := by rw [List.length_take] at hj; omega
    rw [List.getElem_take, h0 j (by omega) hj2]
    decide
  conv => lhs; rw [e]
  rw [List.find?_append, h2, List.find?_cons, h1]
  rfl
theorem find_no {α : Type} (p : α → Bool) (l : List α) (h0 : ∀ (j : Nat) (hj : j < l.length), p l[j] = false) : l.find? p = none := by
  rw [List.find?_eq_none]
  intro x hx
  obtain ⟨j, hj, rfl⟩ := List.getElem_of_mem hx
  rw [h0 j hj]
  decide
theorem end_at {w : World} {A : Option Addr} {n : Nat} {E : List (Int × Int)} (h : Kd.C kEnd w A n E) (k : Nat) (hk : k < E.length) : ∃ ad, A = some ad ∧ w.cell? (ad.add (k * 2)) = some (.int .i64 E[k].1) ∧ w.cell? ⟨(ad.add (k * 2)).block, (ad.add (k * 2)).off + 1, none⟩ = some (.int .i64 E[k].2) := by
  have hn : E.length = n := h.1
  obtain ⟨ad, cs, rfl, hlen, hK, hc0⟩ := Kd.C_get h ((0, 0) : Int × Int) (k : Int) (by omega) (by omega)
  rw [Int.toNat_natCast] at hK hc0
  have hget : E.getD k ((0, 0) : Int × Int) = E[k] := by simp [List.getElem?_eq_getElem hk]
  rw [hget] at hK
  obtain rfl := kEnd_open hK
  have hc : ∀ j u, [Value.int .i64 E[k].1, .int .i64 E[k].2][j]? = some u → w.cell? (ad.add (k * 2 + j)) = some u := hc0
  exact ⟨ad, rfl, hc 0 _ rfl, by rw [← add_field _ _ 1 (by omega)]; exact hc 1 _ rfl⟩
set_option maxRecDepth 100000 in
set_option maxHeartbeats 4000000 in
theorem rstate_walk {w : World} {ok : Nat → Prop} {b : Nat} {s : Sh} (h : RfAt w ok b s) (t : Int) :
    Calls Try.prog 51 #[.pointer (some ⟨b, 0, none⟩), .int .i64 t] w fun e w' => e = .returned (.tuple #[.int .i64 (stateV s t).1, .int .i64 (stateV s t).2]) ∧ Below w.heap.size w w' := by
  have HPR := Aside0.mk (rprep_walk h t)
  have HS := Aside0.mk h
  have HSV : Aside0 (stateV s t = if (s.P.any fun r => decide (r.f1 = t)) = true then ((1, 0) : Int × Int) else match s.E.find? (fun e => decide (e.1 = t)) with | none => (0, 0) | some e => if e.2 = 0 then (3, 0) else (2, e.2)) := ⟨rfl⟩
  clear h
  generalize stateV s t = sv at *
  obtain ⟨s1, s2⟩ := sv
  go_enter Try.func51, Try.ntmps51
  go_wp2_with fail
  refine HPR.out.mono ?_
  rintro e w1 ⟨i, rfl, hi, hb1⟩
  obtain ⟨AK, AP, AE, cK, cP, cE, hp⟩ := HS.out.below hb1
  obtain ⟨-, -, c2, -⟩ := hp.cells
  have HC := Aside0.mk (Kd.F_now hp.fE)
  have HPO := Aside0.mk hp.pos
  have HB1 := Aside0.mk hb1
  have hlen := hp.few
  clear hp hb1 HPR HS
  rcases hi with ⟨rfl, hno⟩ | ⟨k, hk, rfl, hkt⟩
  · have hany : (s.P.any fun r => decide (r.f1 = t)) = false := by
      rw [List.any_eq_false]
      intro r hr
      simpa using hno r hr
    rw [hany, if_neg (by decide)] at HSV
    clear hno hany
    go_wp2_with fail
    go_loopw [6] (fun v wr => ∃ k : Nat, k ≤ s.E.length ∧ v = .int .i64 (k : Int) ∧ Aside0 (∀ (j : Nat) (hj : j < s.E.length), j < k → decide (s.E[j].1 = t) = false) ∧ wr = w1) (fun i _ => s.E.length - (intOf i).toNat)
    case atStart => exact ⟨0, Nat.zero_le _, rfl, ⟨fun j hj hk => absurd hk (by omega)⟩, by first | rfl | trivial⟩
    case round =>
      obtain ⟨k, hk, rfl, HN, rfl⟩ := hrel
      by_cases hlt : k < s.E.length
      · obtain ⟨ad, rfl, x0, x1⟩ := end_at HC.out k hlt
        have hpos := HPO.out _ (List.getElem_mem hlt)
        by_cases he : s.E[k].1 = t
        · have hf := find_at (fun e : Int × Int => decide (e.1 = t)) s.E k hlt HN.out (by simpa using he)
          rw [hf] at HSV
          have d1 : (s.E[k].1 == t) = true := by simpa using he
          clear he hf HN
          generalize s.E[k] = en at *
          obtain ⟨e1, e2⟩ := en
          simp only at *
          by_cases h2 : e2 = 0
          · subst h2
            rw [if_pos rfl] at HSV
            obtain ⟨rfl, rfl⟩ := Prod.mk.inj HSV.out
            clear HSV
            go_wp2_with fail
            go_ret2
            exact ⟨rfl, HB1.out⟩
          · rw [if_neg h2] at HSV
            have d2 : decide (e2 > 0) = true := decide_eq_true (by omega)
            have d3 : decide (0 < e2) = true := decide_eq_true (by omega)
            obtain ⟨rfl, rfl⟩ := Prod.mk.inj HSV.out
            clear HSV h2
            go_wp2_with fail
            go_quiet (fail)
            all_goals (try go_wp2)
            go_ret2
            exact ⟨rfl, by repeat (first | exact HB1.out | apply below_drew1 | apply pw_below_drewN)⟩
        · have HNN : Aside0 (∀ (j : Nat) (hj : j < s.E.length), j < k + 1 → decide (s.E[j].1 = t) = false) := ⟨fun j hj hk2 => by
            by_cases hjk : j = k
            · subst hjk; simpa using he
            · exact HN.out j hj (by omega)⟩
          have d1 : (s.E[k].1 == t) = false := by simpa using he
          clear he
          generalize s.E[k].1 = u at x0 d1
          go_wp2_with fail
          go_roundw
          case rel => exact ⟨k + 1, by omega, by go_num, HNN, by first | rfl | trivial⟩
          case measure => simp [intOf]; omega
      · obtain rfl : k = s.E.length := by omega
        have hf := find_no (fun e : Int × Int => decide (e.1 = t)) s.E (fun j hj => HN.out j hj hj)
        rw [hf] at HSV
        obtain ⟨rfl, rfl⟩ := Prod.mk.inj HSV.out
        clear HSV hf
        go_wp2_with fail
        go_ret2
        exact ⟨rfl, HB1.out⟩
  · have hany : (s.P.any fun r => decide (r.f1 = t)) = true := by
      rw [List.any_eq_true]
      exact ⟨s.P[k], List.getElem_mem hk, by simpa using hkt⟩
    rw [hany, if_pos rfl] at HSV
    obtain ⟨rfl, rfl⟩ := Prod.mk.inj HSV.out
    clear HSV hany hkt
    go_wp2_with fail
    go_ret2
    exact ⟨rfl, HB1.out⟩
theorem strK_at {w : World} {A : Option Addr} {n : Nat} {l : List ByteArray} (h : Kd.C Kd.string w A n l) (k : Nat) (hk : k < l.length) : ∃ ad, A = some ad ∧ w.cell? (ad.add k) = some (.string l[k]) := by
  have hn : l.length = n := h.1
  obtain ⟨ad, cs, rfl, hlen, hK, hc0⟩ := Kd.C_get h (⟨#[]⟩ : ByteArray) (k : Int) (by omega) (by omega)
  rw [Int.toNat_natCast] at hK hc0
  have hget : l.getD k (⟨#[]⟩ : ByteArray) = l[k] := by simp [List.getElem?_eq_getElem hk]
  rw [hget] at hK
  obtain rfl : cs = [.string l[k]] := hK
  have hc : ∀ j u, [Value.string l[k]][j]? = some u → w.cell? (ad.add (k * 1 + j)) = some u := hc0
  exact ⟨ad, rfl, by have := hc 0 _ rfl; simpa using this⟩
theorem wrK_at {w : World} {A : Option Addr} {n : Nat} {l : List Wr} (h : Kd.C k56 w A n l) (k : Nat) (hk : k < l.length) : ∃ ad, A = some ad ∧ w.cell? (ad.add (k * 3)) = some (.string l[k].f0) ∧ w.cell? ⟨(ad.add (k * 3)).block, (ad.add (k * 3)).off + 1, none⟩ = some (.string l[k].f1) ∧ w.cell? ⟨(ad.add (k * 3)).block, (ad.add (k * 3)).off + 2, none⟩ = some (.bool l[k].f2) := by
  have hn : l.length = n := h.1
  obtain ⟨ad, e, h0, h1, h2⟩ := at_T56 h (k : Int) (by omega) (by omega)
  have hg : rd_T56 l (k : Int) = l[k] := by unfold rd_T56; simp [List.getElem?_eq_getElem hk]
  rw [Int.toNat_natCast, hg] at h0 h1 h2
  exact ⟨ad, e, h0, h1, h2⟩
end Go.Proofs.Ytaldfbmjmpkmmaa.PL
namespace Go.Proofs.Ytaldfbmjmpkmmaa.PL
open Go.RowKit Go.Proofs.YtaldfbmjmpkmmaaW.PrintWords Go.Proofs.YtaldfbmjmpkmmaaW.PrintLast Go.Proofs.YtaldfbmjmpkmmaaW.PrintMore
set_option linter.unusedVariables false
set_option linter.unusedSimpArgs false
set_option linter.unusedSectionVars false
theorem any_no {α : Type} (p : α → Bool) (l : List α) (h0 : ∀ (j : Nat) (hj : j < l.length), p l[j] = false) : l.any p = false := by
  rw [List.any_eq_false]
  intro x hx
  obtain ⟨j, hj, rfl⟩ := List.getElem_of_mem hx
  rw [h0 j hj]
  decide
theorem any_yes {α : Type} (p : α → Bool) (l : List α) (k : Nat) (hk : k < l.length) (h : p l[k] = true) : l.any p = true := List.any_eq_true.2 ⟨l[k], List.getElem_mem hk, h⟩
theorem all_next {α : Type} (p : α → Bool) (l : List α) (k : Nat) (hk : k < l.length) (h0 : ∀ (j : Nat) (hj : j < l.length), j < k → p l[j] = false) (h : p l[k] = false) : ∀ (j : Nat) (hj : j < l.length), j < k + 1 → p l[j] = false := fun j hj hjk => by
  by_cases e : j = k
  · subst e; exact h
  · exact h0 j hj (by omega)
set_option maxRecDepth 100000 in
set_option maxHeartbeats 8000000 in
theorem rheld_walk {w : World} {ok : Nat → Prop} {b : Nat} {s : Sh} (h : RfAt w ok b s) (key : ByteArray) (write : Bool) :
    Calls Try.prog 95 #[.pointer (some ⟨b, 0, none⟩), .string key, .bool write] w fun e w' => e = .returned (.bool (heldV s (kb key) write)) ∧ Below w.heap.size w w' := by
  obtain ⟨AK, AP, AE, cK, cP, cE, hp⟩ := h
  obtain ⟨-, c1, -, -⟩ := hp.cells
  have HC := Aside0.mk (Kd.F_now hp.fP)
  have hlen := hp.good.few
  have HHV : Aside0 (heldV s (kb key) write = s.P.any (fun r => heldR r (kb key) write)) := ⟨rfl⟩
  clear hp
  generalize heldV s (kb key) write = hv at *
  generalize s.P = P at *
  clear s
  have hkl : key.toList = kb key := kb_toList key
  have HKL := Aside0.mk hkl
  clear hkl
  go_enter Try.func95, Try.ntmps95
  go_wp2
  go_loopw [7] (fun v wr => ∃ i : Nat, i ≤ P.length ∧ v = .int .i64 (i : Int) ∧ Aside0 (∀ (j : Nat) (hj : j < P.length), j < i → heldR P[j] (kb key) write = false) ∧ wr = w) (fun i _ => P.length - (intOf i).toNat)
  case atStart => exact ⟨0, Nat.zero_le _, rfl, ⟨fun j hj hk => absurd hk (by omega)⟩, by first | rfl | trivial⟩
  case round =>
    obtain ⟨i, hi, rfl, HN, rfl⟩ := hrel
    by_cases hlt : i < P.length
    · obtain ⟨ad, A7, c7, A8, c8, rfl, -, x7, x8, l7, g7, l8, g8⟩ := rec_at HC.out i hlt
      have HG7 := Aside0.mk g7
      have HG8 := Aside0.mk g8
      have HYES : Aside0 (heldR P[i] (kb key) write = true → hv = true) := ⟨fun h => by rw [HHV.out]; exact any_yes (fun r => heldR r (kb key) write) P i hlt h⟩
      have HNO : Aside0 (heldR P[i] (kb key) write = false → ∀ (j : Nat) (hj : j < P.length), j < i + 1 → heldR P[j] (kb key) write = false) := ⟨fun h => all_next (fun r => heldR r (kb key) write) P i hlt HN.out h⟩
      have HPI : Aside0 (P[i] = P[i]) := ⟨rfl⟩
      have hm7 := Kd.C_max g7
      have hm8 := Kd.C_max g8
      clear g7 g8 l7 l8
      generalize P[i] = r at *
      clear HPI
      go_wp2_with fail
      go_loopw [8] (fun v wz => ∃ k : Nat, k ≤ r.f8.length ∧ v = .int .i64 (k : Int) ∧ Aside0 (∀ (j : Nat) (hj : j < r.f8.length), j < k → (kb r.f8[j].f0 == kb key) = false) ∧ wz = wr) (fun i _ => r.f8.length - (intOf i).toNat)
      case atStart => exact ⟨0, Nat.zero_le _, rfl, ⟨fun j hj hk => absurd hk (by omega)⟩, by first | rfl | trivial⟩
      case round =>
        obtain ⟨k, hk, rfl, HM, rfl⟩ := hrel
        by_cases hlk : k < r.f8.length
        · obtain ⟨ad2, rfl, z0, -, -⟩ := wrK_at HG8.out k hlk
          have hxl : r.f8[k].f0.toList = kb r.f8[k].f0 := kb_toList _
          cases he : kb r.f8[k].f0 == kb key with
          | true =>
            have hv1 : hv = true := HYES.out (by
              unfold heldR wrote
              rw [any_yes (fun w : Wr => kb w.f0 == kb key) r.f8 k hlk he]
              rfl)
            subst hv1
            have d1 : (r.f8[k].f0.toList == key.toList) = true := by rw [hxl, HKL.out]; exact he
            clear he hxl HYES HNO HHV
            generalize r.f8[k].f0 = x at *
            go_wp2_with fail
            go_ret
            exact ⟨rfl, Below.refl _ _⟩
          | false =>
            have HMN := Aside0.mk (all_next (fun w : Wr => kb w.f0 == kb key) r.f8 k hlk HM.out he)
            have d1 : (r.f8[k].f0.toList == key.toList) = false := by rw [hxl, HKL.out]; exact he
            clear he hxl
            generalize r.f8[k].f0 = x at z0 d1
            go_wp2_with fail
            go_roundw
            case rel => exact ⟨k + 1, by omega, by go_num, HMN, by first | rfl | trivial⟩
            case measure => simp [intOf]; omega
        · obtain rfl : k = r.f8.length := by omega
          have hwr : wrote r (kb key) = false := any_no (fun w : Wr => kb w.f0 == kb key) r.f8 (fun j hj => HM.out j hj hj)
          have HWR := Aside0.mk hwr
          clear hwr HM
          go_wp2_with fail
          go_loopw [9] (fun v wz => ∃ k : Nat, k ≤ r.f7.length ∧ v = .int .i64 (k : Int) ∧ Aside0 (∀ (j : Nat) (hj : j < r.f7.length), j < k → (kb r.f7[j] == kb key) = false) ∧ wz = wr) (fun i _ => r.f7.length - (intOf i).toNat)
          case atStart => exact ⟨0, Nat.zero_le _, rfl, ⟨fun j hj hk => absurd hk (by omega)⟩, by first | rfl | trivial⟩
          case round =>
            obtain ⟨k, hk, rfl, HM, rfl⟩ := hrel
            cases write with
            | false =>
              have HNN := Aside0.mk (HNO.out (by unfold heldR; rw [HWR.out]; rfl))
              go_wp2_with fail
              go_roundw
              case rel => exact ⟨i + 1, by omega, by go_num, HNN, by first | rfl | trivial⟩
              case measure => simp [intOf]; omega
            | true =>
              by_cases hlk : k < r.f7.length
              · obtain ⟨ad2, rfl, z0⟩ := strK_at HG7.out k hlk
                have hxl : r.f7[k].toList = kb r.f7[k] := kb_toList _
                cases he : kb r.f7[k] == kb key with
                | true =>
                  have hv1 : hv = true := HYES.out (by
                    unfold heldR watches
                    rw [any_yes (fun q : ByteArray => kb q == kb key) r.f7 k hlk he]
                    simp)
                  subst hv1
                  have d1 : (r.f7[k].toList == key.toList) = true := by rw [hxl, HKL.out]; exact he
                  clear he hxl HYES HNO HHV
                  generalize r.f7[k] = x at *
                  go_wp2_with fail
                  go_ret
                  exact ⟨rfl, Below.refl _ _⟩
                | false =>
                  have HMN := Aside0.mk (all_next (fun q : ByteArray => kb q == kb key) r.f7 k hlk HM.out he)
                  have d1 : (r.f7[k].toList == key.toList) = false := by rw [hxl, HKL.out]; exact he
                  clear he hxl
                  generalize r.f7[k] = x at z0 d1
                  go_wp2_with fail
                  go_roundw
                  case rel => exact ⟨k + 1, by omega, by go_num, HMN, by first | rfl | trivial⟩
                  case measure => simp [intOf]; omega
              · obtain rfl : k = r.f7.length := by omega
                have hwt : watches r (kb key) = false := any_no (fun q : ByteArray => kb q == kb key) r.f7 (fun j hj => HM.out j hj hj)
                have HNN := Aside0.mk (HNO.out (by unfold heldR; rw [HWR.out, hwt]; rfl))
                clear hwt
                go_wp2_with fail
                go_roundw
                case rel => exact ⟨i + 1, by omega, by go_num, HNN, by first | rfl | trivial⟩
                case measure => simp [intOf]; omega
    · obtain rfl : i = P.length := by omega
      have hv0 : hv = false := by rw [HHV.out]; exact any_no (fun r => heldR r (kb key) write) P (fun j hj => HN.out j hj hj)
      subst hv0
      go_wp2_with fail
      go_ret
      exact ⟨rfl, Below.refl _ _⟩
end Go.Proofs.Ytaldfbmjmpkmmaa.PL
namespace Go.Proofs.Ytaldfbmjmpkmmaa.PL
open Go.RowKit Go.Proofs.YtaldfbmjmpkmmaaW.PrintWords Go.Proofs.YtaldfbmjmpkmmaaW.PrintLast Go.Proofs.YtaldfbmjmpkmmaaW.PrintMore Go.Shelf Go.Maps Go.WideMaps Go.Proofs.Ytaldfbmjmpkmmaa.Mk
set_option linter.unusedVariables false
set_option linter.unusedSimpArgs false
set_option linter.unusedSectionVars false
theorem kb_beq (a b : ByteArray) : (a.toList == b.toList) = (kb a == kb b) := by rw [kb_toList, kb_toList]
set_option maxRecDepth 100000 in
theorem lastS_walk {w : World} {ok : Nat → Prop} {b N : Nat} {s : Sh} (h : ShAt w ok b N s) (k : ByteArray) (hk : k.size ≤ maxLen) :
    Calls Try.prog 43 #[.pointer (some ⟨b, 0, none⟩), .string k] w fun e w' => e = .returned (.int .i64 (lastV (look s.K (kb k)))) ∧ Below w.heap.size w w' := by
  obtain ⟨bk, bp, ve, fk, fp, hp⟩ := h
  obtain ⟨A, c, hv, hl, hC⟩ := hp.chain (kb k)
  obtain ⟨c0, c1, c2, c3⟩ := hp.cells
  have HL := Aside0.mk (last_walk w A c (look s.K (kb k)) hC hl (hp.good.keys.look _))
  have HV := Aside0.mk hv
  have HK := Aside0.mk hp.keys
  have HS := Aside0.mk hk
  clear hp hv hC
  generalize lastV (look s.K (kb k)) = r at *
  generalize (look s.K (kb k)) = l at *
  go_enter Try.func43, Try.ntmps43
  go_wp2_with (at_lookup; refine MapL.at_ HK.out keyedS rfl _ _ 74 81 rfl Try.underlying74 (zeroC _) rfl rfl (key_sk HS.out) ?_; rw [HV.out])
  refine HL.out.mono ?_
  rintro e w1 ⟨rfl, hb⟩
  have HB := Aside0.mk hb
  clear hb
  go_wp2_with fail
  go_ret
  exact ⟨rfl, HB.out⟩
set_option maxRecDepth 100000 in
theorem writes1_walk (W : World) (bx : Nat) (key : ByteArray) (hx : W.cell? ⟨bx, 0, none⟩ = some (.string key)) (x : Wr) :
    Calls Try.prog 108 (#[.agg #[.string x.f0, .string x.f1, .bool x.f2]] ++ #[.pointer (some ⟨bx, 0, none⟩)]) W fun e W' => e = .returned (.bool (kb x.f0 == kb key)) ∧ Below W.heap.size W W' := by
  rw [← kb_beq]
  have hlt := World.block_lt_of_cell? W _ hx
  have hne : bx ≠ W.heap.size := by simp only at hlt; omega
  show Calls Try.prog 108 #[.agg #[.string x.f0, .string x.f1, .bool x.f2], .pointer (some ⟨bx, 0, none⟩)] W _
  obtain ⟨a, s, d⟩ := x
  simp only
  have hx2 : (W.alloc (.cells #[.string a, .string s, .bool d] 56)).cell? ⟨bx, 0, none⟩ = some (.string key) := pw_cell_below (below_alloc (Below.refl _ W) _) hx
  go_enter Try.func108, Try.ntmps108
  go_wp2
  go_ret
  exact ⟨rfl, below_alloc (Below.refl _ W) _⟩
theorem contains_enough {α : Type} {w : World} {g : Nat} {cap : Array Value} {enc : α → Value} {xs : List α} {p : α → Bool} (h : ∀ W : World, Below w.heap.size w W → ∀ x, Calls Try.prog g (#[enc x] ++ cap) W fun e W' => e = .returned (.bool (p x)) ∧ Below W.heap.size W W') : TellsG w g cap enc xs p := fun W hW x _ => h W hW x
set_option maxRecDepth 100000 in
/-- shelf.writes. -/
theorem writes_walk (w : World) (r : Rec) (cs : List Value) (hr : k35.K w r cs) (key : ByteArray) :
    Calls Try.prog 67 #[.agg cs.toArray, .string key] w fun e w' => e = .returned (.bool (wrote r (kb key))) ∧ Below w.heap.size w w' := by
  obtain ⟨A7, c7, A8, c8, rfl, h1, h2, h3, h4⟩ := k35_open hr
  obtain ⟨w2, hw2⟩ : ∃ w2, w2 = (w.alloc (.cells #[.int .i64 r.f0, .int .i64 r.f1, .int .i64 r.f2, .int .i64 r.f3, .string r.f4, .string r.f5, .bool r.f6, .slice A7 r.f7.length c7, .slice A8 r.f8.length c8] 35)).alloc (.cells #[.string key] 9) := ⟨_, rfl⟩
  have hB : Below w.heap.size w w2 := by rw [hw2]; exact below_alloc (below_alloc (Below.refl _ w) _) _
  have b1 : w2.heap[w.heap.size + 1]? = some (.cells #[.string key] 9 (0, 0)) := by
    rw [hw2]
    have := blk_new (w.alloc (.cells #[.int .i64 r.f0, .int .i64 r.f1, .int .i64 r.f2, .int .i64 r.f3, .string r.f4, .string r.f5, .bool r.f6, .slice A7 r.f7.length c7, .slice A8 r.f8.length c8] 35)) (.cells #[.string key] 9)
    simpa using this
  have hcon := contains_wrW w2 A8 c8 r.f8 (.pointer (some ⟨w.heap.size + 1, 0, none⟩)) (fun x => kb x.f0 == kb key) (Kd.C_below h4 hB) (contains_enough fun W hW x => writes1_walk W _ key (by rw [blk_cell (blk_below b1 hW) 0]; rfl) x)
  have HC := Aside0.mk hcon
  have HW := Aside0.mk hw2
  have HB := Aside0.mk hB
  have HV : Aside0 (wrote r (kb key) = r.f8.any fun x => kb x.f0 == kb key) := ⟨rfl⟩
  clear hcon hw2 hB b1 h1 h2 h3 h4 hr
  generalize wrote r (kb key) = q at *
  rw [← HV.out] at HC
  go_enter Try.func67, Try.ntmps67
  go_wp2_with fail
  rw [← HW.out]
  refine HC.out.mono ?_
  rintro e w1 ⟨rfl, hb⟩
  have HB1 : Aside0 (Below w.heap.size w w1) := ⟨HB.out.trans (hb.mono HB.out.size)⟩
  clear hb
  go_wp2_with fail
  go_ret
  exact ⟨rfl, HB1.out⟩
end Go.Proofs.Ytaldfbmjmpkmmaa.PL
namespace Go.Proofs.Ytaldfbmjmpkmmaa.PL
open Go.RowKit Go.Proofs.YtaldfbmjmpkmmaaW.PrintWords Go.Proofs.YtaldfbmjmpkmmaaW.PrintLast Go.Proofs.YtaldfbmjmpkmmaaW.PrintMore Go.Shelf Go.Maps Go.WideMaps Go.Proofs.Ytaldfbmjmpkmmaa.Mk
set_option linter.unusedVariables false
set_option linter.unusedSimpArgs false
set_option linter.unusedSectionVars false
set_option maxRecDepth 100000 in
set_option maxHeartbeats 2000000 in
theorem indexS_walk (w : World) (A : Option Addr) (c : Nat) (xs : List ByteArray) (v : ByteArray) (hr : Kd.C Kd.string w A xs.length xs) :
    Calls Try.prog 109 #[.slice A xs.length c, .string v] w fun e w' => e = .returned (.int .i64 (firstG (fun x => kb v == kb x) xs 0)) ∧ Below w.heap.size w w' := by
  have HR := Aside0.mk hr
  have hmax := Kd.C_max hr
  clear hr
  obtain ⟨p, hp⟩ : ∃ p, p = (fun x => kb v == kb x) := ⟨_, rfl⟩
  rw [← hp]
  have HP := Aside0.mk hp
  clear hp
  go_enter Try.func109, Try.ntmps109
  go_wp2
  go_loopw [8] (fun i wr => ∃ k : Nat, k ≤ xs.length ∧ i = .int .i64 k ∧ Aside0 (firstG p xs 0 = firstG p (xs.drop k) k) ∧ Aside0 (Below w.heap.size w wr))
    (fun i _ => xs.length - (intOf i).toNat)
  case atStart => exact ⟨0, Nat.zero_le _, rfl, ⟨rfl⟩, ⟨Below.refl _ _⟩⟩
  case round =>
    obtain ⟨k, hk, rfl, HF, HB⟩ := hrel
    by_cases hlt : k < xs.length
    · obtain ⟨ad, cs, rfl, hlen, hK, hc0⟩ := Kd.C_get (Kd.C_below HR.out HB.out) (⟨#[]⟩ : ByteArray) (k : Int) (by omega) (by omega)
      rw [Int.toNat_natCast] at hK hc0
      have hc : ∀ j u, cs[j]? = some u → wr.cell? (ad.add (k * 1 + j)) = some u := hc0
      obtain rfl := strK_open hK
      have hc0' : wr.cell? (ad.add k) = some (.string (xs.getD k (⟨#[]⟩ : ByteArray))) := by have := hc 0 _ rfl; simpa using this
      have hdrop : xs.drop k = xs.getD k (⟨#[]⟩ : ByteArray) :: xs.drop (k + 1) := by
        rw [List.drop_eq_getElem_cons hlt]; simp [List.getElem?_eq_getElem hlt]
      have HF2 := HF.out
      rw [hdrop] at HF2
      generalize hx : xs.getD k (⟨#[]⟩ : ByteArray) = x at *
      have HF3 := Aside0.mk HF2
      have hpx : (v.toList == x.toList) = p x := by rw [kb_beq, HP.out]
      clear hdrop hx HF2 HF hK hc0 hc hlen
      cases hq : p x with
      | true =>
        have HV : Aside0 (firstG p xs 0 = (k : Int)) := ⟨by rw [HF3.out]; unfold firstG; rw [hq]; rfl⟩
        rw [hq] at hpx
        clear hq
        go_wp2_with fail
        go_ret
        exact ⟨by rw [HV.out]; rfl, HB.out⟩
      | false =>
        have HV : Aside0 (firstG p xs 0 = firstG p (xs.drop (k + 1)) ((k + 1 : Nat) : Int)) := ⟨by
          rw [HF3.out]
          show (if p x = true then (k : Int) else firstG p (xs.drop (k + 1)) ((k : Int) + 1)) = _
          rw [hq]; simp⟩
        rw [hq] at hpx
        clear hq
        go_wp2_with fail
        go_roundw
        case rel => exact ⟨k + 1, by omega, by go_num, HV, HB⟩
        case measure => simp [intOf]; omega
    · obtain rfl : k = xs.length := by omega
      have HV : Aside0 (firstG p xs 0 = -1) := ⟨by rw [HF.out, List.drop_of_length_le (Nat.le_refl _)]; rfl⟩
      go_wp2
      go_ret
      exact ⟨by rw [HV.out]; rfl, HB.out⟩
set_option maxRecDepth 100000 in
theorem containsS_walk (w : World) (A : Option Addr) (c : Nat) (xs : List ByteArray) (v : ByteArray) (hr : Kd.C Kd.string w A xs.length xs) :
    Calls Try.prog 68 #[.slice A xs.length c, .string v] w fun e w' => e = .returned (.bool (xs.any fun x => kb x == kb v)) ∧ Below w.heap.size w w' := by
  have hc := indexS_walk w A c xs v hr
  have hge := firstG_ge (fun x => kb v == kb x) xs 0 (by omega)
  have hval : decide (firstG (fun x => kb v == kb x) xs 0 ≥ 0) = xs.any fun x => kb x == kb v := by
    rw [show (fun x => kb x == kb v) = (fun x => kb v == kb x) from funext fun x => BEq.comm]
    rw [Bool.eq_iff_iff, decide_eq_true_iff]
    exact hge
  generalize firstG (fun x => kb v == kb x) xs 0 = n at hc hval
  have HC := Aside0.mk hc
  have HV := Aside0.mk hval
  clear hc hge hval hr
  generalize (xs.any fun x => kb x == kb v) = q at *
  go_enter Try.func68, Try.ntmps68
  go_wp2_with fail
  refine HC.out.mono ?_
  rintro e w1 ⟨rfl, hb1⟩
  have HB := Aside0.mk hb1
  clear hb1
  go_wp2_with fail
  go_ret
  exact ⟨by rw [← HV.out]; rfl, HB.out⟩
theorem sameKey_ik (a b : Int) : (ik a).sameKey (ik b) = decide (a = b) := by
  unfold ik
  by_cases e : a = b
  · subst e
    simp [Lit.sameKey]
  · rw [sameKey_ne (fun h => e (by injection h))]
    simp [e]
theorem prep_one {P : List Rec} (h : P.Pairwise (fun a b => a.f1 < b.f1)) {a b : Rec} (ha : a ∈ P) (hb : b ∈ P) (e : a.f1 = b.f1) : a = b := by
  induction P with
  | nil => simp at ha
  | cons x r ih =>
    obtain ⟨h1, h2⟩ := List.pairwise_cons.1 h
    rcases List.mem_cons.1 ha with ea | ha'
    · rcases List.mem_cons.1 hb with eb | hb'
      · rw [ea, eb]
      · have := h1 b hb'
        rw [ea] at e
        omega
    · rcases List.mem_cons.1 hb with eb | hb'
      · have := h1 a ha'
        rw [eb] at e
        omega
      · exact ih h2 ha' hb'
set_option maxRecDepth 100000 in
set_option maxHeartbeats 4000000 in
/-- Held. -/
theorem held_walk {w : World} {ok : Nat → Prop} {b N : Nat} {s : Sh} (h : ShAt w ok b N s) (key : ByteArray) (wt : Bool) :
    Calls Try.prog 31 #[.pointer (some ⟨b, 0, none⟩), .string key, .bool wt] w fun e w' => e = .returned (.bool (heldV s (kb key) wt)) ∧ Below w.heap.size w w' := by
  obtain ⟨bk, bp, ve, fk, fp, hp⟩ := h
  obtain ⟨c0, c1, c2, c3⟩ := hp.cells
  have HP := Aside0.mk hp
  clear hp
  go_enter Try.func31, Try.ntmps31
  go_wp2_with (at_range; refine MapL.range HP.out.preps keyedI rfl _ 75 35 rfl Try.underlying75 rfl ?_; intro w1 cnt0 hrg0 hb0 hsz0)
  go_frame
  have HRG0 := Aside0.mk hrg0
  have HB0 := Aside0.mk hb0
  clear hrg0 hb0 hsz0
  go_loopw [8] (fun _ wz => ∃ left cnt, Aside0 (RangeL Try.prog 3 wz bp w.heap.size N fp left cnt) ∧ Aside0 (∀ r, r ∈ s.P → left (ik r.f1) = false → heldR r (kb key) wt = false) ∧ Aside0 (Below w.heap.size w wz))
    (fun _ wz => wz.rangeLeft bp w.heap.size)
  case atStart => exact ⟨_, _, HRG0, ⟨fun r hr hl => by rw [HP.out.pt r hr] at hl; cases hl⟩, HB0⟩
  case round =>
    clear HRG0 HB0
    obtain ⟨left, cnt, HRG, HD, HB⟩ := hrel
    go_wp2_with (at_next; refine RangeL.next HRG.out keyedI rfl _ rfl rfl ?_ ?_)
    · intro _ hl0
      have hv : Aside0 (heldV s (kb key) wt = false) := ⟨by
        unfold heldV
        rw [List.any_eq_false]
        intro r hr
        rw [HD.out r hr (hl0 _)]
        simp⟩
      clear hl0
      go_wp2
      go_ret
      exact ⟨by rw [hv.out]; rfl, HB.out⟩
    · intro k q v w2 cnt2 hkey hlq hfv hrg2 hlt hg2 hs2 hen
      have HB2 : Aside0 (Below w.heap.size w w2) := ⟨⟨hg2.os.trans HB.out.os, hg2.tape.trans HB.out.tape, hg2.output.trans HB.out.output, Nat.le_trans HB.out.size hg2.size, fun i hi => (hg2.block i (Nat.lt_of_lt_of_le hi HB.out.size) (fun e => by injection e with e; omega)).trans (HB.out.block i hi)⟩⟩
      obtain ⟨r, hr, hq, cs, hv, hM⟩ := (HP.out.below HB2.out).pf q v hfv
      have hK := k35.K_of_M hM
      obtain ⟨A7, c7, A8, c8, hcs, h1, h2, h3, h4⟩ := k35_open hK
      subst hcs
      subst hv
      subst hq
      have HRG2 := Aside0.mk hrg2
      have HLT := Aside0.mk hlt
      have HRR := Aside0.mk hr
      have HKR := Aside0.mk hK
      have HC7 := Aside0.mk h2
      have HLE := Aside0.mk HRG.out.left_eq
      clear hkey hlq hfv hrg2 hlt hg2 hs2 hM hK h1 h2 h3 h4 hr
      have HLN : Aside0 (∀ r', r' ∈ s.P → (left (ik r'.f1) && !(ik r'.f1).sameKey (ik r.f1)) = false → heldR r (kb key) wt = false → heldR r' (kb key) wt = false) := ⟨fun r' hr' hl hf => by
        cases hl2 : left (ik r'.f1) with
        | false => exact HD.out r' hr' hl2
        | true =>
          rw [hl2, sameKey_ik] at hl
          have : r'.f1 = r.f1 := by simpa using hl
          rw [prep_one HP.out.good.rise hr' HRR.out this]
          exact hf⟩
      have HYES : Aside0 (heldR r (kb key) wt = true → heldV s (kb key) wt = true) := ⟨fun hf => List.any_eq_true.2 ⟨r, HRR.out, hf⟩⟩
      have HHR : Aside0 (heldR r (kb key) wt = (wrote r (kb key) || (wt && watches r (kb key)))) := ⟨rfl⟩
      have HWT : Aside0 (watches r (kb key) = r.f7.any fun q => kb q == kb key) := ⟨rfl⟩
      have hbx := blk_new w2 (.cells #[.int .i64 r.f0, .int .i64 r.f1, .int .i64 r.f2, .int .i64 r.f3, .string r.f4, .string r.f5, .bool r.f6, .slice A7 r.f7.length c7, .slice A8 r.f8.length c8] 35)
      have hbb := below_alloc (Below.refl _ w2) (.cells #[.int .i64 r.f0, .int .i64 r.f1, .int .i64 r.f2, .int .i64 r.f3, .string r.f4, .string r.f5, .bool r.f6, .slice A7 r.f7.length c7, .slice A8 r.f8.length c8] 35)
      have HWW := Aside0.mk (writes_walk _ r _ (k35.K_below hbb HKR.out) key)
      have HBX := Aside0.mk hbx
      have HBB := Aside0.mk hbb
      clear hbx hbb
      generalize wrote r (kb key) = b1 at *
      generalize heldR r (kb key) wt = hR at *
      go_wp2_with fail
      refine HWW.out.mono ?_
      rintro e w4 ⟨rfl, hb4⟩
      have HB24 : Aside0 (Below w2.heap.size w2 w4) := ⟨HBB.out.trans (hb4.mono HBB.out.size)⟩
      have HB4 : Aside0 (Below w.heap.size w w4) := ⟨HB2.out.trans (HB24.out.mono HB2.out.size)⟩
      have HR4 := Aside0.mk (HRG2.out.below HB24.out)
      have BX4 := Aside0.mk (blk_below HBX.out hb4)
      have HC4 := Aside0.mk (k35_open (k35.K_below HB24.out HKR.out))
      clear hb4 HWW HBX HBB HRG2 HB24
      have y7 := blk_cell BX4.out 7
      cases b1 with
      | true =>
        have HV : Aside0 (heldV s (kb key) wt = true) := ⟨HYES.out (by rw [HHR.out]; rfl)⟩
        go_wp2_with fail
        go_ret
        exact ⟨by rw [HV.out]; rfl, HB4.out⟩
      | false =>
        cases wt with
        | false =>
          have HF : Aside0 (hR = false) := ⟨by rw [HHR.out]; rfl⟩
          go_wp2_with fail
          go_roundw
          case rel => exact ⟨_, _, HR4, ⟨fun r' h1 h2 => HLN.out r' h1 h2 HF.out⟩, HB4⟩
          case measure => rw [HR4.out.left_eq, HLE.out]; exact HLT.out
        | true =>
          have hc7 : Aside0 (∃ A c, (Value.slice A7 r.f7.length c7 = .slice A r.f7.length c) ∧ r.f7.length ≤ c ∧ Kd.string.C w4 A r.f7.length r.f7) := ⟨by
            obtain ⟨B7, d7, B8, d8, e, q1, q2, q3, q4⟩ := HC4.out
            injection e with _ e
            injection e with _ e
            injection e with _ e
            injection e with _ e
            injection e with _ e
            injection e with _ e
            injection e with _ e
            injection e with e7 e
            exact ⟨B7, d7, e7, q1, q2⟩⟩
          obtain ⟨B7, d7, e7, q1, q2⟩ := hc7.out
          injection e7 with e71 e72 e73
          subst e71 e73
          have HCS := Aside0.mk (containsS_walk w4 A7 c7 r.f7 key q2)
          rw [← HWT.out] at HCS
          clear q1 q2
          go_wp2_with fail
          refine HCS.out.mono ?_
          rintro e w5 ⟨rfl, hb5⟩
          have HB5 : Aside0 (Below w.heap.size w w5) := ⟨HB4.out.trans (hb5.mono HB4.out.size)⟩
          have HR5 := Aside0.mk (HR4.out.below hb5)
          clear hb5
          generalize watches r (kb key) = b2 at *
          cases b2 with
          | true =>
            have HV : Aside0 (heldV s (kb key) true = true) := ⟨HYES.out (by rw [HHR.out]; rfl)⟩
            go_wp2_with fail
            go_ret
            exact ⟨by rw [HV.out]; rfl, HB5.out⟩
          | false =>
            have HF : Aside0 (hR = false) := ⟨by rw [HHR.out]; rfl⟩
            go_wp2_with fail
            go_roundw
            case rel => exact ⟨_, _, HR5, ⟨fun r' h1 h2 => HLN.out r' h1 h2 HF.out⟩, HB5⟩
            case measure => rw [HR5.out.left_eq, HLE.out]; exact HLT.out
end Go.Proofs.Ytaldfbmjmpkmmaa.PL
