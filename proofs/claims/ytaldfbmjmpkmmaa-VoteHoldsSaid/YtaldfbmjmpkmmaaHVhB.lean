/- VoteHolds: the walk. -/
import Derived.Test.YtaldfbmjmpkmmaaHVhA
import Derived.Test.YtaldfbmjmpkmmaaHLtG
import Derived.Test.YtaldfbmjmpkmmaaHRfM
import Derived.Test.YtaldfbmjmpkmmaaHRfD
namespace Go.Proofs.Ytaldfbmjmpkmmaa.PL
open Go.RowKit Go.Proofs.YtaldfbmjmpkmmaaW.PrintWords Go.Proofs.YtaldfbmjmpkmmaaW.PrintLast Go.Proofs.YtaldfbmjmpkmmaaW.PrintMore Go.Shelf Go.Maps Go.WideMaps Go.Proofs.Ytaldfbmjmpkmmaa.Mk
set_option linter.unusedVariables false
set_option linter.unusedSimpArgs false
set_option linter.unusedSectionVars false
theorem R_chg {ok : Nat → Prop} {w w1 : World} {base : Nat} {v : Value} {l : List Wr} (h : k56.R 56 w base (fun _ => True) v l) (hc : Chg ok w w1) : k56.R 56 w1 base (fun _ => True) v l :=
  R_keep h (fun g _ q hq cells hx => by
    by_cases hg : ok g
    · exact hc.still g hg q cells (.inr (.inr (List.mem_singleton.1 (show q ∈ [56] from hq)))) hx
    · exact hc.block g (blk_lt hx) hg)
set_option maxRecDepth 100000 in
set_option maxHeartbeats 16000000 in
theorem voteHolds_core (w : World) {l : List Rec} {A0 : Option Addr} {c0 : Nat} (hr0 : Kd.C k35 w A0 l.length l) (g0 : ∀ r, r ∈ l → sizesOk r) (txn t : Int) (htx : -9223372036854775808 ≤ txn ∧ txn ≤ 9223372036854775807) :
    Calls Try.prog 6 #[.slice A0 l.length c0, .int .i64 txn, .int .i64 t] w fun e w' => e = .returned (.bool true) ∧ Below w.heap.size w w' := by
  have HMD := Aside0.mk (made19_walk w A0 c0 l hr0 g0)
  have HWS := Aside0.mk works19_walk
  have HEN := Aside0.mk (madeV_ends l)
  have HGD := Aside0.mk (madeV_ok l)
  have HEX := Aside0.mk (madeV_excl l)
  have HTX := Aside0.mk htx
  clear hr0 g0 htx
  generalize madeV l = s at *
  go_enter Try.func6, Try.ntmps6
  go_wp2_with fail
  refine HMD.out.mono ?_
  rintro e w1 ⟨b, rb, rfl, hD⟩
  have HD := Aside0.mk hD
  have HB1 : Aside0 (Below w.heap.size w w1) := ⟨hD.world⟩
  clear hD HMD
  go_wp2_with fail
  refine (HWS.out w1).mono ?_
  rintro e w2 ⟨rfl, hb2⟩
  have HD2 := Aside0.mk (HD.out.below hb2)
  have HB2 : Aside0 (Below w.heap.size w w2) := ⟨HB1.out.trans (hb2.mono HB1.out.size)⟩
  clear hb2 HD HB1
  obtain ⟨okp, hsh, -, hokp, -, -⟩ := HD2.out
  have HSH := Aside0.mk hsh
  have HOKP := Aside0.mk hokp
  have HPR := Aside0.mk (prep_walk hsh txn HTX.out)
  clear hsh hokp HD2 HWS
  by_cases h0 : t < 0
  · have e0 : decide (t < 0) = true := decide_eq_true h0
    clear h0
    go_wp2_with fail
    go_ret
    exact ⟨rfl, HB2.out⟩
  have e0 : decide (t < 0) = false := decide_eq_false h0
  by_cases h1 : 1125899906842624 < t
  · have e1 : decide (1125899906842624 < t) = true := decide_eq_true h1
    have e1b : decide (t > 1125899906842624) = true := decide_eq_true h1
    clear h1
    go_wp2_with fail
    go_ret
    exact ⟨rfl, HB2.out⟩
  have e1 : decide (1125899906842624 < t) = false := decide_eq_false h1
  have e1b : decide (t > 1125899906842624) = false := decide_eq_false h1
  by_cases h2 : txn < 1
  · have e2 : decide (txn < 1) = true := decide_eq_true h2
    clear h2
    go_wp2_with fail
    go_ret
    exact ⟨rfl, HB2.out⟩
  have e2 : decide (txn < 1) = false := decide_eq_false h2
  by_cases h3 : 1125899906842623 < txn
  · have e3 : decide (1125899906842623 < txn) = true := decide_eq_true h3
    have e3b : decide (txn > 1125899906842623) = true := decide_eq_true h3
    clear h3
    go_wp2_with fail
    go_ret
    exact ⟨rfl, HB2.out⟩
  have e3 : decide (1125899906842623 < txn) = false := decide_eq_false h3
  have e3b : decide (txn > 1125899906842623) = false := decide_eq_false h3
  have HT1 := Aside0.mk h0
  have HT2 := Aside0.mk h1
  have hask := ask_ok h2 h3
  have HAK := Aside0.mk hask
  have HTP := Aside0.mk (tell_prep s txn)
  have HUN := Aside0.mk (fun hp => undo_apply (s := s) h2 h3 hp)
  have HR0 : Aside0 (∀ r, prepOf s txn = some r → r ∈ s.P ∧ r.f1 = txn) := ⟨fun r h => prep_is h⟩
  have HWK : Aside0 (∀ x ∈ ((prepOf s txn).getD zRec).f8, keyB x.f0 = true) := ⟨fun x hx => by
    cases hp : prepOf s txn with
    | none => rw [hp] at hx; simp [zRec] at hx
    | some r => rw [hp] at hx; exact wr_key HGD.out (prep_is hp).1 hx⟩
  have HW1 : Aside0 (∀ x ∈ ((prepOf s txn).getD zRec).f8, (readV s (kb x.f0) t).1 = 3 ∨ ((readV s (kb x.f0) t).1 = 4 ∧ t < s.over)) := ⟨fun x hx => by
    cases hp : prepOf s txn with
    | none => rw [hp] at hx; simp [zRec] at hx
    | some r => rw [hp] at hx; exact holds_read (prep_is hp).1 hx t⟩
  have HW2 : Aside0 (∀ x ∈ ((prepOf s txn).getD zRec).f8, (readV (endV s txn 0) (kb x.f0) t).1 ≠ 3) := ⟨fun x hx => by
    cases hp : prepOf s txn with
    | none => rw [hp] at hx; simp [zRec] at hx
    | some r =>
      rw [hp] at hx
      obtain ⟨h1, h2⟩ := prep_is hp
      rw [← h2]
      exact undo_free HEX.out h1 hx t⟩
  have HUS : Aside0 (sizesOk (undo txn)) := ⟨by simp [sizesOk, undo]⟩
  clear hask h0 h1 h2 h3 HEX HGD
  generalize (prepOf s txn).isSome = q at *
  generalize (prepOf s txn).getD zRec = r at *
  generalize endV s txn 0 = s2 at *
  go_wp2_with fail
  refine HPR.out.mono ?_
  rintro e w3 ⟨cs, rfl, hM, hb3⟩
  obtain ⟨v7, v8, rfl, h7, h8⟩ := k35_openM hM
  obtain ⟨B7, d7, rfl⟩ := Kd.R_slice h7
  obtain ⟨B8, d8, rfl⟩ := Kd.R_slice h8
  obtain ⟨w4, hw4⟩ : ∃ w4, w4 = w3.alloc (.cells #[.int .i64 r.f0, .int .i64 r.f1, .int .i64 r.f2, .int .i64 r.f3, .string r.f4, .string r.f5, .bool r.f6, .slice B7 r.f7.length d7, .slice B8 r.f8.length d8] 35) := ⟨_, rfl⟩
  have hb4 : Below w3.heap.size w3 w4 := by rw [hw4]; exact below_alloc (Below.refl _ _) _
  have hx4 : w4.heap[w3.heap.size]? = some (.cells #[.int .i64 r.f0, .int .i64 r.f1, .int .i64 r.f2, .int .i64 r.f3, .string r.f4, .string r.f5, .bool r.f6, .slice B7 r.f7.length d7, .slice B8 r.f8.length d8] 35 (0, 0)) := by rw [hw4]; exact blk_new _ _
  have HB3 := HB2.out.trans (hb3.mono HB2.out.size)
  have HB4 : Aside0 (Below w.heap.size w w4) := ⟨HB3.trans (hb4.mono HB3.size)⟩
  have HS4 := Aside0.mk ((HSH.out.below hb3).below hb4)
  have HG3 : Aside0 (w2.heap.size ≤ w3.heap.size) := ⟨hb3.size⟩
  have HR4 := Aside0.mk (Kd.R_below h8 hb4)
  have HX4 := Aside0.mk hx4
  have HW4 := Aside0.mk hw4
  have htl := tell_walk HS4.out 2 7 1 2 txn 0 0 ⟨#[]⟩ none 0 [] none 0 [] (Kd.C_nil _ _) (Nat.le_refl _) (Kd.C_nil _ _) (Nat.le_refl _) (by decide)
  rw [HAK.out, if_pos rfl] at htl
  have HTL : Aside0 (Calls Try.prog 21 #[.pointer (some ⟨b, 0, none⟩), .int .i64 2, .agg #[.int .i64 7, .int .i64 1, .int .i64 2, .int .i64 txn, .int .i64 0, .int .i64 0, .string ⟨#[]⟩, .slice none 0 0, .slice none 0 0]] w4 fun e w' => e = .returned (.tuple #[.agg #[.int .i64 8, .int .i64 2, .int .i64 1, .int .i64 txn, .int .i64 (tellV s txn).2, .int .i64 (tellV s txn).1, .string ⟨#[]⟩, .slice none 0 0, .slice none 0 0], .int .i64 0]) ∧ Below w4.heap.size w4 w') := ⟨htl⟩
  have htp := HTP.out
  clear hM h7 h8 hb3 hb4 hx4 hw4 htl HPR HSH HAK HTP HB2 HB3
  generalize tellV s txn = tl at *
  obtain ⟨tc, ts'⟩ := tl
  try simp only at HTL htp
  go_wp2_with fail
  rw [← HW4.out]
  refine HTL.out.mono ?_
  rintro e w5 ⟨rfl, hb5⟩
  obtain ⟨w6, hw6⟩ : ∃ w6, w6 = w5.alloc (.cells #[.int .i64 8, .int .i64 2, .int .i64 1, .int .i64 txn, .int .i64 ts', .int .i64 tc, .string ⟨#[]⟩, .slice none 0 0, .slice none 0 0] 46) := ⟨_, rfl⟩
  have hb6 : Below w5.heap.size w5 w6 := by rw [hw6]; exact below_alloc (Below.refl _ _) _
  have hb56 := hb5.trans (hb6.mono hb5.size)
  have hx6 := blk_below HX4.out hb56
  have HBL : Aside0 (Below w.heap.size w w6) := ⟨HB4.out.trans (hb56.mono HB4.out.size)⟩
  have HSL := Aside0.mk (HS4.out.below hb56)
  have HR6 := Aside0.mk (Kd.R_below HR4.out hb56)
  have HC8 : Aside0 (Kd.C k56 w6 B8 r.f8.length r.f8) := ⟨(Kd.R_reads' HR6.out).2.2⟩
  have hm8 := Kd.C_max HC8.out
  have HW6 := Aside0.mk hw6
  have HX6 := Aside0.mk hx6
  obtain ⟨q0, q1, q2, q3, q4, q5, q6, q7, q8⟩ := rec_cells hx6
  rw [hw6] at q0 q1 q2 q3 q4 q5 q6 q7 q8
  clear hb5 hb6 hb56 hw6 hx6 HTL HW4 HX4 HB4 HS4 HR4
  go_wp2_with fail
  rw [← HW6.out]
  clear q0 q1 q2 q3 q4 q5 q6 q7 q8 HW6
  go_loopw [81] (fun v wz => ∃ i : Nat, i ≤ r.f8.length ∧ v = .int .i64 (i : Int) ∧ Aside0 (Below w6.heap.size w6 wz)) (fun i _ => r.f8.length - (intOf i).toNat)
  case atStart => exact ⟨0, Nat.zero_le _, rfl, ⟨Below.refl _ _⟩⟩
  case round =>
    obtain ⟨i, hi, rfl, HB⟩ := hrel
    have HBW : Aside0 (Below w.heap.size w wr) := ⟨HBL.out.trans (HB.out.mono HBL.out.size)⟩
    by_cases hlt : i < r.f8.length
    · obtain ⟨ad, rfl, z0, z1, z2⟩ := wrK_at (Kd.C_below HC8.out HB.out) i hlt
      have hwk := HW1.out _ (List.getElem_mem hlt)
      have hky := HWK.out _ (List.getElem_mem hlt)
      generalize r.f8[i] = x at *
      obtain ⟨x0, x1, x2⟩ := x
      simp only at z0 z1 z2 hwk hky
      obtain ⟨wa, hwa⟩ : ∃ wa, wa = (wr.alloc (.cells #[.string x0, .string x1, .bool x2] 56)).alloc (.cells #[.string x0] 9) := ⟨_, rfl⟩
      have hba : Below wr.heap.size wr wa := by rw [hwa]; exact below_alloc (below_alloc (Below.refl _ _) _) _
      have hsa : wa.heap[wr.heap.size + 1]? = some (.cells #[.string x0] 9 (0, 0)) := by
        rw [hwa]
        have h := blk_new (wr.alloc (.cells #[.string x0, .string x1, .bool x2] 56)) (.cells #[.string x0] 9)
        rwa [show (wr.alloc (.cells #[.string x0, .string x1, .bool x2] 56)).heap.size = wr.heap.size + 1 by simp] at h
      have hba5 := HB.out.trans (hba.mono HB.out.size)
      have hsd := shard_yes (HSL.out.below hba5) 0 100 0 7 t 0 ⟨#[]⟩ ⟨wr.heap.size + 1, 0, none⟩ 1 x0 none 0 [] (C_one (cs := [.string x0]) hsa rfl) (Nat.le_refl _) (Kd.C_nil _ _) (Nat.le_refl _) (by decide) (Nat.le_trans (key_size hky) (by decide)) (read_ok (by have := HT1.out; omega) (by have := HT2.out; omega) hky)
      have HSD : Aside0 (Calls Try.prog 19 #[.pointer (some ⟨b, 0, none⟩), .int .i64 0, .agg #[.int .i64 1, .int .i64 100, .int .i64 0, .int .i64 7, .int .i64 t, .int .i64 0, .string ⟨#[]⟩, .slice (some ⟨wr.heap.size + 1, 0, none⟩) 1 1, .slice none 0 0]] wa fun e w' => ∃ g, e = .returned (.tuple #[.agg #[.int .i64 2, .int .i64 0, .int .i64 100, .int .i64 7, .int .i64 (readV s (kb x0) t).2.f0, .int .i64 (readV s (kb x0) t).1, .string (readV s (kb x0) t).2.f1, .slice (some ⟨g, 0, none⟩) 1 1, .slice none 0 0], .int .i64 0]) ∧ w'.heap[g]? = some (.cells #[.string x0] 9 (0, 0)) ∧ Below wa.heap.size wa w') := ⟨hsd⟩
      have HBA := Aside0.mk hba5
      have HWA := Aside0.mk hwa
      clear hba hsa hba5 hsd hky hwa
      generalize readV s (kb x0) t = rd at *
      obtain ⟨c, v0, v1, v2⟩ := rd
      try simp only at HSD hwk
      have HC3 := Aside0.mk hwk
      clear hwk
      go_wp2_with fail
      rw [← HWA.out]
      refine HSD.out.mono ?_
      rintro e wb ⟨g, rfl, -, hbb⟩
      obtain ⟨wd, hwd⟩ : ∃ wd, wd = wb.alloc (.cells #[.int .i64 2, .int .i64 0, .int .i64 100, .int .i64 7, .int .i64 v0, .int .i64 c, .string v1, .slice (some ⟨g, 0, none⟩) 1 1, .slice none 0 0] 46) := ⟨_, rfl⟩
      have hbd : Below wb.heap.size wb wd := by rw [hwd]; exact below_alloc (Below.refl _ _) _
      have HBB := HBA.out.trans (hbb.mono HBA.out.size)
      have HBD : Aside0 (Below w6.heap.size w6 wd) := ⟨HBB.trans (hbd.mono HBB.size)⟩
      have HWD := Aside0.mk hwd
      clear hbb hbd hwd HBB HSD HWA HBA z0 z1 z2
      rcases HC3.out with h3 | ⟨h4, ho⟩
      · subst h3
        go_wp2_with fail
        rw [← HWD.out]
        go_roundw
        case rel => exact ⟨i + 1, by omega, by go_num, HBD⟩
        case measure => simp [intOf]; omega
      · subst h4
        have do1 : decide (t < s.over) = true := decide_eq_true ho
        have HSW := Aside0.mk (swept_walk (HSL.out.below HBD.out))
        clear ho
        go_wp2_with fail
        rw [← HWD.out]
        refine HSW.out.mono ?_
        rintro e we ⟨rfl, hbe⟩
        have HBE : Aside0 (Below w6.heap.size w6 we) := ⟨HBD.out.trans (hbe.mono HBD.out.size)⟩
        clear hbe HSW HWD
        go_wp2_with fail
        go_roundw
        case rel => exact ⟨i + 1, by omega, by go_num, HBE⟩
        case measure => simp [intOf]; omega
    · obtain rfl : i = r.f8.length := by omega
      have HX7 := Aside0.mk (blk_below HX6.out HB.out)
      have HRW := Aside0.mk (Kd.R_below HR6.out HB.out)
      have HSN : Aside0 (ShAt wr (fun g => okp g ∨ wr.heap.size ≤ g) b 960 s) := ⟨(HSL.out.below HB.out).narrow (fun g hg _ => .inl hg)⟩
      have HG7 : Aside0 (w3.heap.size < wr.heap.size) := ⟨blk_lt HX7.out⟩
      cases q with
      | false =>
        go_wp2_with fail
        go_ret
        exact ⟨rfl, HBW.out⟩
      | true =>
        have hap := apply_walk HSN.out HEN.out (fun g hg => .inr hg) (by decide) (undo txn) [.int .i64 2, .int .i64 txn, .int .i64 0, .int .i64 0, .string ⟨#[]⟩, .string ⟨#[]⟩, .bool false, .slice none 0 0, .slice none 0 0] (k35_mk wr (undo txn) (A7 := none) (c7 := 0) (Nat.le_refl _) (Kd.C_nil _ _) (A8 := none) (c8 := 0) (Nat.le_refl _) (Kd.C_nil _ _)) HUS.out
        rw [HUN.out rfl] at hap
        have HAP : Aside0 (Calls Try.prog 13 #[.pointer (some ⟨b, 0, none⟩), .agg #[.int .i64 2, .int .i64 txn, .int .i64 0, .int .i64 0, .string ⟨#[]⟩, .string ⟨#[]⟩, .bool false, .slice none 0 0, .slice none 0 0]] wr fun e w' => e = .returned (.int .i64 0) ∧ ShAt w' (fun g => okp g ∨ wr.heap.size ≤ g) b (960 + 16) s2 ∧ Chg (fun g => okp g ∨ wr.heap.size ≤ g) wr w') := ⟨hap⟩
        clear hap HSL HC8 HX6 HR6 HSN hm8
        go_wp2_with fail
        refine HAP.out.mono ?_
        rintro e w7 ⟨rfl, hs7, hc7⟩
        have HBL7 : Aside0 (Below w.heap.size w w7) := ⟨hc7.below HBW.out HBW.out.size (fun g hg => by
          rcases hg with h | h
          · exact (HOKP.out g h).1
          · exact Nat.le_trans HBW.out.size h)⟩
        have hx7 : w7.heap[w3.heap.size]? = some (.cells #[.int .i64 r.f0, .int .i64 r.f1, .int .i64 r.f2, .int .i64 r.f3, .string r.f4, .string r.f5, .bool r.f6, .slice B7 r.f7.length d7, .slice B8 r.f8.length d8] 35 (0, 0)) := (hc7.block _ HG7.out (fun h => by
          rcases h with h | h
          · have h1 := (HOKP.out _ h).2
            have h2 := HG3.out
            omega
          · have := HG7.out
            omega)).trans HX7.out
        have HSL := Aside0.mk hs7
        have HR7 := Aside0.mk (R_chg HRW.out hc7)
        have HC8 : Aside0 (Kd.C k56 w7 B8 r.f8.length r.f8) := ⟨(Kd.R_reads' HR7.out).2.2⟩
        have hm8 := Kd.C_max HC8.out
        obtain ⟨q0, q1, q2, q3, q4, q5, q6, q7, q8⟩ := rec_cells hx7
        clear hs7 hc7 hx7 HAP HX7 HRW HBL HBW HB HR7
        go_wp2_with fail
        clear q0 q1 q2 q3 q4 q5 q6 q7 q8
        go_loopw [129] (fun v wz => ∃ i : Nat, i ≤ r.f8.length ∧ v = .int .i64 (i : Int) ∧ Aside0 (Below w7.heap.size w7 wz)) (fun i _ => r.f8.length - (intOf i).toNat)
        case atStart => exact ⟨0, Nat.zero_le _, rfl, ⟨Below.refl _ _⟩⟩
        case round =>
          obtain ⟨i, hi, rfl, HB⟩ := hrel
          have HBW : Aside0 (Below w.heap.size w wr) := ⟨HBL7.out.trans (HB.out.mono HBL7.out.size)⟩
          by_cases hlt : i < r.f8.length
          · obtain ⟨ad, rfl, z0, z1, z2⟩ := wrK_at (Kd.C_below HC8.out HB.out) i hlt
            have hwk := HW2.out _ (List.getElem_mem hlt)
            have hky := HWK.out _ (List.getElem_mem hlt)
            generalize r.f8[i] = x at *
            obtain ⟨x0, x1, x2⟩ := x
            simp only at z0 z1 z2 hwk hky
            obtain ⟨wa, hwa⟩ : ∃ wa, wa = (wr.alloc (.cells #[.string x0, .string x1, .bool x2] 56)).alloc (.cells #[.string x0] 9) := ⟨_, rfl⟩
            have hba : Below wr.heap.size wr wa := by rw [hwa]; exact below_alloc (below_alloc (Below.refl _ _) _) _
            have hsa : wa.heap[wr.heap.size + 1]? = some (.cells #[.string x0] 9 (0, 0)) := by
              rw [hwa]
              have h := blk_new (wr.alloc (.cells #[.string x0, .string x1, .bool x2] 56)) (.cells #[.string x0] 9)
              rwa [show (wr.alloc (.cells #[.string x0, .string x1, .bool x2] 56)).heap.size = wr.heap.size + 1 by simp] at h
            have hba5 := HB.out.trans (hba.mono HB.out.size)
            have hsd := shard_yes (HSL.out.below hba5) 0 100 0 7 t 0 ⟨#[]⟩ ⟨wr.heap.size + 1, 0, none⟩ 1 x0 none 0 [] (C_one (cs := [.string x0]) hsa rfl) (Nat.le_refl _) (Kd.C_nil _ _) (Nat.le_refl _) (by decide) (Nat.le_trans (key_size hky) (by decide)) (read_ok (by have := HT1.out; omega) (by have := HT2.out; omega) hky)
            have HSD : Aside0 (Calls Try.prog 19 #[.pointer (some ⟨b, 0, none⟩), .int .i64 0, .agg #[.int .i64 1, .int .i64 100, .int .i64 0, .int .i64 7, .int .i64 t, .int .i64 0, .string ⟨#[]⟩, .slice (some ⟨wr.heap.size + 1, 0, none⟩) 1 1, .slice none 0 0]] wa fun e w' => ∃ g, e = .returned (.tuple #[.agg #[.int .i64 2, .int .i64 0, .int .i64 100, .int .i64 7, .int .i64 (readV s2 (kb x0) t).2.f0, .int .i64 (readV s2 (kb x0) t).1, .string (readV s2 (kb x0) t).2.f1, .slice (some ⟨g, 0, none⟩) 1 1, .slice none 0 0], .int .i64 0]) ∧ w'.heap[g]? = some (.cells #[.string x0] 9 (0, 0)) ∧ Below wa.heap.size wa w') := ⟨hsd⟩
            have HBA := Aside0.mk hba5
            have HWA := Aside0.mk hwa
            clear hba hsa hba5 hsd hky hwa
            generalize readV s2 (kb x0) t = rd at *
            obtain ⟨c, v0, v1, v2⟩ := rd
            try simp only at HSD hwk
            have HC3 := Aside0.mk hwk
            clear hwk
            go_wp2_with fail
            rw [← HWA.out]
            refine HSD.out.mono ?_
            rintro e wb ⟨g, rfl, -, hbb⟩
            obtain ⟨wd, hwd⟩ : ∃ wd, wd = wb.alloc (.cells #[.int .i64 2, .int .i64 0, .int .i64 100, .int .i64 7, .int .i64 v0, .int .i64 c, .string v1, .slice (some ⟨g, 0, none⟩) 1 1, .slice none 0 0] 46) := ⟨_, rfl⟩
            have hbd : Below wb.heap.size wb wd := by rw [hwd]; exact below_alloc (Below.refl _ _) _
            have HBB := HBA.out.trans (hbb.mono HBA.out.size)
            have HBD : Aside0 (Below w7.heap.size w7 wd) := ⟨HBB.trans (hbd.mono HBB.size)⟩
            have HWD := Aside0.mk hwd
            clear hbb hbd hwd HBB HSD HWA HBA z0 z1 z2
            have d3 : (c == 3) = false := by simpa using HC3.out
            go_wp2_with fail
            rw [← HWD.out]
            go_roundw
            case rel => exact ⟨i + 1, by omega, by go_num, HBD⟩
            case measure => simp [intOf]; omega
          · obtain rfl : i = r.f8.length := by omega
            go_wp2_with fail
            go_ret
            exact ⟨rfl, HBW.out⟩
theorem voteHolds_walk (w : World) {l : List Rec} {A0 : Option Addr} {c0 : Nat} (hc0 : l.length ≤ c0) (hr0 : Kd.C k35 w A0 l.length l) (g0 : l.length * 120 ≤ 140737488351232 ∧ ∀ r, r ∈ l → okRec r) (txn t : Int) (htx : (Lit.int .i64 txn).wf = true) :
    Calls Try.prog 6 #[.slice A0 l.length c0, .int .i64 txn, .int .i64 t] w fun e w' => e = .returned (.bool true) ∧ Below w.heap.size w w' :=
  voteHolds_core w hr0 (fun r hr => sizesOk_rec (g0.2 r hr)) txn t (by
    have : IntKind.i64.min ≤ txn ∧ txn ≤ IntKind.i64.max := by simpa [Lit.wf] using htx
    have h1 : IntKind.i64.min = -9223372036854775808 := by decide
    have h2 : IntKind.i64.max = 9223372036854775807 := by decide
    omega)
end Go.Proofs.Ytaldfbmjmpkmmaa.PL
