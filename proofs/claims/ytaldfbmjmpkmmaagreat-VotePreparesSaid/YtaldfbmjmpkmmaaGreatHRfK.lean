/- The document's shelf, walked: do. -/
import Derived.Test.YtaldfbmjmpkmmaaGreatM672335
namespace Go.Proofs.YtaldfbmjmpkmmaaGreat.PL
open Go.RowKit Go.Proofs.YtaldfbmjmpkmmaaGreatW.PrintWords Go.Proofs.YtaldfbmjmpkmmaaGreatW.PrintLast Go.Proofs.YtaldfbmjmpkmmaaGreatW.PrintMore
set_option linter.unusedVariables false
set_option linter.unusedSimpArgs false
set_option linter.unusedSectionVars false
theorem writes_at {s : Sh} (h : s.P.Pairwise (fun a b => a.f1 < b.f1)) {t : Int} {k : Nat} (hk : k < s.P.length) (hkt : s.P[k].f1 = t) : writesOf s t = s.P[k].f8 := by
 unfold writesOf
 rw [find_at (fun r : Rec => decide (r.f1 = t)) s.P k hk (fun j hj hjk => by
  have := List.pairwise_iff_getElem.1 h j k hj hk hjk
  simp
  omega) (by simpa using hkt)]
 rfl
theorem prep_found {P : List Rec} {t i : Int} (hi : (i = -1 ∧ ∀ r ∈ P, r.f1 ≠ t) ∨ ∃ (k : Nat) (hk : k < P.length), i = (k : Int) ∧ P[k].f1 = t) (h0 : ∃ r ∈ P, r.f1 = t) : ∃ (k : Nat) (hk : k < P.length), i = (k : Int) ∧ P[k].f1 = t :=
 hi.elim (fun h => by obtain ⟨r, hr, e⟩ := h0; exact absurd e (h.2 r hr)) id
set_option maxRecDepth 100000 in
set_option maxHeartbeats 16000000 in
theorem rdo_walk {w : World} {ok : Nat → Prop} {b : Nat} {s : Sh} (h : RfAt w ok b s) (hok : ∀ g, w.heap.size ≤ g → ok g) (t ts : Int) (hts : 0 ≤ ts ∧ ts ≤ 1125899906842624) :
 Calls Tryz.prog 47 #[.pointer (some ⟨b, 0, none⟩), .int .i64 t, .int .i64 ts] w fun e w' => e = .returned (.int .i64 (doV s t ts).1) ∧ RfAt w' ok b (doV s t ts).2 ∧ Chg0 (fun g => g = b) w w' := by
 have hgood : ShOk s := by obtain ⟨AK, AP, AE, cK, cP, cE, hp⟩ := h; exact hp.good
 have hbl : b < w.heap.size := by obtain ⟨AK, AP, AE, cK, cP, cE, hp⟩ := h; exact blk_lt hp.box
 have HOK : Aside0 (∀ g, w.heap.size ≤ g → ok g) := ⟨hok⟩
 have HST := Aside0.mk (rstate_walk h t)
 have HS := Aside0.mk h
 have HG := Aside0.mk hgood
 have HTS := Aside0.mk hts
 have HDV : Aside0 (doV s t ts = if 1 < (stateV s t).1 ∧ (stateV s t).2 = ts then (6, s)
  else if 1 < (stateV s t).1 then (120, s)
  else if (stateV s t).1 = 1 ∧ 0 < ts then
   (if roomV s (writesOf s t) ts = 0 then (0, endV { s with K := putV s.K (writesOf s t) ts } t ts) else (roomV s (writesOf s t) ts, s))
  else (0, endV s t ts)) := ⟨rfl⟩
 have HWO := Aside0.mk (fun hz => writesOf_some (s := s) (t := t) hz)
 have HPU := Aside0.mk (fun h0 h1 h2 => do_put hgood (t := t) (ts := ts) ⟨h0, hts.2⟩ h1 h2)
 clear h hok hgood hbl hts
 generalize doV s t ts = dv at *
 generalize stateV s t = sv at *
 obtain ⟨s1, s2⟩ := sv
 try simp only at HDV HWO HPU
 go_enter Tryz.func47, Tryz.ntmps47
 go_wp2_with fail
 refine HST.out.mono ?_
 rintro e w1 ⟨rfl, hb1⟩
 have HB1 := Aside0.mk hb1
 have HS1 := Aside0.mk (HS.out.below hb1)
 clear hb1 HST
 by_cases h1 : 1 < s1
 ·have d1 : decide (s1 > 1) = true := decide_eq_true h1
  have d1b : decide (1 < s1) = true := decide_eq_true h1
  by_cases h2 : s2 = ts
  ·rw [if_pos ⟨h1, h2⟩] at HDV
   have d2 : (s2 == ts) = true := by simpa using h2
   obtain rfl := HDV.out
   clear HDV h1 h2 HWO HPU
   go_wp2_with fail
   go_ret
   exact ⟨rfl, HS1.out, Chg0.of_below HB1.out⟩
  ·rw [if_neg (fun h => h2 h.2), if_pos h1] at HDV
   have d2 : (s2 == ts) = false := by simpa using h2
   obtain rfl := HDV.out
   clear HDV h1 h2 HWO HPU
   go_wp2_with fail
   go_ret
   exact ⟨rfl, HS1.out, Chg0.of_below HB1.out⟩
 ·have d1 : decide (s1 > 1) = false := decide_eq_false h1
  have d1b : decide (1 < s1) = false := decide_eq_false h1
  rw [if_neg (fun h => h1 h.1), if_neg h1] at HDV
  clear h1
  have OK1 : Aside0 (∀ g, w1.heap.size ≤ g → ok g) := ⟨fun g hg => HOK.out g (Nat.le_trans HB1.out.size hg)⟩
  by_cases h3 : s1 = 1 ∧ 0 < ts
  ·obtain ⟨h3, h4⟩ := h3
   rw [if_pos ⟨h3, h4⟩] at HDV
   subst h3
   have d4 : decide (ts > 0) = true := decide_eq_true h4
   have d4b : decide (0 < ts) = true := decide_eq_true h4
   have HPU2 := Aside0.mk (HPU.out h4 rfl)
   obtain ⟨r0, hr0, hrt, hrw⟩ := HWO.out rfl
   have HR0 : Aside0 (∃ r ∈ s.P, r.f1 = t) := ⟨r0, hr0, hrt⟩
   have HWA : Aside0 (∀ (k : Nat) (hk : k < s.P.length), s.P[k].f1 = t → writesOf s t = s.P[k].f8) := ⟨fun k hk hkt => writes_at HG.out.rise hk hkt⟩
   clear hr0 hrt hrw HWO HPU h4
   generalize writesOf s t = l at *
   have HPR : Aside0 (∀ W, Below w1.heap.size w1 W → Calls Tryz.prog 95 #[.pointer (some ⟨b, 0, none⟩), .int .i64 t] W fun e w' => ∃ i : Int, e = .returned (.int .i64 i) ∧ ((i = -1 ∧ ∀ r ∈ s.P, r.f1 ≠ t) ∨ ∃ (k : Nat) (hk : k < s.P.length), i = (k : Int) ∧ s.P[k].f1 = t) ∧ Below W.heap.size W w') := ⟨fun W hW => rprep_walk (HS1.out.below hW) t⟩
   obtain ⟨AK, AP, AE, cK, cP, cE, hp⟩ := HS1.out
   have HP := Aside0.mk hp
   obtain ⟨-, c1, -, -⟩ := hp.cells
   have hP4 := hp.good.few
   clear hp
   go_upto_region 7 with (fail)
   go_cut [9] (fun v9 wc => ∃ A c, v9 = .slice A l.length c ∧ Aside0 (l.length ≤ c) ∧ Aside0 (Kd.F k57 wc (fun g => ok g ∧ g ≠ b) A l.length l) ∧ Aside0 (Below w1.heap.size w1 wc))
   case first =>
    go_region_law (go_simp; go_at_call 95; refine (HPR.out _ (by repeat (first | exact Below.refl _ _ | apply below_drew1))).mono ?_; rintro e w5 ⟨i, rfl, hi, hb5⟩; obtain ⟨k, hk, rfl, hkt⟩ : ∃ (k : Nat) (hk : k < s.P.length), i = (k : Int) ∧ s.P[k].f1 = t := prep_found hi HR0.out; have hwa := HWA.out k hk hkt; have HB5 : Aside0 (Below w1.heap.size w1 w5) := ⟨(by repeat (first | exact Below.refl _ _ | apply below_drew1) : Below w1.heap.size w1 _).trans (hb5.mono (by simp))⟩; obtain ⟨ad, cc, had, hcl, hFK, hcc0, -⟩ := Kd.F_get (HP.out.below HB5.out).fP (⟨0, 0, 0, 0, ⟨#[]⟩, ⟨#[]⟩, false, [], []⟩ : Rec) (k : Int) (by omega) (by omega); rw [Int.toNat_natCast] at hFK hcc0; have hgt : s.P.getD k (⟨0, 0, 0, 0, ⟨#[]⟩, ⟨#[]⟩, false, [], []⟩ : Rec) = s.P[k] := (by simp [List.getElem?_eq_getElem hk]); rw [hgt] at hFK; obtain ⟨A7, c7, A8, c8, hcs, l7, g7, l8, g8⟩ := k26_openF hFK; subst hcs; rw [← hwa] at l8 g8 hcc0; have HL8 := Aside0.mk l8; have HG8 := Aside0.mk g8; have z8 : w5.cell? ⟨(ad.add (k * 9)).block, (ad.add (k * 9)).off + 8, none⟩ = some (.slice A8 l.length c8) := (by rw [← add_field _ _ 8 (by omega)]; exact hcc0 8 _ rfl); obtain ⟨-, e1, -, -⟩ := (HP.out.below HB5.out).cells; subst had; clear hcc0 hFK hgt hwa l7 g7 l8 g8 hcl hb5 hi hkt)
    all_goals (try go_wp2_with fail)
    all_goals go_meet
    all_goals (case rel => exact ⟨A8, c8, rfl, HL8, ⟨Kd.F_below HG8.out (by repeat (first | exact Below.refl _ _ | apply below_drew1 | apply pw_below_drewN))⟩, ⟨by repeat (first | exact HB5.out | apply below_drew1 | apply pw_below_drewN)⟩⟩)
   case rest =>
    obtain ⟨A, c, rfl, HLC, HFL, HBC⟩ := hcut
    have HBX : Aside0 (Below w.heap.size w wc) := ⟨HB1.out.trans (HBC.out.mono HB1.out.size)⟩
    have HSC := Aside0.mk (HS1.out.below HBC.out)
    obtain ⟨c0, -, -, -⟩ := (HP.out.below HBC.out).cells
    have hlm := Kd.C_max (Kd.F_now HFL.out)
    have hK4 := HG.out.keys.few
    have HRV : Aside0 (roomV s l ts = if l.any (fun w => decide (ts ≤ lastV (look s.K (wkey w)))) = true then 110 else roomN s.K s.K.length l) := ⟨rfl⟩
    have HLA : Aside0 (∀ W, Below wc.heap.size wc W → ∀ key, Calls Tryz.prog 59 #[.pointer (some ⟨b, 0, none⟩), .string key] W fun e w' => e = .returned (.int .i64 (lastV (look s.K (kb key)))) ∧ Below W.heap.size W w') := ⟨fun W hW key => rflast_walk (HSC.out.below hW) key⟩
    clear HPR HR0 HWA HP c1 hP4 HS1 HB1
    generalize roomV s l ts = rv at *
    go_wp2_with fail
    go_loopw [11] (fun v wr => ∃ i : Nat, i ≤ l.length ∧ v = .int .i64 (i : Int) ∧ Aside0 (∀ (j : Nat) (hj : j < l.length), j < i → decide (ts ≤ lastV (look s.K (wkey l[j]))) = false) ∧ Aside0 (Below wc.heap.size wc wr)) (fun i _ => l.length - (intOf i).toNat)
    case atStart => exact ⟨0, Nat.zero_le _, rfl, ⟨fun j hj hk => absurd hk (by omega)⟩, ⟨Below.refl _ _⟩⟩
    case round =>
     obtain ⟨i, hi, rfl, HN, HB⟩ := hrel
     by_cases hlt : i < l.length
     ·obtain ⟨ad, rfl, z0, -, -⟩ := wrK_at (Kd.F_now (Kd.F_below HFL.out HB.out)) i hlt
      have HYES : Aside0 (decide (ts ≤ lastV (look s.K (wkey l[i]))) = true → l.any (fun w => decide (ts ≤ lastV (look s.K (wkey w)))) = true) := ⟨fun h => any_yes (fun w : Wr => decide (ts ≤ lastV (look s.K (wkey w)))) l i hlt h⟩
      have HNX : Aside0 (decide (ts ≤ lastV (look s.K (wkey l[i]))) = false → ∀ (j : Nat) (hj : j < l.length), j < i + 1 → decide (ts ≤ lastV (look s.K (wkey l[j]))) = false) := ⟨fun h => all_next (fun w : Wr => decide (ts ≤ lastV (look s.K (wkey w)))) l i hlt HN.out h⟩
      have HL := Aside0.mk (HLA.out wr HB.out l[i].f0)
      rw [show kb l[i].f0 = wkey l[i] from rfl] at HL
      generalize lastV (look s.K (wkey l[i])) = lv at *
      generalize l[i].f0 = x at z0 HL
      go_wp2_with fail
      refine HL.out.mono ?_
      rintro e w2 ⟨rfl, hb2⟩
      have HB2 : Aside0 (Below wc.heap.size wc w2) := ⟨HB.out.trans (hb2.mono HB.out.size)⟩
      clear hb2 HL z0
      cases hd : decide (ts ≤ lv) with
      | true =>
       rw [HYES.out hd, if_pos rfl] at HRV
       rw [HRV.out, if_neg (by decide)] at HDV
       obtain rfl := HDV.out
       clear HYES HNX HRV HDV HPU2
       go_wp2_with fail
       go_ret
       exact ⟨rfl, HSC.out.below HB2.out, (Chg0.of_below HBX.out).trans (Chg0.of_below HB2.out)⟩
      | false =>
       have HNN := Aside0.mk (HNX.out hd)
       clear HYES HNX
       go_wp2_with fail
       go_roundw
       case rel => exact ⟨i + 1, by omega, by go_num, HNN, HB2⟩
       case measure => simp [intOf]; omega
     ·obtain rfl : i = l.length := by omega
      have hany : l.any (fun w => decide (ts ≤ lastV (look s.K (wkey w)))) = false := any_no (fun w : Wr => decide (ts ≤ lastV (look s.K (wkey w)))) l (fun j hj => HN.out j hj hj)
      rw [hany, if_neg (by decide)] at HRV
      clear HN hany HLA
      obtain ⟨wo, hwo⟩ : ∃ wo, wo = wr := ⟨_, rfl⟩
      subst hwo
      have HBO : Aside0 (Below w.heap.size w wo) := ⟨HBX.out.trans (HB.out.mono HBX.out.size)⟩
      have HSO := Aside0.mk (HSC.out.below HB.out)
      have HFO := Aside0.mk (Kd.F_below HFL.out HB.out)
      clear HB HBX HSC HFL HBC
      go_wp2_with fail
      go_loopw [10, 12] (fun v10 v wr => ∃ i n : Nat, i ≤ l.length ∧ n ≤ 1024 ∧ v = .int .i64 (i : Int) ∧ v10 = .int .i64 (n : Int) ∧ Aside0 (rv = roomN s.K n (l.drop i)) ∧ Aside0 (Below wo.heap.size wo wr)) (fun _ i _ => l.length - (intOf i).toNat)
      case atStart => exact ⟨0, s.K.length, Nat.zero_le _, hK4, rfl, rfl, ⟨HRV.out⟩, ⟨Below.refl _ _⟩⟩
      case round =>
       clear HRV
       obtain ⟨i, n, hi, hn4, rfl, rfl, HRN, HB⟩ := hrel
       by_cases hlt : i < l.length
       ·obtain ⟨ad, rfl, z0, -, -⟩ := wrK_at (Kd.F_now (Kd.F_below HFO.out HB.out)) i hlt
        have hdr : l.drop i = l[i] :: l.drop (i + 1) := List.drop_eq_getElem_cons hlt
        have HRE : Aside0 (rv = if 1024 ≤ (look s.K (wkey l[i])).length ∨ 1024 < cntK s.K n l[i] then 2 else roomN s.K (cntK s.K n l[i]) (l.drop (i + 1))) := ⟨by rw [HRN.out, hdr]; rfl⟩
        have HCN : Aside0 (cntK s.K n l[i] = if (look s.K (wkey l[i])).isEmpty = true then n + 1 else n) := ⟨rfl⟩
        have HAT := Aside0.mk (rat_walk (HSO.out.below HB.out) l[i].f0)
        rw [show kb l[i].f0 = wkey l[i] from rfl, atB_empty HG.out.keys (wkey l[i])] at HAT
        have HCH : Aside0 (∀ W, Below wo.heap.size wo W → Calls Tryz.prog 97 #[.pointer (some ⟨b, 0, none⟩), .string l[i].f0] W fun e w' => ∃ A c, e = .returned (.slice A (look s.K (wkey l[i])).length c) ∧ (look s.K (wkey l[i])).length ≤ c ∧ Kd.C k43 w' A (look s.K (wkey l[i])).length (look s.K (wkey l[i])) ∧ Below W.heap.size W w') := ⟨fun W hW => rchain_walk (HSO.out.below hW) l[i].f0⟩
        have hcl := (HG.out.keys.look (wkey l[i])).len
        clear hdr HRN
        generalize cntK s.K n l[i] = m at *
        generalize look s.K (wkey l[i]) = ch at *
        generalize atN s.K (wkey l[i]) = an at *
        generalize l[i].f0 = x at *
        go_wp2_with fail
        refine HAT.out.mono ?_
        rintro e w2 ⟨rfl, hb2⟩
        have HB2 : Aside0 (Below wo.heap.size wo w2) := ⟨HB.out.trans (hb2.mono HB.out.size)⟩
        have HCH2 := Aside0.mk (HCH.out w2 HB2.out)
        have z0b := pw_cell_below hb2 z0
        clear hb2 HAT z0 HCH
        have hm5 : m ≤ 1025 := by
         rw [HCN.out]
         split <;> omega
        have hfin : ∀ (K : Act → World → Prop), True := fun _ => trivial
        cases he : ch.isEmpty with
        | true =>
         rw [he, if_pos rfl] at HCN
         obtain rfl := HCN.out
         clear he hfin HCN
         go_wp2_with fail
         refine HCH2.out.mono ?_
         rintro e w3 ⟨A1, c1, rfl, -, -, hb3⟩
         have HB3 : Aside0 (Below wo.heap.size wo w3) := ⟨HB2.out.trans (hb3.mono HB2.out.size)⟩
         clear hb3 HCH2 z0b
         by_cases h5 : 1024 ≤ ch.length ∨ 1024 < n + 1
         ·rw [if_pos h5] at HRE
          rw [HRE.out, if_neg (by decide)] at HDV
          obtain rfl := HDV.out
          by_cases h6 : 1024 ≤ ch.length
          ·have d6 : decide ((ch.length : Int) ≥ 1024) = true := decide_eq_true (by omega)
           have d6b : decide (1024 ≤ ch.length) = true := decide_eq_true h6
           clear h5 h6 HRE HDV HPU2
           go_wp2_with fail
           go_ret
           exact ⟨rfl, HSO.out.below HB3.out, (Chg0.of_below HBO.out).trans (Chg0.of_below HB3.out)⟩
          ·have d6 : decide ((ch.length : Int) ≥ 1024) = false := decide_eq_false (by omega)
           have d6b : decide (1024 ≤ ch.length) = false := decide_eq_false h6
           have d7 : decide ((n : Int) + 1 > 1024) = true := decide_eq_true (by omega)
           have d7b : decide (1024 < (n : Int) + 1) = true := decide_eq_true (by omega)
           clear h5 h6 HRE HDV HPU2
           go_wp2_with fail
           go_ret
           exact ⟨rfl, HSO.out.below HB3.out, (Chg0.of_below HBO.out).trans (Chg0.of_below HB3.out)⟩
         ·rw [if_neg h5] at HRE
          have d6 : decide ((ch.length : Int) ≥ 1024) = false := decide_eq_false (by omega)
          have d6b : decide (1024 ≤ ch.length) = false := decide_eq_false (by omega)
          have d7 : decide ((n : Int) + 1 > 1024) = false := decide_eq_false (by omega)
          have d7b : decide (1024 < (n : Int) + 1) = false := decide_eq_false (by omega)
          have hn5 : n + 1 ≤ 1024 := by omega
          clear h5
          go_wp2_with fail
          go_roundw
          case rel => exact ⟨i + 1, n + 1, by omega, hn5, by go_num, by go_num, HRE, HB3⟩
          case measure => simp [intOf]; omega
        | false =>
         rw [he, if_neg (by decide)] at HCN
         obtain rfl := HCN.out
         clear he hfin HCN
         go_wp2_with fail
         refine HCH2.out.mono ?_
         rintro e w3 ⟨A1, c1, rfl, -, -, hb3⟩
         have HB3 : Aside0 (Below wo.heap.size wo w3) := ⟨HB2.out.trans (hb3.mono HB2.out.size)⟩
         clear hb3 HCH2 z0b
         by_cases h6 : 1024 ≤ ch.length
         ·rw [if_pos (.inl h6)] at HRE
          rw [HRE.out, if_neg (by decide)] at HDV
          obtain rfl := HDV.out
          have d6 : decide ((ch.length : Int) ≥ 1024) = true := decide_eq_true (by omega)
          have d6b : decide (1024 ≤ ch.length) = true := decide_eq_true h6
          clear h6 HRE HDV HPU2
          go_wp2_with fail
          go_ret
          exact ⟨rfl, HSO.out.below HB3.out, (Chg0.of_below HBO.out).trans (Chg0.of_below HB3.out)⟩
         ·rw [if_neg (by omega)] at HRE
          have d6 : decide ((ch.length : Int) ≥ 1024) = false := decide_eq_false (by omega)
          have d6b : decide (1024 ≤ ch.length) = false := decide_eq_false (by omega)
          have d7 : decide ((m : Int) > 1024) = false := decide_eq_false (by omega)
          have d7b : decide (1024 < m) = false := decide_eq_false (by omega)
          clear h6
          go_wp2_with fail
          go_roundw
          case rel => exact ⟨i + 1, m, by omega, hn4, by go_num, rfl, HRE, HB3⟩
          case measure => simp [intOf]; omega
       ·obtain rfl : i = l.length := by omega
        have hrv : rv = 0 := by rw [HRN.out, List.drop_of_length_le (Nat.le_refl _)]; rfl
        rw [if_pos hrv] at HDV
        have HPO := Aside0.mk (HPU2.out hrv)
        obtain rfl := HDV.out
        obtain ⟨wq, hwq⟩ : ∃ wq, wq = wr := ⟨_, rfl⟩
        subst hwq
        have HBQ : Aside0 (Below w.heap.size w wq) := ⟨HBO.out.trans (HB.out.mono HBO.out.size)⟩
        have HSQ := Aside0.mk (HSO.out.below HB.out)
        have HFQ := Aside0.mk (Kd.F_below HFO.out HB.out)
        clear HB HBO HSO HFO HDV HPU2 HRN hrv
        go_wp2_with fail
        go_loopw [15] (fun v wr => ∃ (i : Nat) (K : List KC), i ≤ l.length ∧ v = .int .i64 (i : Int) ∧ Aside0 (putV s.K l ts = putV K (l.drop i) ts ∧ KOk K ∧ PutOk K (l.drop i) ts) ∧ Aside0 (RfAt wr ok b { s with K := K }) ∧ Aside0 (Chg0 (fun g => g = b) wq wr)) (fun i _ => l.length - (intOf i).toNat)
        case atStart => exact ⟨0, s.K, Nat.zero_le _, rfl, ⟨rfl, HG.out.keys, HPO.out⟩, HSQ, ⟨Chg0.of_below (Below.refl _ _)⟩⟩
        case round =>
         obtain ⟨i, K, hi, rfl, HF, HSH, HCH⟩ := hrel
         by_cases hlt : i < l.length
         ·obtain ⟨ad, rfl, z0, z1, z2⟩ := wrK_at (Kd.F_now (Kd.F_step HFQ.out (fun k hk hl => HCH.out.block k hl (fun e => hk.2 e)))) i hlt
          have hdr : l.drop i = l[i] :: l.drop (i + 1) := List.drop_eq_getElem_cons hlt
          have HF2 := HF.out
          rw [hdr] at HF2
          obtain ⟨hf1, hf2, hf3⟩ := HF2
          generalize l[i] = x at *
          obtain ⟨n1, n2⟩ := put1_ok hf2 hf3
          have hver := hf3.ver x List.mem_cons_self
          have hlast := hf3.last x List.mem_cons_self
          have hroom := (cntK_le hf3.room).1
          have HF3 : Aside0 (putV s.K l ts = putV (put1 ts K x) (l.drop (i + 1)) ts ∧ KOk (put1 ts K x) ∧ PutOk (put1 ts K x) (l.drop (i + 1)) ts) := ⟨hf1, n1, n2⟩
          have OKR : Aside0 (∀ g, wr.heap.size ≤ g → ok g) := ⟨fun g hg => HOK.out g (Nat.le_trans (Nat.le_trans HBQ.out.size HCH.out.size) hg)⟩
          have HAD : Aside0 (∀ W, Below wr.heap.size wr W → Calls Tryz.prog 49 #[.pointer (some ⟨b, 0, none⟩), .string x.f0, .agg #[.int .i64 ts, .string x.f1, .bool x.f2]] W fun e w' => e = .returned (.tuple #[]) ∧ RfAt w' ok b { s with K := put1 ts K x } ∧ Chg0 (fun g => g = b) W w') := ⟨fun W hW => radd_walk (HSH.out.below hW) (fun g hg => OKR.out g (Nat.le_trans hW.size hg)) x ts hver hlast hroom n1⟩
          clear hdr hf1 hf2 hf3 n1 n2 hver hlast hroom HF
          obtain ⟨x0, x1, x2⟩ := x
          try simp only at z0 z1 z2 HAD
          go_wp2_with fail
          go_region_law (go_simp; go_at_call 49; refine (HAD.out _ (by repeat (first | exact Below.refl _ _ | apply below_drew1))).mono ?_; rintro e w5 ⟨rfl, hs5, hc5⟩; have HS5 := Aside0.mk hs5; have HC5 : Aside0 (Chg0 (fun g => g = b) wr w5) := ⟨(Chg0.of_below (by repeat (first | exact Below.refl _ _ | apply below_drew1))).trans hc5⟩; clear hs5 hc5)
          all_goals (try go_wp2_with fail)
          all_goals go_roundw
          all_goals (first | exact ⟨i + 1, put1 ts K ⟨x0, x1, x2⟩, by omega, by go_num, HF3, ⟨HS5.out.below (by repeat (first | exact Below.refl _ _ | apply below_drew1 | apply pw_below_drewN))⟩, ⟨(HCH.out.trans HC5.out).trans (Chg0.of_below (by repeat (first | exact Below.refl _ _ | apply below_drew1 | apply pw_below_drewN)))⟩⟩ | (simp [intOf]; omega))
         ·obtain rfl : i = l.length := by omega
          have hK : putV s.K l ts = K := by rw [HF.out.1, List.drop_of_length_le (Nat.le_refl _)]; rfl
          have OKR : Aside0 (∀ g, wr.heap.size ≤ g → ok g) := ⟨fun g hg => HOK.out g (Nat.le_trans (Nat.le_trans HBQ.out.size HCH.out.size) hg)⟩
          have HEN := Aside0.mk (rend_walk HSH.out OKR.out t ts HTS.out.1)
          subst hK
          clear HF
          go_wp2_with fail
          refine HEN.out.mono ?_
          rintro e w6 ⟨rfl, hs6, hc6⟩
          have HS6 := Aside0.mk hs6
          have HC6 := Aside0.mk hc6
          clear hs6 hc6 HEN
          go_wp2_with fail
          go_ret
          exact ⟨rfl, HS6.out, ((Chg0.of_below HBQ.out).trans HCH.out).trans HC6.out⟩
  ·rw [if_neg h3] at HDV
   have HEN := Aside0.mk (rend_walk HS1.out OK1.out t ts HTS.out.1)
   obtain rfl := HDV.out
   clear HDV HWO HPU
   by_cases h5 : s1 = 1
   ·have h4 : ¬ 0 < ts := fun h => h3 ⟨h5, h⟩
    have d4 : decide (ts > 0) = false := decide_eq_false h4
    have d4b : decide (0 < ts) = false := decide_eq_false h4
    subst h5
    clear h3 h4
    go_wp2_with fail
    refine HEN.out.mono ?_
    rintro e w2 ⟨rfl, hs2, hc2⟩
    have HS2 := Aside0.mk hs2
    have HC2 := Aside0.mk hc2
    clear hs2 hc2 HEN
    go_wp2_with fail
    go_ret
    exact ⟨rfl, HS2.out, (Chg0.of_below HB1.out).trans HC2.out⟩
   ·have d5 : (s1 == 1) = false := by simpa using h5
    clear h3 h5
    go_wp2_with fail
    refine HEN.out.mono ?_
    rintro e w2 ⟨rfl, hs2, hc2⟩
    have HS2 := Aside0.mk hs2
    have HC2 := Aside0.mk hc2
    clear hs2 hc2 HEN
    go_wp2_with fail
    go_ret
    exact ⟨rfl, HS2.out, (Chg0.of_below HB1.out).trans HC2.out⟩
end Go.Proofs.YtaldfbmjmpkmmaaGreat.PL
