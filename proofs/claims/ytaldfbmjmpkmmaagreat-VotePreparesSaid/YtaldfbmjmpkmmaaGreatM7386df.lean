/- Texts of this proof, one behind the other (merged by a program of this session). -/
import Derived.Test.YtaldfbmjmpkmmaaGreatM509f0c
import Derived.Test.YtaldfbmjmpkmmaaGreatHRfK
import Derived.Test.YtaldfbmjmpkmmaaGreatM4fbfbd
namespace Go.Proofs.YtaldfbmjmpkmmaaGreat.PL
open Go.RowKit Go.Proofs.YtaldfbmjmpkmmaaGreatW.PrintWords Go.Proofs.YtaldfbmjmpkmmaaGreatW.PrintLast Go.Proofs.YtaldfbmjmpkmmaaGreatW.PrintMore Go.Shelf Go.Maps Go.WideMaps Go.Proofs.YtaldfbmjmpkmmaaGreat.Mk
set_option linter.unusedVariables false
set_option linter.unusedSimpArgs false
set_option linter.unusedSectionVars false
theorem sizesOk_rec {r : Rec} (h : okRec r) : sizesOk r := by
 unfold okRec at h
 unfold sizesOk
 omega

section
variable {ok ok' : Nat → Prop} {w w' : World} {b N : Nat} {s : Sh} {bk bp : Nat} {ve : Value} {fk fp : Lit → Option Value}
/-- A shelf's blocks are there: of them alone must be asked what is ok. -/
theorem Parts.narrow (h : Parts w ok b N s bk bp ve fk fp) (hok : ∀ g, ok g → g < w.heap.size → ok' g) : Parts w ok' b N s bk bp ve fk fp :=
 ⟨h.box, h.keys, h.preps, Kd.R_mono (Kd.R_bound h.ends) (fun k hk => hok k hk.1 hk.2.2.1), fun q v hq => by
  obtain ⟨k, h1, h2, h3⟩ := h.kf q v hq
  exact ⟨k, h1, h2, Kd.R_mono (Kd.R_bound h3) (fun k hk => hok k hk.1 hk.2.2.1)⟩, h.kt, fun q v hq => by
  obtain ⟨r, h1, h2, cs, h3, h4⟩ := h.pf q v hq
  exact ⟨r, h1, h2, cs, h3, k26.M_mono (fun k hk => hok k hk.1 hk.2.2.1) (k26.M_bound h4)⟩, h.pt, hok b h.okb (blk_lt h.box), hok bk h.okk h.keys.lt, hok bp h.okp h.preps.lt, h.ne, h.good⟩
theorem ShAt.narrow (h : ShAt w ok b N s) (hok : ∀ g, ok g → g < w.heap.size → ok' g) : ShAt w ok' b N s := by
 obtain ⟨bk, bp, ve, fk, fp, hp⟩ := h
 exact ⟨bk, bp, ve, fk, fp, hp.narrow hok⟩
/-- .. and stay where others change. -/
theorem Parts.apart (h : Parts w ok b N s bk bp ve fk fp) (hc : Chg0 ok' w w') (hd : ∀ g, ok g → ¬ ok' g) : Parts w' ok b N s bk bp ve fk fp :=
 have hb : ∀ g, ok g → g < w.heap.size → w'.heap[g]? = w.heap[g]? := fun g hg hl => hc.block g hl (hd g hg)
 have hm : ∀ {k n : Nat} {x : Nat} {f : Lit → Option Value}, ok x → MapL Tryz.prog k w x n f → MapL Tryz.prog k w' x n f := fun hx h => by
  have hl := h.lt
  obtain ⟨D, ⟨es, clock, h1, h2, h3, h4⟩, hh⟩ := h
  exact ⟨D, ⟨es, clock, (hb _ hx hl).trans h1, h2, h3, h4⟩, hh⟩
 ⟨(hb b h.okb (blk_lt h.box)).trans h.box, hm h.okk h.keys, hm h.okp h.preps, R_keep h.ends (fun g hg q _ cells hc => hb g hg (blk_lt hc)), fun q v hq => by
  obtain ⟨k, h1, h2, h3⟩ := h.kf q v hq
  exact ⟨k, h1, h2, R_keep h3 (fun g hg q _ cells hc => hb g hg (blk_lt hc))⟩, h.kt, fun q v hq => by
  obtain ⟨r, h1, h2, cs, h3, h4⟩ := h.pf q v hq
  exact ⟨r, h1, h2, cs, h3, M_keep h4 (fun g hg q _ cells hc => hb g hg (blk_lt hc))⟩, h.pt, h.okb, h.okk, h.okp, h.ne, h.good⟩
theorem ShAt.apart (h : ShAt w ok b N s) (hc : Chg0 ok' w w') (hd : ∀ g, ok g → ¬ ok' g) : ShAt w' ok b N s := by
 obtain ⟨bk, bp, ve, fk, fp, hp⟩ := h
 exact ⟨bk, bp, ve, fk, fp, hp.apart hc hd⟩
end
end Go.Proofs.YtaldfbmjmpkmmaaGreat.PL
namespace Go.Proofs.YtaldfbmjmpkmmaaGreat.PL
open Go.RowKit Go.Proofs.YtaldfbmjmpkmmaaGreatW.PrintWords Go.Proofs.YtaldfbmjmpkmmaaGreatW.PrintLast Go.Proofs.YtaldfbmjmpkmmaaGreatW.PrintMore
set_option linter.unusedVariables false
set_option linter.unusedSimpArgs false
set_option linter.unusedSectionVars false
theorem okR_80 {r : Rec} (h : okR r ≠ 0) : okR r = 80 := by
 unfold okR recV at *
 split
 ·rfl
 ·rename_i h1
  rw [if_neg h1] at h
  split
  ·rename_i h2
   rw [if_pos h2] at h
   exact absurd rfl h
  ·rfl
set_option maxRecDepth 100000 in
set_option maxHeartbeats 16000000 in
theorem rapply_walk {w : World} {ok : Nat → Prop} {b : Nat} {s : Sh} (h : RfAt w ok b s) (hok : ∀ g, w.heap.size ≤ g → ok g) (r : Rec) (cs : List Value) (hr : Kd.FK k26 w (fun g => ok g ∧ g ≠ b) r cs) (hs : sizesOk r) :
 Calls Tryz.prog 20 #[.pointer (some ⟨b, 0, none⟩), .agg cs.toArray] w fun e w' => e = .returned (.int .i64 (applyV s r).1) ∧ RfAt w' ok b (applyV s r).2 ∧ Chg0 (fun g => g = b) w w' := by
 have hgood : ShOk s := by obtain ⟨AK, AP, AE, cK, cP, cE, hp⟩ := h; exact hp.good
 obtain ⟨A7, c7, A8, c8, rfl, l7, g7, l8, g8⟩ := k26_openF hr
 obtain ⟨wy, hwy⟩ : ∃ wy, wy = w.alloc (.cells #[.int .i64 r.f0, .int .i64 r.f1, .int .i64 r.f2, .int .i64 r.f3, .string r.f4, .string r.f5, .bool r.f6, .slice A7 r.f7.length c7, .slice A8 r.f8.length c8] 26) := ⟨_, rfl⟩
 have hby : Below w.heap.size w wy := by rw [hwy]; exact below_alloc (Below.refl _ _) _
 have hyx : wy.heap[w.heap.size]? = some (.cells #[.int .i64 r.f0, .int .i64 r.f1, .int .i64 r.f2, .int .i64 r.f3, .string r.f4, .string r.f5, .bool r.f6, .slice A7 r.f7.length c7, .slice A8 r.f8.length c8] 26 (0, 0)) := by rw [hwy]; exact blk_new _ _
 have HWY := Aside0.mk hwy
 have HBY := Aside0.mk hby
 have HYX := Aside0.mk hyx
 have HS := Aside0.mk h
 have HG := Aside0.mk hgood
 have HOK := Aside0.mk hok
 have HFR := Aside0.mk hr
 have HCK : Aside0 (Calls Tryz.prog 45 #[.agg #[.int .i64 r.f0, .int .i64 r.f1, .int .i64 r.f2, .int .i64 r.f3, .string r.f4, .string r.f5, .bool r.f6, .slice A7 r.f7.length c7, .slice A8 r.f8.length c8]] wy fun e w' => e = .returned (.int .i64 (okR r)) ∧ Below wy.heap.size wy w') := ⟨refCheck_walk wy r.f0 r.f1 r.f2 r.f3 r.f4 r.f5 r.f6 A7 c7 r.f7 A8 c8 r.f8 (Kd.C_below (Kd.F_now g7) hby) l7 (Kd.C_below (Kd.F_now g8) hby) l8 hs.2⟩
 have HAV : Aside0 (applyV s r = if okR r = 0 then
  (if r.f0 = 1 then prepV s r
  else if r.f0 = 2 then doV s r.f1 r.f2
  else if r.f0 = 4 then sweepV s r.f2
  else if r.f0 = 3 then (if roomV s [verW r] r.f2 = 0 then (0, { s with K := putV s.K [verW r] r.f2 }) else (roomV s [verW r] r.f2, s))
  else (80, s))
 else (okR r, s)) := ⟨rfl⟩
 have HOKR := Aside0.mk (fun hz => okR_all (r := r) hz)
 have HVF := Aside0.mk (fun hz he => ver_facts (r := r) hz he)
 have HVP := Aside0.mk (fun hz he hm => ver_put (s := s) (r := r) hz he hm)
 have HPRE : Aside0 (∀ W, Below w.heap.size w W → r.f0 = 1 → okR r = 0 → Calls Tryz.prog 46 #[.pointer (some ⟨b, 0, none⟩), .agg #[.int .i64 r.f0, .int .i64 r.f1, .int .i64 r.f2, .int .i64 r.f3, .string r.f4, .string r.f5, .bool r.f6, .slice A7 r.f7.length c7, .slice A8 r.f8.length c8]] W fun e w' => e = .returned (.int .i64 (prepV s r).1) ∧ RfAt w' ok b (prepV s r).2 ∧ Chg0 (fun g => g = b) W w') := ⟨fun W hW h0 hz => rprepare_walk (HS.out.below hW) (fun g hg => HOK.out g (Nat.le_trans hW.size hg)) r _ (Kd.FK_step HFR.out (fun k _ hk => hW.block k hk)) h0 hz⟩
 obtain ⟨q0, q1, q2, q3, q4, q5, q6, q7, q8⟩ := rec_cells hyx
 have h80 := okR_80 (r := r)
 clear h hok hr hgood g7 g8 l7 l8 hby hyx hwy
 generalize applyV s r = av at *
 generalize okR r = k at *
 go_enter Tryz.func20, Tryz.ntmps20
 go_wp2_with fail
 rw [← HWY.out]
 refine HCK.out.mono ?_
 rintro e w1 ⟨rfl, hb1⟩
 have HB1 : Aside0 (Below w.heap.size w w1) := ⟨HBY.out.trans (hb1.mono HBY.out.size)⟩
 have HX1 := Aside0.mk (blk_below HYX.out hb1)
 have HS1 := Aside0.mk (HS.out.below HB1.out)
 have OK1 : Aside0 (∀ g, w1.heap.size ≤ g → ok g) := ⟨fun g hg => HOK.out g (Nat.le_trans HB1.out.size hg)⟩
 clear q0 q1 q2 q3 q4 q5 q6 q7 q8 hb1 HCK HYX HBY HWY
 obtain ⟨q0, q1, q2, q3, q4, q5, q6, q7, q8⟩ := rec_cells HX1.out
 by_cases hk : k = 0
 ·subst hk
  clear h80
  rw [if_pos rfl] at HAV
  by_cases k1 : r.f0 = 1
  ·rw [if_pos k1] at HAV
   have b1 : (r.f0 == 1) = true := by simpa using k1
   have HP := Aside0.mk (HPRE.out w1 HB1.out k1 rfl)
   generalize prepV s r = pv at *
   obtain rfl := HAV.out
   clear HAV k1 HPRE HOKR HVF HVP
   go_wp2_with fail
   refine HP.out.mono ?_
   rintro e w2 ⟨rfl, hs2, hc2⟩
   have HS2 := Aside0.mk hs2
   have HC2 := Aside0.mk hc2
   clear hs2 hc2 HP q0 q1 q2 q3 q4 q5 q6 q7 q8
   go_wp2_with fail
   go_ret
   exact ⟨rfl, HS2.out, (Chg0.of_below HB1.out).trans HC2.out⟩
  ·rw [if_neg k1] at HAV
   have b1 : (r.f0 == 1) = false := by simpa using k1
   by_cases k2 : r.f0 = 2
   ·rw [if_pos k2] at HAV
    have b2 : (r.f0 == 2) = true := by simpa using k2
    have HD := Aside0.mk (rdo_walk HS1.out OK1.out r.f1 r.f2 (HOKR.out rfl).2.1)
    generalize doV s r.f1 r.f2 = pv at *
    obtain rfl := HAV.out
    clear HAV k1 k2 HPRE HOKR HVF HVP
    go_wp2_with fail
    refine HD.out.mono ?_
    rintro e w2 ⟨rfl, hs2, hc2⟩
    have HS2 := Aside0.mk hs2
    have HC2 := Aside0.mk hc2
    clear hs2 hc2 HD q0 q1 q2 q3 q4 q5 q6 q7 q8
    go_wp2_with fail
    go_ret
    exact ⟨rfl, HS2.out, (Chg0.of_below HB1.out).trans HC2.out⟩
   ·rw [if_neg k2] at HAV
    have b2 : (r.f0 == 2) = false := by simpa using k2
    by_cases k4 : r.f0 = 4
    ·rw [if_pos k4] at HAV
     have b4 : (r.f0 == 4) = true := by simpa using k4
     have b3 : (r.f0 == 3) = false := by simp [k4]
     have HD := Aside0.mk (rsweep_walk HS1.out OK1.out r.f2 (HOKR.out rfl).2.1.2)
     generalize sweepV s r.f2 = pv at *
     obtain rfl := HAV.out
     clear HAV k1 k2 k4 HPRE HOKR HVF HVP
     go_wp2_with fail
     refine HD.out.mono ?_
     rintro e w2 ⟨rfl, hs2, hc2⟩
     have HS2 := Aside0.mk hs2
     have HC2 := Aside0.mk hc2
     clear hs2 hc2 HD q0 q1 q2 q3 q4 q5 q6 q7 q8
     go_wp2_with fail
     go_ret
     exact ⟨rfl, HS2.out, (Chg0.of_below HB1.out).trans HC2.out⟩
    ·rw [if_neg k4] at HAV
     have b4 : (r.f0 == 4) = false := by simpa using k4
     by_cases k3 : r.f0 = 3
     ·rw [if_pos k3] at HAV
      have b3 : (r.f0 == 3) = true := by simpa using k3
      obtain ⟨vf1, vf2, vf3, vf4⟩ := HVF.out k3 rfl
      have hvo : VerOk ⟨r.f2, r.f5, r.f6⟩ := ⟨by show 1 ≤ r.f2; omega, (HOKR.out rfl).2.1.2, vf3, vf4⟩
      have HVO := Aside0.mk hvo
      have HPK : Aside0 (roomV s [verW r] r.f2 = 0 → PutOk s.K [verW r] r.f2) := ⟨fun hm => HVP.out k3 rfl hm⟩
      obtain ⟨w3, hw3⟩ : ∃ w3, w3 = w1.alloc (.cells #[.int .i64 r.f2, .string r.f5, .bool r.f6] 43) := ⟨_, rfl⟩
      have hb3 : Below w1.heap.size w1 w3 := by rw [hw3]; exact below_alloc (Below.refl _ _) _
      have hy3 : w3.heap[w1.heap.size]? = some (.cells #[.int .i64 r.f2, .string r.f5, .bool r.f6] 43 (0, 0)) := by rw [hw3]; exact blk_new _ _
      have HX3 := Aside0.mk (blk_below HX1.out hb3)
      have HY3 := Aside0.mk hy3
      have HW3 := Aside0.mk hw3
      have HB3 : Aside0 (Below w.heap.size w w3) := ⟨HB1.out.trans (hb3.mono HB1.out.size)⟩
      have HS3 := Aside0.mk (HS1.out.below hb3)
      have HM : Aside0 (Calls Tryz.prog 48 #[.pointer (some ⟨b, 0, none⟩), .string r.f4, .agg #[.int .i64 r.f2, .string r.f5, .bool r.f6]] w3 fun e w' => e = .returned (.int .i64 (roomV s [verW r] r.f2)) ∧ Below w3.heap.size w3 w') := ⟨rmay_walk HS3.out (verW r) r.f2 hvo⟩
      have HAD : Aside0 (∀ W, Below w3.heap.size w3 W → roomV s [verW r] r.f2 = 0 → Calls Tryz.prog 49 #[.pointer (some ⟨b, 0, none⟩), .string r.f4, .agg #[.int .i64 r.f2, .string r.f5, .bool r.f6]] W fun e w' => e = .returned (.tuple #[]) ∧ RfAt w' ok b { s with K := putV s.K [verW r] r.f2 } ∧ Chg0 (fun g => g = b) W w') := ⟨fun W hW hm => by
       have hp := HPK.out hm
       exact radd_walk (HS3.out.below hW) (fun g hg => HOK.out g (Nat.le_trans (HB3.out.trans (hW.mono HB3.out.size)).size hg)) (verW r) r.f2 HVO.out (hp.last _ List.mem_cons_self) (cntK_le hp.room).1 (put1_ok HG.out.keys hp).1⟩
      clear vf1 vf2 vf3 vf4 hvo hw3 hb3 hy3 k1 k2 k4 k3 HPRE HOKR HVF HVP HPK HVO
      have y0 := blk_cell HY3.out 0
      have y1 := blk_cell HY3.out 1
      have y2 := blk_cell HY3.out 2
      rw [HW3.out] at y0 y1 y2
      have x4 : (w1.alloc (.cells #[.int .i64 r.f2, .string r.f5, .bool r.f6] 43)).cell? ⟨w.heap.size, 4, none⟩ = some (.string r.f4) := by rw [← HW3.out, blk_cell HX3.out 4]; rfl
      generalize roomV s [verW r] r.f2 = rm at *
      go_wp2_with fail
      rw [← HW3.out]
      refine HM.out.mono ?_
      rintro e w4 ⟨rfl, hb4⟩
      have HB4 : Aside0 (Below w.heap.size w w4) := ⟨HB3.out.trans (hb4.mono HB3.out.size)⟩
      have HS4 := Aside0.mk (HS3.out.below hb4)
      have HX4 := Aside0.mk (blk_below HX3.out hb4)
      have HY4 := Aside0.mk (blk_below HY3.out hb4)
      have HAD4 := Aside0.mk (HAD.out w4 hb4)
      clear q0 q1 q2 q3 q4 q5 q6 q7 q8 y0 y1 y2 x4 hb4 HM HAD
      have y0 := blk_cell HY4.out 0
      have y1 := blk_cell HY4.out 1
      have y2 := blk_cell HY4.out 2
      obtain ⟨q0, q1, q2, q3, q4, q5, q6, q7, q8⟩ := rec_cells HX4.out
      by_cases hm : rm = 0
      ·have HA := Aside0.mk (HAD4.out hm)
       rw [if_pos hm] at HAV
       subst hm
       obtain rfl := HAV.out
       clear HAV HAD4
       go_wp2_with fail
       refine HA.out.mono ?_
       rintro e w5 ⟨rfl, hs5, hc5⟩
       have HS5 := Aside0.mk hs5
       have HC5 := Aside0.mk hc5
       clear hs5 hc5 HA q0 q1 q2 q3 q4 q5 q6 q7 q8 y0 y1 y2
       go_wp2_with fail
       go_ret
       exact ⟨rfl, HS5.out, (Chg0.of_below HB4.out).trans HC5.out⟩
      ·have d1 : (rm == 0) = false := by simpa using hm
       have d2 : (rm != 0) = true := by simpa using hm
       rw [if_neg hm] at HAV
       obtain rfl := HAV.out
       clear HAV HAD4 hm
       go_wp2_with fail
       go_ret
       exact ⟨rfl, HS4.out, Chg0.of_below HB4.out⟩
     ·rw [if_neg k3] at HAV
      have b3 : (r.f0 == 3) = false := by simpa using k3
      obtain rfl := HAV.out
      clear HAV k1 k2 k4 k3 HPRE HOKR HVF HVP
      go_wp2_with fail
      go_ret
      exact ⟨rfl, HS1.out, Chg0.of_below HB1.out⟩
 ·obtain rfl := h80 hk
  rw [if_neg (by decide)] at HAV
  obtain rfl := HAV.out
  clear HAV hk HPRE HOKR HVF HVP
  go_wp2_with fail
  go_ret
  exact ⟨rfl, HS1.out, Chg0.of_below HB1.out⟩
end Go.Proofs.YtaldfbmjmpkmmaaGreat.PL
namespace Go.Proofs.YtaldfbmjmpkmmaaGreat.PL
open Go.RowKit Go.Proofs.YtaldfbmjmpkmmaaGreatW.PrintWords Go.Proofs.YtaldfbmjmpkmmaaGreatW.PrintLast Go.Proofs.YtaldfbmjmpkmmaaGreatW.PrintMore
set_option linter.unusedVariables false
set_option linter.unusedSimpArgs false
set_option linter.unusedSectionVars false
/-- The shelf at b and the document's at rb: no block of one is the other's; all since w0. -/
def Duo (w0 w : World) (b n rb : Nat) (s t : Sh) : Prop := ∃ okp : Nat → Prop, ShAt w okp b n s ∧ RfAt w (fun g => ¬ okp g) rb t ∧ (∀ g, okp g → w0.heap.size ≤ g ∧ g < w.heap.size) ∧ w0.heap.size ≤ rb ∧ Below w0.heap.size w0 w
section
variable {w0 w w' : World} {b n rb : Nat} {s t : Sh}
theorem Duo.below (h : Duo w0 w b n rb s t) (hb : Below w.heap.size w w') : Duo w0 w' b n rb s t := by
 obtain ⟨okp, h1, h2, h3, h4, h5⟩ := h
 exact ⟨okp, h1.below hb, h2.below hb, fun g hg => ⟨(h3 g hg).1, Nat.lt_of_lt_of_le (h3 g hg).2 hb.size⟩, h4, h5.trans (hb.mono h5.size)⟩
theorem Duo.world (h : Duo w0 w b n rb s t) : Below w0.heap.size w0 w := let ⟨_, _, _, _, _, h5⟩ := h; h5

theorem Duo.okR (h : Duo w0 w b n rb s t) : ShOk t := let ⟨_, _, ⟨_, _, _, _, _, _, hp⟩, _, _, _⟩ := h; hp.good
theorem Duo.shelf (h : Duo w0 w b n rb s t) : ∃ ok, ShAt w ok b n s := let ⟨okp, h1, _, _, _, _⟩ := h; ⟨okp, h1⟩

theorem Duo.apply_p (h : Duo w0 w b n rb s t) (hE : s.E.length ≤ 1024) (hN : n + 1024 < maxLen) (r : Rec) (cs : List Value) (hK : k26.K w r cs) (hs : sizesOk r) :
 Calls Tryz.prog 10 #[.pointer (some ⟨b, 0, none⟩), .agg cs.toArray] w fun e w' => e = .returned (.int .i64 (applyV s r).1) ∧ Duo w0 w' b (n + 16) rb (applyV s r).2 t := by
 obtain ⟨okp, h1, h2, h3, h4, h5⟩ := h
 refine (apply_walk (ok := fun g => okp g ∨ w.heap.size ≤ g) (h1.narrow (fun g hg _ => .inl hg)) hE (fun g hg => .inr hg) hN r cs hK hs).mono ?_
 rintro e w' ⟨rfl, hs', hc⟩
 refine ⟨rfl, fun g => (okp g ∨ w.heap.size ≤ g) ∧ g < w'.heap.size, hs'.narrow (fun g hg hl => ⟨hg, hl⟩), ?_, fun g hg => ⟨?_, hg.2⟩, h4, ?_⟩
 ·have h6 : RfAt w (fun g => ¬ okp g ∧ g < w.heap.size) rb t := h2.mono (fun g hg hl => ⟨hg, hl⟩)
  have h7 : RfAt w' (fun g => ¬ okp g ∧ g < w.heap.size) rb t := h6.apart hc.toChg0 (fun g hg hl h => by rcases h with h | h; exact hg.1 h; omega)
  exact h7.mono (fun g hg hl h => by rcases h.1 with h | h; exact hg.1 h; omega)
 ·rcases hg.1 with h | h
  ·exact (h3 g h).1
  ·exact Nat.le_trans h5.size h
 ·exact hc.below h5 h5.size (fun g hg => by
   rcases hg with h | h
   ·exact (h3 g h).1
   ·exact Nat.le_trans h5.size h)
theorem Duo.apply_r (h : Duo w0 w b n rb s t) (r : Rec) (cs : List Value) (hK : Kd.FK k26 w (fun g => g < w0.heap.size) r cs) (hs : sizesOk r) :
 Calls Tryz.prog 20 #[.pointer (some ⟨rb, 0, none⟩), .agg cs.toArray] w fun e w' => e = .returned (.int .i64 (applyV t r).1) ∧ Duo w0 w' b n rb s (applyV t r).2 := by
 obtain ⟨okp, h1, h2, h3, h4, h5⟩ := h
 have hrb : ¬ okp rb := let ⟨_, _, _, _, _, _, hp⟩ := h2; hp.okb
 refine (rapply_walk h2 (fun g hg h => by have := (h3 g h).2; omega) r cs (Kd.FK_mono hK (fun g hg => ⟨fun h => by have := (h3 g h).1; omega, by omega⟩)) hs).mono ?_
 rintro e w' ⟨rfl, hs', hc⟩
 refine ⟨rfl, okp, h1.apart hc (fun g hg h => hrb (by rw [← h]; exact hg)), hs', fun g hg => ⟨(h3 g hg).1, Nat.lt_of_lt_of_le (h3 g hg).2 hc.size⟩, h4, hc.below h5 h5.size (fun g hg => by rw [hg]; exact h4)⟩
end
/-- An argument's record, read for good. -/
theorem arg_rec {w0 : World} {A : Option Addr} {l : List Rec} (h : Kd.C k26 w0 A l.length l) (k : Nat) (hk : k < l.length) : ∃ ad A7 c7 A8 c8, A = some ad ∧ Kd.FK k26 w0 (fun g => g < w0.heap.size) l[k] [.int .i64 l[k].f0, .int .i64 l[k].f1, .int .i64 l[k].f2, .int .i64 l[k].f3, .string l[k].f4, .string l[k].f5, .bool l[k].f6, .slice A7 l[k].f7.length c7, .slice A8 l[k].f8.length c8] ∧
 ∀ j u, [Value.int .i64 l[k].f0, .int .i64 l[k].f1, .int .i64 l[k].f2, .int .i64 l[k].f3, .string l[k].f4, .string l[k].f5, .bool l[k].f6, .slice A7 l[k].f7.length c7, .slice A8 l[k].f8.length c8][j]? = some u → w0.cell? (ad.add (k * 9 + j)) = some u := by
 obtain ⟨ad, cs, rfl, hlen, hK, hc0, -⟩ := Kd.F_get (Kd.C_F heapR h) (⟨0, 0, 0, 0, ⟨#[]⟩, ⟨#[]⟩, false, [], []⟩ : Rec) (k : Int) (by omega) (by omega)
 rw [Int.toNat_natCast] at hK hc0
 have hget : l.getD k (⟨0, 0, 0, 0, ⟨#[]⟩, ⟨#[]⟩, false, [], []⟩ : Rec) = l[k] := by simp [List.getElem?_eq_getElem hk]
 rw [hget] at hK
 generalize l[k] = r at *
 obtain ⟨A7, c7, A8, c8, rfl, l7, g7, l8, g8⟩ := k26_openF hK
 exact ⟨ad, A7, c7, A8, c8, rfl, hK, hc0⟩
theorem rec_fields {w : World} {ad : Addr} {k : Nat} {v0 v1 v2 v3 v4 v5 v6 v7 v8 : Value} (hc : ∀ j u, [v0, v1, v2, v3, v4, v5, v6, v7, v8][j]? = some u → w.cell? (ad.add (k * 9 + j)) = some u) :
 w.cell? (ad.add (k * 9)) = some v0 ∧ w.cell? ⟨(ad.add (k * 9)).block, (ad.add (k * 9)).off + 1, none⟩ = some v1 ∧ w.cell? ⟨(ad.add (k * 9)).block, (ad.add (k * 9)).off + 2, none⟩ = some v2 ∧ w.cell? ⟨(ad.add (k * 9)).block, (ad.add (k * 9)).off + 3, none⟩ = some v3 ∧ w.cell? ⟨(ad.add (k * 9)).block, (ad.add (k * 9)).off + 4, none⟩ = some v4 ∧ w.cell? ⟨(ad.add (k * 9)).block, (ad.add (k * 9)).off + 5, none⟩ = some v5 ∧
 w.cell? ⟨(ad.add (k * 9)).block, (ad.add (k * 9)).off + 6, none⟩ = some v6 ∧ w.cell? ⟨(ad.add (k * 9)).block, (ad.add (k * 9)).off + 7, none⟩ = some v7 ∧ w.cell? ⟨(ad.add (k * 9)).block, (ad.add (k * 9)).off + 8, none⟩ = some v8 :=
 ⟨hc 0 _ rfl, by rw [← add_field _ _ 1 (by omega)]; exact hc 1 _ rfl, by rw [← add_field _ _ 2 (by omega)]; exact hc 2 _ rfl, by rw [← add_field _ _ 3 (by omega)]; exact hc 3 _ rfl, by rw [← add_field _ _ 4 (by omega)]; exact hc 4 _ rfl, by rw [← add_field _ _ 5 (by omega)]; exact hc 5 _ rfl, by rw [← add_field _ _ 6 (by omega)]; exact hc 6 _ rfl, by rw [← add_field _ _ 7 (by omega)]; exact hc 7 _ rfl, by rw [← add_field _ _ 8 (by omega)]; exact hc 8 _ rfl⟩
theorem rf_new {w : World} {ok : Nat → Prop} (ho : ok w.heap.size) : RfAt (w.alloc (.cells #[.slice none 0 0, .slice none 0 0, .slice none 0 0, .int .i64 0] 51)) ok w.heap.size sh0 :=
 ⟨none, none, none, 0, 0, 0, blk_new _ _, Nat.le_refl _, Nat.le_refl _, Nat.le_refl _, Kd.F_nil _ _ _, Kd.F_nil _ _ _, Kd.F_nil _ _ _, ho, by simp [sh0], by simp [sh0], sh0_ok⟩
set_option maxRecDepth 100000 in
set_option maxHeartbeats 8000000 in
theorem made19_walk (w : World) (A : Option Addr) (c : Nat) (l : List Rec) (hr : Kd.C k26 w A l.length l) (hs : ∀ r ∈ l, sizesOk r) :
 Calls Tryz.prog 24 #[.slice A l.length c] w fun e w' => ∃ b rb, e = .returned (.tuple #[.pointer (some ⟨b, 0, none⟩), .pointer (some ⟨rb, 0, none⟩)]) ∧ Duo w w' b 960 rb (madeV l) (madeV l) := by
 have HNW := Aside0.mk (new_walk w)
 have HR := Aside0.mk hr
 have HS := Aside0.mk hs
 have hmax := Kd.C_max hr
 have HMV : Aside0 (madeV l = (l.take 60).foldl (fun s r => (applyV s r).2) sh0) := ⟨rfl⟩
 clear hr hs
 go_enter Tryz.func24, Tryz.ntmps24
 go_wp2_with fail
 refine HNW.out.mono ?_
 rintro e w1 ⟨b, rfl, hs1, hb1⟩
 obtain ⟨w2, hw2⟩ : ∃ w2, w2 = w1.alloc (.cells #[.slice none 0 0, .slice none 0 0, .slice none 0 0, .int .i64 0] 51) := ⟨_, rfl⟩
 have hb2 : Below w1.heap.size w1 w2 := by rw [hw2]; exact below_alloc (Below.refl _ _) _
 obtain ⟨rb, hrb⟩ : ∃ rb, rb = w1.heap.size := ⟨_, rfl⟩
 have hD : Duo w w2 b 0 rb sh0 sh0 := ⟨fun g => w.heap.size ≤ g ∧ g < w1.heap.size, (hs1.narrow (fun g hg hl => ⟨hg, hl⟩)).below hb2, by rw [hw2, hrb]; exact rf_new (fun h => by have := h.2; omega), fun g hg => ⟨hg.1, Nat.lt_of_lt_of_le hg.2 hb2.size⟩, by rw [hrb]; exact hb1.size, hb1.trans (hb2.mono hb1.size)⟩
 have HD : Aside0 (Duo w w2 b (16 * 0) rb ((l.take 0).foldl (fun s r => (applyV s r).2) sh0) ((l.take 0).foldl (fun s r => (applyV s r).2) sh0)) := ⟨hD⟩
 have HW2 := Aside0.mk hw2
 have HRB := Aside0.mk hrb
 clear hs1 hb1 hb2 hw2 hrb hD HNW
 go_wp2_with fail
 rw [← HW2.out, ← HRB.out]
 clear HW2 HRB
 go_loopw [6] (fun i wr => ∃ k : Nat, k ≤ l.length ∧ k ≤ 60 ∧ i = .int .i64 (k : Int) ∧ Aside0 (Duo w wr b (16 * k) rb ((l.take k).foldl (fun s r => (applyV s r).2) sh0) ((l.take k).foldl (fun s r => (applyV s r).2) sh0))) (fun i _ => l.length - (intOf i).toNat)
 case atStart => exact ⟨0, Nat.zero_le _, Nat.zero_le _, rfl, HD⟩
 case round =>
  clear HD
  obtain ⟨k, hk, hk6, rfl, HD⟩ := hrel
  by_cases hlt : k < l.length ∧ k < 60
  ·obtain ⟨hlt, hlt6⟩ := hlt
   obtain ⟨ad, A7, c7, A8, c8, rfl, hFK, hcc⟩ := arg_rec HR.out k hlt
   have hmem : l[k] ∈ l := List.getElem_mem _
   have HMT := Aside0.mk (made_take l k hlt)
   have hend := fold_ends (l.take k) (s := sh0) (by simp [sh0])
   generalize l[k] = r at *
   have HSZ := Aside0.mk (HS.out r hmem)
   have HFK := Aside0.mk hFK
   have HCC := Aside0.mk hcc
   obtain ⟨z0, z1, z2, z3, z4, z5, z6, z7, z8⟩ := rec_fields (w := wr) (fun j u hu => (HD.out.world.cell (World.block_lt_of_cell? w _ (hcc j u hu))).trans (hcc j u hu))
   generalize (l.take k).foldl (fun s r => (applyV s r).2) sh0 = s at *
   have HAP := Aside0.mk (HD.out.apply_p hend (Nat.lt_of_le_of_lt (show 16 * k + 1024 ≤ 960 + 1024 by omega) (by decide)) r _ (Kd.FK_now (Kd.FK_step HFK.out (fun g _ hg => HD.out.world.block g hg))) HSZ.out)
   clear hcc hFK hend hmem
   go_wp2_with fail
   refine HAP.out.mono ?_
   rintro e w3 ⟨rfl, hD3⟩
   have HD3 := Aside0.mk hD3
   clear hD3 HAP z0 z1 z2 z3 z4 z5 z6 z7 z8 HD
   obtain ⟨z0, z1, z2, z3, z4, z5, z6, z7, z8⟩ := rec_fields (w := w3) (fun j u hu => (HD3.out.world.cell (World.block_lt_of_cell? w _ (HCC.out j u hu))).trans (HCC.out j u hu))
   have HAP := Aside0.mk (HD3.out.apply_r r _ (Kd.FK_step HFK.out (fun g _ hg => HD3.out.world.block g hg)) HSZ.out)
   generalize (applyV s r).1 = rv at *
   go_wp2_with fail
   refine HAP.out.mono ?_
   rintro e w4 ⟨rfl, hD4⟩
   have HD4 : Aside0 (Duo w w4 b (16 * (k + 1)) rb ((l.take (k + 1)).foldl (fun s r => (applyV s r).2) sh0) ((l.take (k + 1)).foldl (fun s r => (applyV s r).2) sh0)) := ⟨by rw [HMT.out]; exact hD4⟩
   clear hD4 HAP z0 z1 z2 z3 z4 z5 z6 z7 z8 HD3 HMT
   go_wp2_with fail
   go_roundw
   case rel => exact ⟨k + 1, by omega, by omega, by go_num, HD4⟩
   case measure => simp [intOf]; omega
  ·have HEND : Aside0 (Duo w wr b 960 rb (madeV l) (madeV l)) := ⟨by
    rw [HMV.out]
    have e : l.take 60 = l.take k := by
     by_cases h6 : k = 60
     ·rw [h6]
     ·rw [List.take_of_length_le (show l.length ≤ 60 by omega), List.take_of_length_le (show l.length ≤ k by omega)]
    rw [e]
    obtain ⟨okp, h1, h2, h3, h4, h5⟩ := HD.out
    exact ⟨okp, h1.mono (by omega), h2, h3, h4, h5⟩⟩
   by_cases h6 : k < l.length
   ·have h60 : ¬ k < 60 := fun h => hlt ⟨h6, h⟩
    clear hlt
    go_wp2
    go_ret2
    exact ⟨b, rb, rfl, HEND.out⟩
   ·clear hlt
    go_wp2
    go_ret2
    exact ⟨b, rb, rfl, HEND.out⟩
end Go.Proofs.YtaldfbmjmpkmmaaGreat.PL
