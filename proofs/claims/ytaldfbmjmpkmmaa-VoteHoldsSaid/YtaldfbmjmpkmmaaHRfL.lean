/- The document's shelf, walked: Apply. -/
import Derived.Test.YtaldfbmjmpkmmaaHRfK
import Derived.Test.YtaldfbmjmpkmmaaM152a89
import Derived.Test.YtaldfbmjmpkmmaaHShNa
namespace Go.Proofs.Ytaldfbmjmpkmmaa.PL
open Go.RowKit Go.Proofs.YtaldfbmjmpkmmaaW.PrintWords Go.Proofs.YtaldfbmjmpkmmaaW.PrintLast Go.Proofs.YtaldfbmjmpkmmaaW.PrintMore
set_option linter.unusedVariables false
set_option linter.unusedSimpArgs false
set_option linter.unusedSectionVars false
theorem okR_80 {r : Rec} (h : okR r ≠ 0) : okR r = 80 := by
  unfold okR recV at *
  split
  · rfl
  · rename_i h1
    rw [if_neg h1] at h
    split
    · rename_i h2
      rw [if_pos h2] at h
      exact absurd rfl h
    · rfl
set_option maxRecDepth 100000 in
set_option maxHeartbeats 16000000 in
theorem rapply_walk {w : World} {ok : Nat → Prop} {b : Nat} {s : Sh} (h : RfAt w ok b s) (hok : ∀ g, w.heap.size ≤ g → ok g) (r : Rec) (cs : List Value) (hr : Kd.FK k35 w (fun g => ok g ∧ g ≠ b) r cs) (hs : sizesOk r) :
    Calls Try.prog 41 #[.pointer (some ⟨b, 0, none⟩), .agg cs.toArray] w fun e w' => e = .returned (.int .i64 (applyV s r).1) ∧ RfAt w' ok b (applyV s r).2 ∧ Chg0 (fun g => g = b) w w' := by
  have hgood : ShOk s := by obtain ⟨AK, AP, AE, cK, cP, cE, hp⟩ := h; exact hp.good
  obtain ⟨A7, c7, A8, c8, rfl, l7, g7, l8, g8⟩ := k35_openF hr
  obtain ⟨wy, hwy⟩ : ∃ wy, wy = w.alloc (.cells #[.int .i64 r.f0, .int .i64 r.f1, .int .i64 r.f2, .int .i64 r.f3, .string r.f4, .string r.f5, .bool r.f6, .slice A7 r.f7.length c7, .slice A8 r.f8.length c8] 35) := ⟨_, rfl⟩
  have hby : Below w.heap.size w wy := by rw [hwy]; exact below_alloc (Below.refl _ _) _
  have hyx : wy.heap[w.heap.size]? = some (.cells #[.int .i64 r.f0, .int .i64 r.f1, .int .i64 r.f2, .int .i64 r.f3, .string r.f4, .string r.f5, .bool r.f6, .slice A7 r.f7.length c7, .slice A8 r.f8.length c8] 35 (0, 0)) := by rw [hwy]; exact blk_new _ _
  have HWY := Aside0.mk hwy
  have HBY := Aside0.mk hby
  have HYX := Aside0.mk hyx
  have HS := Aside0.mk h
  have HG := Aside0.mk hgood
  have HOK := Aside0.mk hok
  have HFR := Aside0.mk hr
  have HCK : Aside0 (Calls Try.prog 85 #[.agg #[.int .i64 r.f0, .int .i64 r.f1, .int .i64 r.f2, .int .i64 r.f3, .string r.f4, .string r.f5, .bool r.f6, .slice A7 r.f7.length c7, .slice A8 r.f8.length c8]] wy fun e w' => e = .returned (.int .i64 (okR r)) ∧ Below wy.heap.size wy w') := ⟨refCheck_walk wy r.f0 r.f1 r.f2 r.f3 r.f4 r.f5 r.f6 A7 c7 r.f7 A8 c8 r.f8 (Kd.C_below (Kd.F_now g7) hby) l7 (Kd.C_below (Kd.F_now g8) hby) l8 hs.2⟩
  have HAV : Aside0 (applyV s r = if okR r = 0 then
    (if r.f0 = 1 then prepV s r
    else if r.f0 = 2 then doV s r.f1 r.f2
    else if r.f0 = 4 then sweepV s r.f2
    else if r.f0 = 3 then (if roomV s [verW r] r.f2 = 0 then (0, { s with K := putV s.K [verW r] r.f2 }) else (roomV s [verW r] r.f2, s))
    else (80, s))
  else (okR r, s)) := ⟨rfl⟩
  have HOKR := Aside0.mk (fun hz => okR_all (r := r) hz)
  have HVF := Aside0.mk (fun hz he => ver_facts (r := r) hz he)
  have HVP := Aside0.mk (fun hz he hm => ver_put (s := s) (r := r) hz he hm)
  have HPRE : Aside0 (∀ W, Below w.heap.size w W → r.f0 = 1 → okR r = 0 → Calls Try.prog 86 #[.pointer (some ⟨b, 0, none⟩), .agg #[.int .i64 r.f0, .int .i64 r.f1, .int .i64 r.f2, .int .i64 r.f3, .string r.f4, .string r.f5, .bool r.f6, .slice A7 r.f7.length c7, .slice A8 r.f8.length c8]] W fun e w' => e = .returned (.int .i64 (prepV s r).1) ∧ RfAt w' ok b (prepV s r).2 ∧ Chg0 (fun g => g = b) W w') := ⟨fun W hW h0 hz => rprepare_walk (HS.out.below hW) (fun g hg => HOK.out g (Nat.le_trans hW.size hg)) r _ (Kd.FK_step HFR.out (fun k _ hk => hW.block k hk)) h0 hz⟩
  obtain ⟨q0, q1, q2, q3, q4, q5, q6, q7, q8⟩ := rec_cells hyx
  have h80 := okR_80 (r := r)
  clear h hok hr hgood g7 g8 l7 l8 hby hyx hwy
  generalize applyV s r = av at *
  generalize okR r = k at *
  go_enter Try.func41, Try.ntmps41
  go_wp2_with fail
  rw [← HWY.out]
  refine HCK.out.mono ?_
  rintro e w1 ⟨rfl, hb1⟩
  have HB1 : Aside0 (Below w.heap.size w w1) := ⟨HBY.out.trans (hb1.mono HBY.out.size)⟩
  have HX1 := Aside0.mk (blk_below HYX.out hb1)
  have HS1 := Aside0.mk (HS.out.below HB1.out)
  have OK1 : Aside0 (∀ g, w1.heap.size ≤ g → ok g) := ⟨fun g hg => HOK.out g (Nat.le_trans HB1.out.size hg)⟩
  clear q0 q1 q2 q3 q4 q5 q6 q7 q8 hb1 HCK HYX HBY HWY
  obtain ⟨q0, q1, q2, q3, q4, q5, q6, q7, q8⟩ := rec_cells HX1.out
  by_cases hk : k = 0
  · subst hk
    clear h80
    rw [if_pos rfl] at HAV
    by_cases k1 : r.f0 = 1
    · rw [if_pos k1] at HAV
      have b1 : (r.f0 == 1) = true := by simpa using k1
      have HP := Aside0.mk (HPRE.out w1 HB1.out k1 rfl)
      generalize prepV s r = pv at *
      obtain rfl := HAV.out
      clear HAV k1 HPRE HOKR HVF HVP
      go_wp2_with fail
      refine HP.out.mono ?_
      rintro e w2 ⟨rfl, hs2, hc2⟩
      have HS2 := Aside0.mk hs2
      have HC2 := Aside0.mk hc2
      clear hs2 hc2 HP q0 q1 q2 q3 q4 q5 q6 q7 q8
      go_wp2_with fail
      go_ret
      exact ⟨rfl, HS2.out, (Chg0.of_below HB1.out).trans HC2.out⟩
    · rw [if_neg k1] at HAV
      have b1 : (r.f0 == 1) = false := by simpa using k1
      by_cases k2 : r.f0 = 2
      · rw [if_pos k2] at HAV
        have b2 : (r.f0 == 2) = true := by simpa using k2
        have HD := Aside0.mk (rdo_walk HS1.out OK1.out r.f1 r.f2 (HOKR.out rfl).2.1)
        generalize doV s r.f1 r.f2 = pv at *
        obtain rfl := HAV.out
        clear HAV k1 k2 HPRE HOKR HVF HVP
        go_wp2_with fail
        refine HD.out.mono ?_
        rintro e w2 ⟨rfl, hs2, hc2⟩
        have HS2 := Aside0.mk hs2
        have HC2 := Aside0.mk hc2
        clear hs2 hc2 HD q0 q1 q2 q3 q4 q5 q6 q7 q8
        go_wp2_with fail
        go_ret
        exact ⟨rfl, HS2.out, (Chg0.of_below HB1.out).trans HC2.out⟩
      · rw [if_neg k2] at HAV
        have b2 : (r.f0 == 2) = false := by simpa using k2
        by_cases k4 : r.f0 = 4
        · rw [if_pos k4] at HAV
          have b4 : (r.f0 == 4) = true := by simpa using k4
          have b3 : (r.f0 == 3) = false := by simp [k4]
          have HD := Aside0.mk (rsweep_walk HS1.out OK1.out r.f2 (HOKR.out rfl).2.1.2)
          generalize sweepV s r.f2 = pv at *
          obtain rfl := HAV.out
          clear HAV k1 k2 k4 HPRE HOKR HVF HVP
          go_wp2_with fail
          refine HD.out.mono ?_
          rintro e w2 ⟨rfl, hs2, hc2⟩
          have HS2 := Aside0.mk hs2
          have HC2 := Aside0.mk hc2
          clear hs2 hc2 HD q0 q1 q2 q3 q4 q5 q6 q7 q8
          go_wp2_with fail
          go_ret
          exact ⟨rfl, HS2.out, (Chg0.of_below HB1.out).trans HC2.out⟩
        · rw [if_neg k4] at HAV
          have b4 : (r.f0 == 4) = false := by simpa using k4
          by_cases k3 : r.f0 = 3
          · rw [if_pos k3] at HAV
            have b3 : (r.f0 == 3) = true := by simpa using k3
            obtain ⟨vf1, vf2, vf3, vf4⟩ := HVF.out k3 rfl
            have hvo : VerOk ⟨r.f2, r.f5, r.f6⟩ := ⟨by show 1 ≤ r.f2; omega, (HOKR.out rfl).2.1.2, vf3, vf4⟩
            have HVO := Aside0.mk hvo
            have HPK : Aside0 (roomV s [verW r] r.f2 = 0 → PutOk s.K [verW r] r.f2) := ⟨fun hm => HVP.out k3 rfl hm⟩
            obtain ⟨w3, hw3⟩ : ∃ w3, w3 = w1.alloc (.cells #[.int .i64 r.f2, .string r.f5, .bool r.f6] 29) := ⟨_, rfl⟩
            have hb3 : Below w1.heap.size w1 w3 := by rw [hw3]; exact below_alloc (Below.refl _ _) _
            have hy3 : w3.heap[w1.heap.size]? = some (.cells #[.int .i64 r.f2, .string r.f5, .bool r.f6] 29 (0, 0)) := by rw [hw3]; exact blk_new _ _
            have HX3 := Aside0.mk (blk_below HX1.out hb3)
            have HY3 := Aside0.mk hy3
            have HW3 := Aside0.mk hw3
            have HB3 : Aside0 (Below w.heap.size w w3) := ⟨HB1.out.trans (hb3.mono HB1.out.size)⟩
            have HS3 := Aside0.mk (HS1.out.below hb3)
            have HM : Aside0 (Calls Try.prog 88 #[.pointer (some ⟨b, 0, none⟩), .string r.f4, .agg #[.int .i64 r.f2, .string r.f5, .bool r.f6]] w3 fun e w' => e = .returned (.int .i64 (roomV s [verW r] r.f2)) ∧ Below w3.heap.size w3 w') := ⟨rmay_walk HS3.out (verW r) r.f2 hvo⟩
            have HAD : Aside0 (∀ W, Below w3.heap.size w3 W → roomV s [verW r] r.f2 = 0 → Calls Try.prog 89 #[.pointer (some ⟨b, 0, none⟩), .string r.f4, .agg #[.int .i64 r.f2, .string r.f5, .bool r.f6]] W fun e w' => e = .returned (.tuple #[]) ∧ RfAt w' ok b { s with K := putV s.K [verW r] r.f2 } ∧ Chg0 (fun g => g = b) W w') := ⟨fun W hW hm => by
              have hp := HPK.out hm
              exact radd_walk (HS3.out.below hW) (fun g hg => HOK.out g (Nat.le_trans (HB3.out.trans (hW.mono HB3.out.size)).size hg)) (verW r) r.f2 HVO.out (hp.last _ List.mem_cons_self) (cntK_le hp.room).1 (put1_ok HG.out.keys hp).1⟩
            clear vf1 vf2 vf3 vf4 hvo hw3 hb3 hy3 k1 k2 k4 k3 HPRE HOKR HVF HVP HPK HVO
            have y0 := blk_cell HY3.out 0
            have y1 := blk_cell HY3.out 1
            have y2 := blk_cell HY3.out 2
            rw [HW3.out] at y0 y1 y2
            have x4 : (w1.alloc (.cells #[.int .i64 r.f2, .string r.f5, .bool r.f6] 29)).cell? ⟨w.heap.size, 4, none⟩ = some (.string r.f4) := by rw [← HW3.out, blk_cell HX3.out 4]; rfl
            generalize roomV s [verW r] r.f2 = rm at *
            go_wp2_with fail
            rw [← HW3.out]
            refine HM.out.mono ?_
            rintro e w4 ⟨rfl, hb4⟩
            have HB4 : Aside0 (Below w.heap.size w w4) := ⟨HB3.out.trans (hb4.mono HB3.out.size)⟩
            have HS4 := Aside0.mk (HS3.out.below hb4)
            have HX4 := Aside0.mk (blk_below HX3.out hb4)
            have HY4 := Aside0.mk (blk_below HY3.out hb4)
            have HAD4 := Aside0.mk (HAD.out w4 hb4)
            clear q0 q1 q2 q3 q4 q5 q6 q7 q8 y0 y1 y2 x4 hb4 HM HAD
            have y0 := blk_cell HY4.out 0
            have y1 := blk_cell HY4.out 1
            have y2 := blk_cell HY4.out 2
            obtain ⟨q0, q1, q2, q3, q4, q5, q6, q7, q8⟩ := rec_cells HX4.out
            by_cases hm : rm = 0
            · have HA := Aside0.mk (HAD4.out hm)
              rw [if_pos hm] at HAV
              subst hm
              obtain rfl := HAV.out
              clear HAV HAD4
              go_wp2_with fail
              refine HA.out.mono ?_
              rintro e w5 ⟨rfl, hs5, hc5⟩
              have HS5 := Aside0.mk hs5
              have HC5 := Aside0.mk hc5
              clear hs5 hc5 HA q0 q1 q2 q3 q4 q5 q6 q7 q8 y0 y1 y2
              go_wp2_with fail
              go_ret
              exact ⟨rfl, HS5.out, (Chg0.of_below HB4.out).trans HC5.out⟩
            · have d1 : (rm == 0) = false := by simpa using hm
              have d2 : (rm != 0) = true := by simpa using hm
              rw [if_neg hm] at HAV
              obtain rfl := HAV.out
              clear HAV HAD4 hm
              go_wp2_with fail
              go_ret
              exact ⟨rfl, HS4.out, Chg0.of_below HB4.out⟩
          · rw [if_neg k3] at HAV
            have b3 : (r.f0 == 3) = false := by simpa using k3
            obtain rfl := HAV.out
            clear HAV k1 k2 k4 k3 HPRE HOKR HVF HVP
            go_wp2_with fail
            go_ret
            exact ⟨rfl, HS1.out, Chg0.of_below HB1.out⟩
  · obtain rfl := h80 hk
    rw [if_neg (by decide)] at HAV
    obtain rfl := HAV.out
    clear HAV hk HPRE HOKR HVF HVP
    go_wp2_with fail
    go_ret
    exact ⟨rfl, HS1.out, Chg0.of_below HB1.out⟩
end Go.Proofs.Ytaldfbmjmpkmmaa.PL
