/- A shelf in memory: Apply. -/
import Derived.Test.YtaldfbmjmpkmmaaM1a4e97
namespace Go.Proofs.Ytaldfbmjmpkmmaa.PL
open Go.RowKit Go.Proofs.YtaldfbmjmpkmmaaW.PrintWords Go.Proofs.YtaldfbmjmpkmmaaW.PrintLast Go.Proofs.YtaldfbmjmpkmmaaW.PrintMore Go.Shelf Go.Maps Go.WideMaps Go.Proofs.Ytaldfbmjmpkmmaa.Mk
set_option linter.unusedVariables false
set_option linter.unusedSimpArgs false
set_option linter.unusedSectionVars false
/-- A row of one element, written out. -/
theorem R_one {α : Type} {d : Kd α} {e g : Nat} {ok : Nat → Prop} {w : World} {cs : List Value} {x : α} (hb : w.heap[g]? = some (.cells cs.toArray e (0, 0))) (hM : d.M w 0 (fun k => ok k ∧ some k ≠ some g) x cs) (hg : ok g) : d.R e w 0 ok (.slice (some ⟨g, 0, none⟩) 1 1) [x] :=
  have hl : cs.length = d.sz := d.K_len (d.K_of_M hM)
  ⟨fun k hk => by
    have : g = k := by simpa [Value.ownBlock] using hk
    rw [← this]
    exact hg, cs, ⟨by simp [hl], .inr ⟨g, 1, cs.toArray, rfl, Nat.zero_le _, hb, Nat.le_refl _, by decide, by simp [hl], by simp [← hl]⟩⟩, Reps.front (cs := []) (by simpa [Value.ownBlock] using hM) hl (Reps.none _ _) (by simp)⟩
def sizesOk (r : Rec) : Prop := r.f7.length < 8796093022208 ∧ r.f8.length < 8796093022208
theorem check_f (r : Rec) (h : sizesOk r) : record_Check.f r.f0 r.f1 r.f2 r.f3 r.f4 r.f5 r.f6 r.f7 r.f8 = some (okR r) := by
  unfold record_Check.f
  rw [if_pos (show _ ∧ _ from h)]
  rfl
set_option maxRecDepth 100000 in
set_option maxHeartbeats 8000000 in
theorem apply_walk {w : World} {ok : Nat → Prop} {b N : Nat} {s : Sh} (h : ShAt w ok b N s) (hE : s.E.length ≤ 1024) (hok : ∀ g, w.heap.size ≤ g → ok g) (hN : N + 1024 < maxLen) (r : Rec) (cs : List Value) (hK : k35.K w r cs) (hs : sizesOk r) :
    Calls Try.prog 13 #[.pointer (some ⟨b, 0, none⟩), .agg cs.toArray] w fun e w' => e = .returned (.int .i64 (applyV s r).1) ∧ ShAt w' ok b (N + 16) (applyV s r).2 ∧ Chg ok w w' := by
  obtain ⟨A7, c7, A8, c8, rfl, l7, g7, l8, g8⟩ := k35_open hK
  obtain ⟨w2, hw2⟩ : ∃ w2, w2 = w.alloc (.cells #[.int .i64 r.f0, .int .i64 r.f1, .int .i64 r.f2, .int .i64 r.f3, .string r.f4, .string r.f5, .bool r.f6, .slice A7 r.f7.length c7, .slice A8 r.f8.length c8] 35) := ⟨_, rfl⟩
  have hB : Below w.heap.size w w2 := by rw [hw2]; exact below_alloc (Below.refl _ w) _
  have hx : w2.heap[w.heap.size]? = some (.cells #[.int .i64 r.f0, .int .i64 r.f1, .int .i64 r.f2, .int .i64 r.f3, .string r.f4, .string r.f5, .bool r.f6, .slice A7 r.f7.length c7, .slice A8 r.f8.length c8] 35 (0, 0)) := by rw [hw2]; exact blk_new _ _
  have HW := Aside0.mk hw2
  have HB2 := Aside0.mk hB
  have HX := Aside0.mk hx
  have HS2 := Aside0.mk (h.below hB)
  have HK2 := Aside0.mk (k35.K_below hB hK)
  have HCK := Aside0.mk (record_Check.calls r.f0 r.f1 r.f2 r.f3 r.f4 r.f5 r.f6 A7 c7 r.f7 A8 c8 r.f8 (okR r) w2 (Kd.C_below g7 hB) l7 (Kd.C_below g8 hB) l8 (check_f r hs))
  have HOK := Aside0.mk hok
  have HNN := Aside0.mk hN
  have HEN := Aside0.mk hE
  have HAV : Aside0 (applyV s r = if okR r = 0 then
    (if r.f0 = 1 then prepV s r
    else if r.f0 = 2 then doV s r.f1 r.f2
    else if r.f0 = 4 then sweepV s r.f2
    else if r.f0 = 3 then (if roomV s [verW r] r.f2 = 0 then (0, { s with K := putV s.K [verW r] r.f2 }) else (roomV s [verW r] r.f2, s))
    else (80, s))
  else (okR r, s)) := ⟨rfl⟩
  have HOR : Aside0 (okR r = 0 → (0 ≤ r.f1 ∧ r.f1 ≤ 1125899906842623) ∧ (0 ≤ r.f2 ∧ r.f2 ≤ 1125899906842624)) := ⟨fun h => ⟨(okR_all h).1, (okR_all h).2.1⟩⟩
  have HVF : Aside0 (r.f0 = 3 → okR r = 0 → r.f4.size ≤ maxLen) := ⟨fun h0 h => Nat.le_trans (key_size (ver_facts h0 h).2.1) (by decide)⟩
  have HVP : Aside0 (∀ s : Sh, r.f0 = 3 → okR r = 0 → roomV s [verW r] r.f2 = 0 → PutOk s.K [verW r] r.f2) := ⟨fun s h0 h hm => ver_put h0 h hm⟩
  have HPW : Aside0 (r.f0 = 1 → okR r = 0 → ∀ W, Below w2.heap.size w2 W → Calls Try.prog 36 #[.pointer (some ⟨b, 0, none⟩), .agg #[.int .i64 r.f0, .int .i64 r.f1, .int .i64 r.f2, .int .i64 r.f3, .string r.f4, .string r.f5, .bool r.f6, .slice A7 r.f7.length c7, .slice A8 r.f8.length c8]] W fun e w' => e = .returned (.int .i64 (prepV s r).1) ∧ ShAt w' ok b (N + 1) (prepV s r).2 ∧ Chg ok W w') := ⟨fun h0 hr W hW =>
    prepare_walk (HS2.out.below hW) (fun g hg => hok g (Nat.le_trans hB.size (Nat.le_trans hW.size hg))) (by omega) r _ (k35.K_below hW HK2.out) h0 hr⟩
  clear hw2 hB hx h g7 g8 l7 l8 hK hok hN hE hs
  have y0 := blk_cell HX.out 0
  have y1 := blk_cell HX.out 1
  have y2 := blk_cell HX.out 2
  have y3 := blk_cell HX.out 3
  have y4 := blk_cell HX.out 4
  have y5 := blk_cell HX.out 5
  have y6 := blk_cell HX.out 6
  have y7 := blk_cell HX.out 7
  have y8 := blk_cell HX.out 8
  go_enter Try.func13, Try.ntmps13
  go_wp2_with fail
  rw [← HW.out]
  refine HCK.out.mono ?_
  rintro e w3 ⟨rfl, hb3⟩
  have HB3 : Aside0 (Below w.heap.size w w3) := ⟨HB2.out.trans (hb3.mono HB2.out.size)⟩
  have HS3 := Aside0.mk (HS2.out.below hb3)
  have X3 := Aside0.mk (blk_below HX.out hb3)
  have HB23 := Aside0.mk hb3
  have OK3 : Aside0 (∀ g, w3.heap.size ≤ g → ok g) := ⟨fun g hg => HOK.out g (Nat.le_trans HB3.out.size hg)⟩
  clear hb3 y0 y1 y2 y3 y4 y5 y6 y7 y8 HCK HX
  have y0 := blk_cell X3.out 0
  have y1 := blk_cell X3.out 1
  have y2 := blk_cell X3.out 2
  have y3 := blk_cell X3.out 3
  have y4 := blk_cell X3.out 4
  have y5 := blk_cell X3.out 5
  have y6 := blk_cell X3.out 6
  have y7 := blk_cell X3.out 7
  have y8 := blk_cell X3.out 8
  by_cases hr : okR r = 0
  · rw [if_pos hr] at HAV
    have HR := Aside0.mk hr
    have hro := HOR.out hr
    have HRO := Aside0.mk hro
    rw [hr]
    by_cases k1 : r.f0 = 1
    · rw [if_pos k1] at HAV
      have HPC := Aside0.mk (HPW.out k1 hr w3 HB23.out)
      have d1 : (r.f0 == 1) = true := by simpa using k1
      clear hr hro k1 HOR HVF HVP HPW
      go_wp2_with fail
      refine HPC.out.mono ?_
      rintro e w4 ⟨rfl, hs4, hc4⟩
      have HR4 := Aside0.mk (And.intro hs4 hc4)
      clear hs4 hc4 HPC y0 y1 y2 y3 y4 y5 y6 y7 y8
      rw [← HAV.out] at *
      go_wp2_with fail
      go_ret
      exact ⟨rfl, HR4.out.1.mono (by omega), (Chg.of_below HB3.out).trans HR4.out.2⟩
    · rw [if_neg k1] at HAV
      have d1 : (r.f0 == 1) = false := by simpa using k1
      by_cases k2 : r.f0 = 2
      · rw [if_pos k2] at HAV
        have HPC := Aside0.mk (do_walk HS3.out HEN.out OK3.out HNN.out r.f1 r.f2 hro.1 hro.2)
        have d2 : (r.f0 == 2) = true := by simpa using k2
        clear hr hro k1 k2 HOR HVF HVP HPW
        go_wp2_with fail
        refine HPC.out.mono ?_
        rintro e w4 ⟨rfl, hs4, hc4⟩
        have HR4 := Aside0.mk (And.intro hs4 hc4)
        clear hs4 hc4 HPC y0 y1 y2 y3 y4 y5 y6 y7 y8
        rw [← HAV.out] at *
        go_wp2_with fail
        go_ret
        exact ⟨rfl, HR4.out.1, (Chg.of_below HB3.out).trans HR4.out.2⟩
      · rw [if_neg k2] at HAV
        have d2 : (r.f0 == 2) = false := by simpa using k2
        by_cases k4 : r.f0 = 4
        · rw [if_pos k4] at HAV
          have HPC := Aside0.mk (sweep_walk HS3.out OK3.out (by have := HNN.out; omega) r.f2 hro.2.2)
          have d4 : (r.f0 == 4) = true := by simpa using k4
          clear hr hro k1 k2 k4 HOR HVF HVP HPW
          go_wp2_with fail
          refine HPC.out.mono ?_
          rintro e w4 ⟨rfl, hs4, hc4⟩
          have HR4 := Aside0.mk (And.intro hs4 hc4)
          clear hs4 hc4 HPC y0 y1 y2 y3 y4 y5 y6 y7 y8
          rw [← HAV.out] at *
          go_wp2_with fail
          go_ret
          exact ⟨rfl, HR4.out.1.mono (by omega), (Chg.of_below HB3.out).trans HR4.out.2⟩
        · rw [if_neg k4] at HAV
          have d4 : (r.f0 == 4) = false := by simpa using k4
          by_cases k3 : r.f0 = 3
          · rw [if_pos k3] at HAV
            have d3 : (r.f0 == 3) = true := by simpa using k3
            have hvf := HVF.out k3 hr
            have HPO : Aside0 (roomV s [verW r] r.f2 = 0 → PutOk s.K [verW r] r.f2) := ⟨fun hm => HVP.out s k3 hr hm⟩
            obtain ⟨w4, hw4⟩ : ∃ w4, w4 = w3.alloc (.cells #[.string r.f4, .string r.f5, .bool r.f6] 56) := ⟨_, rfl⟩
            have hb4 : Below w3.heap.size w3 w4 := by rw [hw4]; exact below_alloc (Below.refl _ _) _
            have hx4 : w4.heap[w3.heap.size]? = some (.cells #[.string r.f4, .string r.f5, .bool r.f6] 56 (0, 0)) := by rw [hw4]; exact blk_new _ _
            have hrow : Kd.R k56 56 w4 0 ok (.slice (some ⟨w3.heap.size, 0, none⟩) 1 1) [verW r] := R_one (cs := [.string r.f4, .string r.f5, .bool r.f6]) hx4 (k56_mkM _ _ _ (verW r)) (OK3.out _ (Nat.le_refl _))
            have hks : ∀ x ∈ [verW r], x.f0.size ≤ maxLen := fun x hx => by rw [List.mem_singleton.1 hx]; exact hvf
            have hrm : Calls Try.prog 39 #[.pointer (some ⟨b, 0, none⟩), .slice (some ⟨w3.heap.size, 0, none⟩) 1 1, .int .i64 r.f2] w4 fun e w' => e = .returned (.int .i64 (roomV s [verW r] r.f2)) ∧ Below w4.heap.size w4 w' := room_walk (HS3.out.below hb4) (some ⟨w3.heap.size, 0, none⟩) 1 [verW r] (Kd.R_reads' hrow).2.2 (by simp) hks r.f2
            have HRM := Aside0.mk hrm
            have HW4 := Aside0.mk hw4
            have HS4 := Aside0.mk (HS3.out.below hb4)
            have HRW := Aside0.mk hrow
            have HKS := Aside0.mk hks
            have B4 : Aside0 (Below w.heap.size w w4) := ⟨HB3.out.trans (hb4.mono HB3.out.size)⟩
            have X4 := Aside0.mk (blk_below X3.out hb4)
            clear hr hro k1 k2 k3 k4 HOR HVF HVP HPW hvf hb4 hx4 hrow hks hrm hw4
            generalize roomV s [verW r] r.f2 = rv at *
            generalize hvw : [verW r] = lw at *
            have HVW := Aside0.mk hvw
            clear hvw
            have y2b := blk_cell X4.out 2
            rw [HW4.out] at y2b
            go_wp2_with fail
            rw [← HW4.out]
            refine HRM.out.mono ?_
            rintro e w5 ⟨rfl, hb5⟩
            have B5 : Aside0 (Below w.heap.size w w5) := ⟨B4.out.trans (hb5.mono B4.out.size)⟩
            have HS5 := Aside0.mk (HS4.out.below hb5)
            have HR5 := Aside0.mk (Kd.R_below HRW.out hb5)
            have X5 := Aside0.mk (blk_below X4.out hb5)
            clear hb5 y2b y0 y1 y2 y3 y4 y5 y6 y7 y8 HRM HS4 HRW
            have y2 := blk_cell X5.out 2
            by_cases hm : rv = 0
            · subst hm
              rw [if_pos rfl] at HAV
              have OK5 : Aside0 (∀ g, w5.heap.size ≤ g → ok g) := ⟨fun g hg => HOK.out g (Nat.le_trans B5.out.size hg)⟩
              have hl1 : lw.length = 1 := by rw [← HVW.out]; rfl
              have hpu := put_walk HS5.out OK5.out (some ⟨w3.heap.size, 0, none⟩) 1 lw (by rw [hl1]; exact HR5.out) (by omega) HKS.out r.f2 (HPO.out rfl) (by have := HNN.out; omega)
              rw [hl1] at hpu
              have HPU := Aside0.mk hpu
              clear hl1 hpu
              go_wp2_with fail
              refine HPU.out.mono ?_
              rintro e w6 ⟨rfl, hs6, hc6, -⟩
              have HR6 := Aside0.mk (And.intro hs6 hc6)
              clear hs6 hc6 HPU y2
              go_wp2_with fail
              go_ret
              exact ⟨by rw [HAV.out]; rfl, by rw [HAV.out]; exact HR6.out.1.mono (by omega), (Chg.of_below B5.out).trans HR6.out.2⟩
            · rw [if_neg hm] at HAV
              have g5 : (rv == 0) = false := by simpa using hm
              clear hm HPO
              go_wp2_with fail
              go_ret
              exact ⟨by rw [HAV.out]; rfl, by rw [HAV.out]; exact HS5.out.mono (by omega), Chg.of_below B5.out⟩
          · rw [if_neg k3] at HAV
            have d3 : (r.f0 == 3) = false := by simpa using k3
            clear hr hro k1 k2 k3 k4 HOR HVF HVP HPW
            go_wp2_with fail
            go_ret
            exact ⟨by rw [HAV.out]; rfl, by rw [HAV.out]; exact HS3.out.mono (by omega), Chg.of_below HB3.out⟩
  · rw [if_neg hr] at HAV
    have g5 : (okR r != 0) = true := by simpa using hr
    clear hr HOR HVF HVP HPW
    generalize okR r = rv at *
    go_wp2_with fail
    go_ret
    exact ⟨by rw [HAV.out]; rfl, by rw [HAV.out]; exact HS3.out.mono (by omega), Chg.of_below HB3.out⟩
end Go.Proofs.Ytaldfbmjmpkmmaa.PL
