/- Texts of this proof, one behind the other (merged by a program of this session). -/
import Derived.Test.YtaldfbmjmpkmmaaM180a7a
namespace Go.Proofs.Ytaldfbmjmpkmmaa.PL
open Go.RowKit Go.Proofs.YtaldfbmjmpkmmaaW.PrintWords Go.Proofs.YtaldfbmjmpkmmaaW.PrintLast Go.Proofs.YtaldfbmjmpkmmaaW.PrintMore Go.Shelf Go.Maps Go.WideMaps Go.Proofs.Ytaldfbmjmpkmmaa.Mk
set_option linter.unusedVariables false
set_option linter.unusedSimpArgs false
set_option linter.unusedSectionVars false
section
variable {α : Type} {d : Kd α} {e base : Nat} {ok : Nat → Prop} {w w1 : World} {v : Value} {xs : List α}
/-- A row of one's own stays where its blocks do. -/
theorem R_keep (h : d.R e w base ok v xs) (hs : ∀ g, ok g → ∀ q, q ∈ e :: d.E → ∀ cells, w.heap[g]? = some (.cells cells q (0, 0)) → w1.heap[g]? = w.heap[g]?) : d.R e w1 base ok v xs :=
  Kd.R_mono (Kd.R_move (Kd.R_bound h) (fun k hk => by
    obtain ⟨h1, _, _, q, hq, cells, hc⟩ := hk
    exact hs k h1 q hq cells hc)) (fun _ hk => hk.1)
theorem M_keep {x : α} {cs : List Value} (h : d.M w base ok x cs) (hs : ∀ g, ok g → ∀ q, q ∈ d.E → ∀ cells, w.heap[g]? = some (.cells cells q (0, 0)) → w1.heap[g]? = w.heap[g]?) : d.M w1 base ok x cs :=
  d.M_mono (fun _ hk => hk.1) (d.M_move (fun k hk => by
    obtain ⟨h1, _, _, q, hq, cells, hc⟩ := hk
    exact hs k h1 q hq cells hc) (d.M_bound h))
theorem R_map {b : Nat} (h : d.R e w base ok v xs) (hg : w.grownBy w1 (some b)) (hb : ∀ cells q, w.heap[b]? ≠ some (.cells cells q (0, 0))) : d.R e w1 base ok v xs :=
  R_keep h (fun g _ q _ cells hc => hg.block g (blk_lt hc) (fun e => hb cells q (by injection e with e; rw [← e]; exact hc)))
theorem M_map {b : Nat} {x : α} {cs : List Value} (h : d.M w base ok x cs) (hg : w.grownBy w1 (some b)) (hb : ∀ cells q, w.heap[b]? ≠ some (.cells cells q (0, 0))) : d.M w1 base ok x cs :=
  M_keep h (fun g _ q _ cells hc => hg.block g (blk_lt hc) (fun e => hb cells q (by injection e with e; rw [← e]; exact hc)))
/-- What a call has made: its blocks are ok where all new ones are. -/
theorem M_new {x : α} {cs : List Value} {n : Nat} (h : d.M w n (fun _ => True) x cs) (hok : ∀ g, n ≤ g → ok g) : d.M w 0 ok x cs :=
  d.M_lower (Nat.zero_le _) (d.M_mono (fun k hk => hok k hk.2.1) (d.M_bound h))
theorem R_new {n : Nat} (h : d.R e w n (fun _ => True) v xs) (hok : ∀ g, n ≤ g → ok g) : d.R e w 0 ok v xs :=
  Kd.R_lower (Kd.R_mono (Kd.R_bound h) (fun k hk => hok k hk.2.1)) (Nat.zero_le _)
end
section
variable {ok : Nat → Prop} {w w' w1 : World} {b N : Nat} {s : Sh} {bk bp : Nat} {ve : Value} {fk fp : Lit → Option Value}
theorem blk_map {bq : Nat} {cells : Array Value} {t : Nat} {g : Nat} (hb : w.heap[g]? = some (.cells cells t (0, 0))) (hg : w.grownBy w' (some bq)) (hn : ∀ cells t, w.heap[bq]? ≠ some (.cells cells t (0, 0))) : w'.heap[g]? = some (.cells cells t (0, 0)) :=
  (hg.block g (blk_lt hb) (fun e => hn cells t (by injection e with e; rw [← e]; exact hb))).trans hb
theorem Parts.mono (h : Parts w ok b N s bk bp ve fk fp) {M : Nat} (hM : N ≤ M) : Parts w ok b M s bk bp ve fk fp := ⟨h.box, h.keys.mono hM, h.preps.mono hM, h.ends, h.kf, h.kt, h.pf, h.pt, h.okb, h.okk, h.okp, h.ne, h.good⟩
theorem ShAt.mono (h : ShAt w ok b N s) {M : Nat} (hM : N ≤ M) : ShAt w ok b M s := by
  obtain ⟨bk, bp, ve, fk, fp, hp⟩ := h
  exact ⟨bk, bp, ve, fk, fp, hp.mono hM⟩
theorem Parts.prep_put (h : Parts w ok b N s bk bp ve fk fp) (hg : w.grownBy w' (some bp)) {r : Rec} {cs : List Value} (hm : MapL Try.prog 3 w' bp (N + 1) (lput fp (ik r.f1) (.agg cs.toArray))) (hM : k35.M w 0 ok r cs) (hn : ∀ x ∈ s.P, x.f1 ≠ r.f1)
    (hs : ShOk { s with P := pput s.P r }) : Parts w' ok b (N + 1) { s with P := pput s.P r } bk bp ve fk (lput fp (ik r.f1) (.agg cs.toArray)) :=
  have hb : ∀ cells q, w.heap[bp]? ≠ some (.cells cells q (0, 0)) := fun cells q => h.preps.not_cells
  ⟨blk_map h.box hg hb, (h.keys.kept hg (fun e => h.ne (by injection e))).mono (Nat.le_succ _), hm, R_map h.ends hg hb, fun q v hq => by
    obtain ⟨k, h1, h2, h3⟩ := h.kf q v hq
    exact ⟨k, h1, h2, R_map h3 hg hb⟩, h.kt, fun q v hq => by
    unfold lput at hq
    split at hq
    · rename_i hq2
      obtain rfl := Option.some.inj hq
      exact ⟨r, (pput_mem r r s.P).2 (.inl rfl), WideAt.sameKey_eq hq2, cs, rfl, M_map hM hg hb⟩
    · obtain ⟨r', h1, h2, cs', h3, h4⟩ := h.pf q v hq
      exact ⟨r', (pput_mem r r' s.P).2 (.inr h1), h2, cs', h3, M_map h4 hg hb⟩, fun x hx => by
    unfold lput
    split
    · rfl
    · rename_i hq
      rcases (pput_mem r x s.P).1 hx with rfl | hx
      · exact absurd (by rw [sameKey_ik]; exact decide_eq_true rfl) hq
      · exact h.pt x hx, h.okb, h.okk, h.okp, h.ne, hs⟩
end
set_option maxRecDepth 100000 in
theorem prep1_walk {ok : Nat → Prop} {b N : Nat} {s : Sh} (W : World) (bx : Nat) (hx : W.cell? ⟨bx, 0, none⟩ = some (.pointer (some ⟨b, 0, none⟩))) (h : ShAt W ok b N s) (x : ByteArray) :
    Calls Try.prog 77 (#[.string x] ++ #[.pointer (some ⟨bx, 0, none⟩)]) W fun e W' => e = .returned (.bool (heldV s (kb x) false)) ∧ Below W.heap.size W W' := by
  show Calls Try.prog 77 #[.string x, .pointer (some ⟨bx, 0, none⟩)] W _
  have HH := Aside0.mk (held_walk h x false)
  clear h
  generalize heldV s (kb x) false = q at *
  go_enter Try.func77, Try.ntmps77
  go_wp2_with fail
  refine HH.out.mono ?_
  rintro e w1 ⟨rfl, hb⟩
  have HB := Aside0.mk hb
  clear hb
  go_wp2_with fail
  go_ret
  exact ⟨rfl, HB.out⟩
set_option maxRecDepth 100000 in
theorem prep2_walk {ok : Nat → Prop} {b N : Nat} {s : Sh} (W : World) (bx : Nat) (hx : W.cell? ⟨bx, 0, none⟩ = some (.pointer (some ⟨b, 0, none⟩))) (h : ShAt W ok b N s) (x : Wr) :
    Calls Try.prog 79 (#[.agg #[.string x.f0, .string x.f1, .bool x.f2]] ++ #[.pointer (some ⟨bx, 0, none⟩)]) W fun e W' => e = .returned (.bool (heldV s (kb x.f0) true)) ∧ Below W.heap.size W W' := by
  show Calls Try.prog 79 #[.agg #[.string x.f0, .string x.f1, .bool x.f2], .pointer (some ⟨bx, 0, none⟩)] W _
  obtain ⟨x0, x1, x2⟩ := x
  simp only
  have hb0 := below_alloc (Below.refl _ W) (.cells #[.string x0, .string x1, .bool x2] 56)
  have hx2 := pw_cell_below hb0 hx
  have HH := Aside0.mk (held_walk (h.below hb0) x0 true)
  have HB0 := Aside0.mk hb0
  clear h hb0 hx
  generalize heldV s (kb x0) true = q at *
  go_enter Try.func79, Try.ntmps79
  go_wp2_with fail
  refine HH.out.mono ?_
  rintro e w1 ⟨rfl, hb⟩
  have HB : Aside0 (Below W.heap.size W w1) := ⟨HB0.out.trans (hb.mono HB0.out.size)⟩
  clear hb
  go_wp2_with fail
  go_ret
  exact ⟨rfl, HB.out⟩
set_option maxRecDepth 100000 in
set_option maxHeartbeats 8000000 in
theorem prepare_walk {w : World} {ok : Nat → Prop} {b N : Nat} {s : Sh} (h : ShAt w ok b N s) (hok : ∀ g, w.heap.size ≤ g → ok g) (hN : N < maxLen) (r : Rec) (cs : List Value) (hK : k35.K w r cs) (h0 : r.f0 = 1) (hr : okR r = 0) :
    Calls Try.prog 36 #[.pointer (some ⟨b, 0, none⟩), .agg cs.toArray] w fun e w' => e = .returned (.int .i64 (prepV s r).1) ∧ ShAt w' ok b (N + 1) (prepV s r).2 ∧ Chg ok w w' := by
  obtain ⟨A7, c7, A8, c8, rfl, l7, g7, l8, g8⟩ := k35_open hK
  have hts := (okR_all hr).1
  have HLS := Aside0.mk (prep_lists h0 hr).1
  have HRO := Aside0.mk (And.intro h0 hr)
  clear h0 hr
  obtain ⟨w2, hw2⟩ : ∃ w2, w2 = (w.alloc (.cells #[.pointer (some ⟨b, 0, none⟩)] 25)).alloc (.cells #[.int .i64 r.f0, .int .i64 r.f1, .int .i64 r.f2, .int .i64 r.f3, .string r.f4, .string r.f5, .bool r.f6, .slice A7 r.f7.length c7, .slice A8 r.f8.length c8] 35) := ⟨_, rfl⟩
  have hB : Below w.heap.size w w2 := by rw [hw2]; exact below_alloc (below_alloc (Below.refl _ w) _) _
  have hx1 : w2.heap[w.heap.size]? = some (.cells #[.pointer (some ⟨b, 0, none⟩)] 25 (0, 0)) := by rw [hw2]; exact blk_alloc (blk_new _ _) _
  have hx2 : w2.heap[w.heap.size + 1]? = some (.cells #[.int .i64 r.f0, .int .i64 r.f1, .int .i64 r.f2, .int .i64 r.f3, .string r.f4, .string r.f5, .bool r.f6, .slice A7 r.f7.length c7, .slice A8 r.f8.length c8] 35 (0, 0)) := by
    rw [hw2]
    have := blk_new (w.alloc (.cells #[.pointer (some ⟨b, 0, none⟩)] 25)) (.cells #[.int .i64 r.f0, .int .i64 r.f1, .int .i64 r.f2, .int .i64 r.f3, .string r.f4, .string r.f5, .bool r.f6, .slice A7 r.f7.length c7, .slice A8 r.f8.length c8] 35)
    simpa using this
  have HW := Aside0.mk hw2
  have HB2 := Aside0.mk hB
  have HX1 := Aside0.mk hx1
  have HX2 := Aside0.mk hx2
  have HS2 := Aside0.mk (h.below hB)
  have G7 := Aside0.mk (Kd.C_below g7 hB)
  have G8 := Aside0.mk (Kd.C_below g8 hB)
  have HK2 := Aside0.mk (k35.K_below hB hK)
  have HST := Aside0.mk (state_walk (h.below hB) r.f1 (by omega))
  have HNN := Aside0.mk hN
  have HOK := Aside0.mk hok
  have HTS := Aside0.mk hts
  clear hw2 hB hx1 hx2 h g7 g8 l7 l8 hK hok hts
  have x0 := blk_cell HX1.out 0
  have y1 := blk_cell HX2.out 1
  have HPV : Aside0 (prepV s r = if 0 < (stateV s r.f1).1 then (6, s) else if (r.f7.any (fun k => heldV s (kb k) false) || r.f8.any (fun w => heldV s (kb w.f0) true)) = true then (180, s) else if 1024 ≤ s.P.length then (2, s) else (0, { s with P := pput s.P r })) := ⟨rfl⟩
  go_enter Try.func36, Try.ntmps36
  go_wp2_with fail
  rw [← HW.out]
  refine HST.out.mono ?_
  rintro e w3 ⟨rfl, hb3⟩
  have HB3 : Aside0 (Below w.heap.size w w3) := ⟨HB2.out.trans (hb3.mono HB2.out.size)⟩
  have HS3 := Aside0.mk (HS2.out.below hb3)
  have X3 := Aside0.mk (blk_below HX1.out hb3)
  have Y3 := Aside0.mk (blk_below HX2.out hb3)
  have HK3 := Aside0.mk (k35.K_below hb3 HK2.out)
  have C7 := Aside0.mk (Kd.C_below G7.out hb3)
  have C8 := Aside0.mk (Kd.C_below G8.out hb3)
  clear hb3 x0 y1 HST HS2 HX1 HX2 HK2 G7 G8
  have x0 := blk_cell X3.out 0
  have y7 := blk_cell Y3.out 7
  have y8 := blk_cell Y3.out 8
  have HZ := Aside0.mk (fun hz => state_zero (s := s) (t := r.f1) hz)
  by_cases hz : 0 < (stateV s r.f1).1
  · rw [if_pos hz] at HPV
    have hzd : decide ((stateV s r.f1).1 > 0) = true := decide_eq_true hz
    clear HZ
    generalize (stateV s r.f1).1 = st1 at *
    generalize (stateV s r.f1).2 = st2 at *
    go_wp2_with fail
    go_ret
    exact ⟨by rw [HPV.out]; rfl, by rw [HPV.out]; exact HS3.out.mono (Nat.le_succ _), Chg.of_below HB3.out⟩
  · rw [if_neg hz] at HPV
    have hzd : decide ((stateV s r.f1).1 > 0) = false := decide_eq_false hz
    have HZ1 := Aside0.mk (HZ.out hz)
    have HC1 := Aside0.mk (contains_strP w3 A7 c7 r.f7 (.pointer (some ⟨w.heap.size, 0, none⟩)) (fun k => heldV s (kb k) false) C7.out (contains_enough fun W hW x => prep1_walk W _ (by rw [blk_cell (blk_below X3.out hW) 0]; rfl) (HS3.out.below hW) x))
    clear HZ hz C7
    generalize (stateV s r.f1).1 = st1 at *
    generalize (stateV s r.f1).2 = st2 at *
    go_wp2_with fail
    refine HC1.out.mono ?_
    rintro e w4 ⟨rfl, hb4⟩
    have HB4 : Aside0 (Below w.heap.size w w4) := ⟨HB3.out.trans (hb4.mono HB3.out.size)⟩
    have HS4 := Aside0.mk (HS3.out.below hb4)
    have X4 := Aside0.mk (blk_below X3.out hb4)
    have Y4 := Aside0.mk (blk_below Y3.out hb4)
    have HK4 := Aside0.mk (k35.K_below hb4 HK3.out)
    have D8 := Aside0.mk (Kd.C_below C8.out hb4)
    clear hb4 x0 y7 y8 HC1 HS3 X3 Y3 HK3 C8
    have x0 := blk_cell X4.out 0
    have y1 := blk_cell Y4.out 1
    have y8 := blk_cell Y4.out 8
    have HC2 := Aside0.mk (contains_wrP w4 A8 c8 r.f8 (.pointer (some ⟨w.heap.size, 0, none⟩)) (fun x => heldV s (kb x.f0) true) D8.out (contains_enough fun W hW x => prep2_walk W _ (by rw [blk_cell (blk_below X4.out hW) 0]; rfl) (HS4.out.below hW) x))
    clear D8
    generalize (r.f7.any fun k => heldV s (kb k) false) = q1 at *
    generalize (r.f8.any fun x => heldV s (kb x.f0) true) = q2 at *
    cases q1 with
    | true =>
      have HPV2 : Aside0 (prepV s r = (180, s)) := ⟨by rw [HPV.out]; rfl⟩
      go_wp2_with fail
      go_ret
      exact ⟨by rw [HPV2.out]; rfl, by rw [HPV2.out]; exact HS4.out.mono (Nat.le_succ _), Chg.of_below HB4.out⟩
    | false =>
      go_wp2_with fail
      refine HC2.out.mono ?_
      rintro e w5 ⟨rfl, hb5⟩
      have HB5 : Aside0 (Below w.heap.size w w5) := ⟨HB4.out.trans (hb5.mono HB4.out.size)⟩
      have HS5 := Aside0.mk (HS4.out.below hb5)
      have X5 := Aside0.mk (blk_below X4.out hb5)
      have Y5 := Aside0.mk (blk_below Y4.out hb5)
      have HK5 := Aside0.mk (k35.K_below hb5 HK4.out)
      clear hb5 x0 y1 y8 HC2 HS4 X4 Y4 HK4
      have x0 := blk_cell X5.out 0
      cases q2 with
      | true =>
        have HPV2 : Aside0 (prepV s r = (180, s)) := ⟨by rw [HPV.out]; rfl⟩
        go_wp2_with fail
        go_ret
        exact ⟨by rw [HPV2.out]; rfl, by rw [HPV2.out]; exact HS5.out.mono (Nat.le_succ _), Chg.of_below HB5.out⟩
      | false =>
        rw [if_neg (by simp)] at HPV
        obtain ⟨bk, bp, ve, fk, fp, hp⟩ := HS5.out
        have HP5 := Aside0.mk hp
        obtain ⟨c0, c1, c2, c3⟩ := hp.cells
        have hfew := hp.good.few
        clear hp
        have hpl : (s.P.map (fun r => ik r.f1)).length = s.P.length := List.length_map ..
        have HPL := Aside0.mk hpl
        clear hpl
        have hcd : decide ((s.P.length : Int) ≥ 1024) = decide (1024 ≤ s.P.length) := by rw [Bool.eq_iff_iff, decide_eq_true_iff, decide_eq_true_iff]; omega
        by_cases hfull : 1024 ≤ s.P.length
        · rw [if_pos hfull] at HPV
          have hcd2 : decide ((s.P.length : Int) ≥ 1024) = true := by rw [hcd]; exact decide_eq_true hfull
          clear hcd
          go_wp2_with (at_len; refine MapL.len HP5.out.preps keyedI rfl _ 75 35 rfl Try.underlying75 rfl (s.P.map (fun r => ik r.f1)) HP5.out.preps_nodup HP5.out.preps_iff ?_; rw [HPL.out])
          go_ret
          exact ⟨by rw [HPV.out]; rfl, by rw [HPV.out]; exact HS5.out.mono (Nat.le_succ _), Chg.of_below HB5.out⟩
        · rw [if_neg hfull] at HPV
          have hcd2 : decide ((s.P.length : Int) ≥ 1024) = false := by rw [hcd]; exact decide_eq_false hfull
          clear hcd
          have HSO : Aside0 (ShOk { s with P := pput s.P r }) := ⟨by
            have := prepV_ok HP5.out.good HRO.out.1 HRO.out.2
            rw [HPV.out] at this
            exact this⟩
          have y1 := blk_cell Y5.out 1
          have y0 := blk_cell Y5.out 0
          have y2 := blk_cell Y5.out 2
          have y3 := blk_cell Y5.out 3
          have y4 := blk_cell Y5.out 4
          have y5 := blk_cell Y5.out 5
          have y6 := blk_cell Y5.out 6
          have y7 := blk_cell Y5.out 7
          have y8 := blk_cell Y5.out 8
          have HU := HTS.out
          have HCP : Aside0 (∀ W, Below w5.heap.size w5 W → Calls Try.prog 54 #[.agg #[.int .i64 r.f0, .int .i64 r.f1, .int .i64 r.f2, .int .i64 r.f3, .string r.f4, .string r.f5, .bool r.f6, .slice A7 r.f7.length c7, .slice A8 r.f8.length c8]] W fun e w' => ∃ cs', e = .returned (.agg cs'.toArray) ∧ k35.M w' W.heap.size (fun _ => True) r cs' ∧ Below W.heap.size W w') := ⟨fun W hW =>
            copied_walk W r [.int .i64 r.f0, .int .i64 r.f1, .int .i64 r.f2, .int .i64 r.f3, .string r.f4, .string r.f5, .bool r.f6, .slice A7 r.f7.length c7, .slice A8 r.f8.length c8] (k35.K_below hW HK5.out) (by have := HLS.out.few7; omega) (by have := HLS.out.few8; omega)⟩
          go_wp2_with (at_len; refine MapL.len HP5.out.preps keyedI rfl _ 75 35 rfl Try.underlying75 rfl (s.P.map (fun r => ik r.f1)) HP5.out.preps_nodup HP5.out.preps_iff ?_; rw [HPL.out])
          clear c0 c2 c3 hcd2
          go_region_law (first
            | (go_simp; go_at_call 54; refine (HCP.out _ (by repeat (first | exact Below.refl _ _ | apply below_drew1))).mono ?_; rintro e w6 ⟨cs', rfl, hM, hb6⟩; have HM := Aside0.mk hM; have HB6 := Aside0.mk hb6; have HP6 := Aside0.mk ((HP5.out.below (below_drew1 (Below.refl _ _))).below hb6); obtain ⟨w7, hrun, hm7, hg7⟩ := MapL.put_ HP6.out.preps keyedI Try.underlying75 HNN.out (key_ik (t := r.f1) (by have := HTS.out; omega)) (.agg cs'.toArray); have HM7 := Aside0.mk hm7; have HG7 := Aside0.mk hg7; clear hM hm7 hg7 c1 x0 y0 y1 y2 y3 y4 y5 y6 y7 y8; obtain ⟨-, c1, -, -⟩ := HP6.out.cells; have y1 := blk_cell (blk_below (blk_drew Y5.out) hb6) 1; have x0 := blk_cell (blk_below (blk_drew X5.out) hb6) 0; clear hb6))
          all_goals (try go_wp2_with fail)
          all_goals go_ret
          all_goals
            have B6 : Aside0 (Below w.heap.size w w6) := ⟨(below_drew1 HB5.out).trans (HB6.out.mono (below_drew1 HB5.out).size)⟩
            exact ⟨by rw [HPV.out]; rfl, by rw [HPV.out]; exact ⟨bk, bp, ve, fk, _, HP6.out.prep_put HG7.out HM7.out (M_new HM.out (fun g hg => HOK.out g (Nat.le_trans (below_drew1 HB5.out).size hg))) HZ1.out.1 HSO.out⟩, (Chg.of_below B6.out).trans (Chg.of_grown HG7.out HP6.out.okp (fun _ _ _ => HP6.out.preps.not_cells))⟩
end Go.Proofs.Ytaldfbmjmpkmmaa.PL
namespace Go.Proofs.Ytaldfbmjmpkmmaa.PL
open Go.RowKit Go.Proofs.YtaldfbmjmpkmmaaW.PrintWords Go.Proofs.YtaldfbmjmpkmmaaW.PrintLast Go.Proofs.YtaldfbmjmpkmmaaW.PrintMore Go.Shelf Go.Maps Go.WideMaps Go.Proofs.Ytaldfbmjmpkmmaa.Mk
set_option linter.unusedVariables false
set_option linter.unusedSimpArgs false
set_option linter.unusedSectionVars false
set_option maxRecDepth 100000 in
set_option maxHeartbeats 4000000 in
theorem room1_walk {ok : Nat → Prop} {b N : Nat} {s : Sh} (W : World) (bt bx : Nat) (ts : Int) (ht : W.cell? ⟨bt, 0, none⟩ = some (.int .i64 ts)) (hx : W.cell? ⟨bx, 0, none⟩ = some (.pointer (some ⟨b, 0, none⟩))) (h : ShAt W ok b N s) (x : Wr) (hk : x.f0.size ≤ maxLen) :
    Calls Try.prog 83 (#[.agg #[.string x.f0, .string x.f1, .bool x.f2]] ++ #[.pointer (some ⟨bt, 0, none⟩), .pointer (some ⟨bx, 0, none⟩)]) W fun e W' => e = .returned (.bool (decide (ts ≤ lastV (look s.K (wkey x))))) ∧ Below W.heap.size W W' := by
  obtain ⟨x0, x1, x2⟩ := x
  show Calls Try.prog 83 #[.agg #[.string x0, .string x1, .bool x2], .pointer (some ⟨bt, 0, none⟩), .pointer (some ⟨bx, 0, none⟩)] W (fun e W' => e = .returned (.bool (decide (ts ≤ lastV (look s.K (kb x0))))) ∧ Below W.heap.size W W')
  simp only at hk
  have hb0 := below_alloc (Below.refl _ W) (.cells #[.string x0, .string x1, .bool x2] 56)
  have hbx := blk_new W (.cells #[.string x0, .string x1, .bool x2] 56)
  obtain ⟨W1, hW1⟩ : ∃ W1, W1 = W.alloc (.cells #[.string x0, .string x1, .bool x2] 56) := ⟨_, rfl⟩
  rw [← hW1] at hb0 hbx
  have ht2 := pw_cell_below hb0 ht
  have hx2 := pw_cell_below hb0 hx
  have HT := Aside0.mk ht2
  have HX := Aside0.mk hx2
  have HBX := Aside0.mk hbx
  have HH : Aside0 (∀ W2, Below W1.heap.size W1 W2 → Calls Try.prog 43 #[.pointer (some ⟨b, 0, none⟩), .string x0] W2 fun e w' => e = .returned (.int .i64 (lastV (look s.K (kb x0)))) ∧ Below W2.heap.size W2 w') := ⟨fun W2 h2 => lastS_walk ((h.below hb0).below h2) x0 hk⟩
  have HB0 := Aside0.mk hb0
  have HW1 := Aside0.mk hW1
  clear h hb0 hx ht hbx hk hW1
  generalize lastV (look s.K (kb x0)) = q at *
  go_enter Try.func83, Try.ntmps83
  go_wp2_with fail
  rw [← HW1.out]
  have z0 := blk_cell HBX.out 0
  go_region_law (go_simp; go_at_call 43; refine (HH.out _ (by repeat (first | exact Below.refl _ _ | apply below_drew1))).mono ?_; rintro e w3 ⟨rfl, hb3⟩; have HB3 := Aside0.mk hb3; have ht3 := pw_cell_below hb3 (pw_cell_below (below_drew1 (Below.refl _ _)) HT.out); have hx3 := pw_cell_below hb3 (pw_cell_below (below_drew1 (Below.refl _ _)) HX.out); clear hb3)
  all_goals (try go_wp2_with fail)
  all_goals go_ret
  all_goals
    have B1 : Below W.heap.size W W1.drew := below_drew1 HB0.out
    exact ⟨rfl, B1.trans (HB3.out.mono B1.size)⟩
set_option maxRecDepth 100000 in
set_option maxHeartbeats 8000000 in
theorem room_walk {w : World} {ok : Nat → Prop} {b N : Nat} {s : Sh} (h : ShAt w ok b N s) (A : Option Addr) (c : Nat) (l : List Wr) (hr : Kd.C k56 w A l.length l) (hl : l.length ≤ 1024) (hk : ∀ x ∈ l, x.f0.size ≤ maxLen) (ts : Int) :
    Calls Try.prog 39 #[.pointer (some ⟨b, 0, none⟩), .slice A l.length c, .int .i64 ts] w fun e w' => e = .returned (.int .i64 (roomV s l ts)) ∧ Below w.heap.size w w' := by
  obtain ⟨w2, hw2⟩ : ∃ w2, w2 = (w.alloc (.cells #[.pointer (some ⟨b, 0, none⟩)] 25)).alloc (.cells #[.int .i64 ts] 3) := ⟨_, rfl⟩
  have hB : Below w.heap.size w w2 := by rw [hw2]; exact below_alloc (below_alloc (Below.refl _ w) _) _
  have hx1 : w2.heap[w.heap.size]? = some (.cells #[.pointer (some ⟨b, 0, none⟩)] 25 (0, 0)) := by rw [hw2]; exact blk_alloc (blk_new _ _) _
  have hx2 : w2.heap[w.heap.size + 1]? = some (.cells #[.int .i64 ts] 3 (0, 0)) := by
    rw [hw2]
    have := blk_new (w.alloc (.cells #[.pointer (some ⟨b, 0, none⟩)] 25)) (.cells #[.int .i64 ts] 3)
    simpa using this
  have HW := Aside0.mk hw2
  have HB2 := Aside0.mk hB
  have HX1 := Aside0.mk hx1
  have HX2 := Aside0.mk hx2
  have HS2 := Aside0.mk (h.below hB)
  have HR := Aside0.mk (Kd.C_below hr hB)
  have HK := Aside0.mk hk
  have HC := Aside0.mk (contains_wrR w2 A c l (.pointer (some ⟨w.heap.size + 1, 0, none⟩)) (.pointer (some ⟨w.heap.size, 0, none⟩)) (fun x => decide (ts ≤ lastV (look s.K (wkey x)))) HR.out
    (fun W hW x hx => room1_walk W _ _ ts (by rw [blk_cell (blk_below HX2.out hW) 0]; rfl) (by rw [blk_cell (blk_below HX1.out hW) 0]; rfl) (HS2.out.below hW) x (HK.out x hx)))
  have HV : Aside0 (roomV s l ts = if (l.any fun w => decide (ts ≤ lastV (look s.K (wkey w)))) = true then 110 else roomN s.K s.K.length l) := ⟨rfl⟩
  clear hw2 hB hx1 hx2 h hr hk
  generalize (l.any fun w => decide (ts ≤ lastV (look s.K (wkey w)))) = q at *
  go_enter Try.func39, Try.ntmps39
  go_wp2_with fail
  rw [← HW.out]
  refine HC.out.mono ?_
  rintro e w3 ⟨rfl, hb3⟩
  have HB3 : Aside0 (Below w.heap.size w w3) := ⟨HB2.out.trans (hb3.mono HB2.out.size)⟩
  have HS3 := Aside0.mk (HS2.out.below hb3)
  have X3 := Aside0.mk (blk_below HX1.out hb3)
  have HR3 := Aside0.mk (Kd.C_below HR.out hb3)
  clear hb3 HC HS2 HX1 HX2 HR
  cases q with
  | true =>
    have HV2 : Aside0 (roomV s l ts = 110) := ⟨by rw [HV.out]; rfl⟩
    go_wp2_with fail
    go_ret
    exact ⟨by rw [HV2.out]; rfl, HB3.out⟩
  | false =>
    have HV2 : Aside0 (roomV s l ts = roomN s.K s.K.length l) := ⟨by rw [HV.out]; rfl⟩
    clear HV
    have x0 := blk_cell X3.out 0
    obtain ⟨bk, bp, ve, fk, fp, hp⟩ := HS3.out
    have HP := Aside0.mk hp
    obtain ⟨c0, c1, c2, c3⟩ := hp.cells
    have hfew := hp.good.keys.few
    have HPL : Aside0 (((keysK s.K).map sk).length = s.K.length) := ⟨by simp [keysK]⟩
    clear hp HS3
    go_wp2_with (at_len; refine MapL.len HP.out.keys keyedS rfl _ 74 81 rfl Try.underlying74 rfl ((keysK s.K).map sk) HP.out.keys_nodup HP.out.keys_iff ?_; rw [HPL.out])
    clear c0 c1 c2 c3 x0
    go_loopw [7, 22] (fun v7 i wr => ∃ k n : Nat, k ≤ l.length ∧ n ≤ s.K.length + k ∧ i = .int .i64 (k : Int) ∧ v7 = .int .i64 (n : Int) ∧ Aside0 (roomN s.K s.K.length l = roomN s.K n (l.drop k)) ∧ Aside0 (Below w3.heap.size w3 wr)) (fun _ i _ => l.length - (intOf i).toNat)
    case atStart => exact ⟨0, s.K.length, Nat.zero_le _, Nat.le_refl _, rfl, rfl, ⟨rfl⟩, ⟨Below.refl _ _⟩⟩
    case round =>
      obtain ⟨k, n, hk, hn, rfl, rfl, HF, HB⟩ := hrel
      have HBW : Aside0 (Below w.heap.size w wr) := ⟨HB3.out.trans (HB.out.mono HB3.out.size)⟩
      by_cases hlt : k < l.length
      · obtain ⟨ad, cs, rfl, hlen, hK, hc0⟩ := Kd.C_get (Kd.C_below HR3.out HB.out) (⟨⟨#[]⟩, ⟨#[]⟩, false⟩ : Wr) (k : Int) (by omega) (by omega)
        rw [Int.toNat_natCast] at hK hc0
        have hc : ∀ j u, cs[j]? = some u → wr.cell? (ad.add (k * 3 + j)) = some u := hc0
        obtain rfl := k56_open hK
        have z0 : wr.cell? (ad.add (k * 3)) = some (.string (l.getD k (⟨⟨#[]⟩, ⟨#[]⟩, false⟩ : Wr)).f0) := hc 0 _ rfl
        have z1 : wr.cell? ⟨(ad.add (k * 3)).block, (ad.add (k * 3)).off + 1, none⟩ = some (.string (l.getD k (⟨⟨#[]⟩, ⟨#[]⟩, false⟩ : Wr)).f1) := by rw [← add_field _ _ 1 (by omega)]; exact hc 1 _ rfl
        have z2 : wr.cell? ⟨(ad.add (k * 3)).block, (ad.add (k * 3)).off + 2, none⟩ = some (.bool (l.getD k (⟨⟨#[]⟩, ⟨#[]⟩, false⟩ : Wr)).f2) := by rw [← add_field _ _ 2 (by omega)]; exact hc 2 _ rfl
        have hmem : l.getD k (⟨⟨#[]⟩, ⟨#[]⟩, false⟩ : Wr) ∈ l := by simp [List.getElem?_eq_getElem hlt]
        have hdrop : l.drop k = l.getD k (⟨⟨#[]⟩, ⟨#[]⟩, false⟩ : Wr) :: l.drop (k + 1) := by
          rw [List.drop_eq_getElem_cons hlt]; simp [List.getElem?_eq_getElem hlt]
        have HF2 := HF.out
        rw [hdrop] at HF2
        generalize l.getD k (⟨⟨#[]⟩, ⟨#[]⟩, false⟩ : Wr) = x at *
        have hks := HK.out x hmem
        obtain ⟨A2, ca, hv, hle, hC⟩ := HP.out.chain (wkey x)
        have hsm := HP.out.chain_some (wkey x)
        obtain ⟨wy, hwy⟩ : ∃ wy, wy = wr.alloc (.cells #[.string x.f0, .string x.f1, .bool x.f2] 56) := ⟨_, rfl⟩
        have hby : Below w3.heap.size w3 wy := by rw [hwy]; exact below_alloc HB.out _
        have hyx : wy.heap[wr.heap.size]? = some (.cells #[.string x.f0, .string x.f1, .bool x.f2] 56 (0, 0)) := by rw [hwy]; exact blk_new _ _
        have hkm := key_sk hks
        have HM : Aside0 (∀ W, Below w3.heap.size w3 W → Sem.run Try.prog (Instr.lookup 74 (.map (some bk)) (.string x.f0) true) W = .ok (.tuple #[.slice A2 (look s.K (wkey x)).length ca, .bool (!(look s.K (wkey x)).isEmpty)]) W ∧ Sem.run Try.prog (Instr.lookup 74 (.map (some bk)) (.string x.f0) false) W = .ok (.slice A2 (look s.K (wkey x)).length ca) W) := ⟨fun W hW => by
          have h1 := MapL.get_ (MapL.below HP.out.keys hW) keyedS Try.underlying74 (zeroC W) hkm
          have e1 : fk (sk (kb x.f0)) = fk (sk (wkey x)) := rfl
          rw [e1, hv, hsm] at h1
          exact ⟨h1.2, h1.1⟩⟩
        have hRN : roomN s.K s.K.length l = if 1024 ≤ (look s.K (wkey x)).length ∨ 1024 < cntK s.K n x then 2 else roomN s.K (cntK s.K n x) (l.drop (k + 1)) := HF2
        have hcn : cntK s.K n x = if (look s.K (wkey x)).isEmpty = true then n + 1 else n := rfl
        have hlen0 : (look s.K (wkey x)).isEmpty = true → (look s.K (wkey x)).length = 0 := fun h => by rw [List.isEmpty_iff.1 h]; rfl
        have hlen1 := (HP.out.good.keys.look (wkey x)).len
        have HRN := Aside0.mk hRN
        have HCN := Aside0.mk hcn
        have HL0 := Aside0.mk hlen0
        have hk1 := HM.out wy.drew (below_drew1 hby)
        have hk2 := HM.out wy.drew.drew (below_drew1 (below_drew1 hby))
        obtain ⟨hk1, -⟩ := hk1
        obtain ⟨-, hk2⟩ := hk2
        obtain ⟨c0, c1, c2, c3⟩ := (HP.out.below hby).cells
        have x0 := blk_cell (blk_below X3.out hby) 0
        have y0 := blk_cell hyx 0
        have HWY := Aside0.mk hwy
        have HBY := Aside0.mk hby
        clear hwy hby hyx hkm HM hRN hcn hlen0 hv hsm hC hle hks hmem hdrop HF2 HF hK hc0 hc hlen c1 c2 c3
        generalize cntK s.K n x = cn at *
        generalize (look s.K (wkey x)).length = ln at *
        generalize (look s.K (wkey x)).isEmpty = em at *
        have hgk : decide ((ln : Int) ≥ 1024) = decide (1024 ≤ ln) := by rw [Bool.eq_iff_iff, decide_eq_true_iff, decide_eq_true_iff]; omega
        cases em with
        | true =>
          have hl0 := HL0.out rfl
          subst hl0
          rw [if_pos rfl] at HCN
          have HN1 : Aside0 (roomN s.K s.K.length l = if 1024 < n + 1 then 2 else roomN s.K (n + 1) (l.drop (k + 1))) := ⟨by rw [HRN.out, HCN.out]; simp⟩
          clear HRN HCN HL0 hgk
          have B8 : Aside0 (Below w3.heap.size w3 wy.drew.drew) := ⟨below_drew1 (below_drew1 HBY.out)⟩
          have B9 : Aside0 (Below w.heap.size w wy.drew.drew) := ⟨HB3.out.trans (B8.out.mono HB3.out.size)⟩
          by_cases hn2 : 1024 < n + 1
          · have HN2 : Aside0 (roomV s l ts = 2) := ⟨by rw [HV2.out, HN1.out, if_pos hn2]⟩
            go_wp2_with fail
            rw [← HWY.out]
            go_region
            all_goals (try go_wp2_with fail)
            all_goals go_region
            all_goals (try go_wp2_with fail)
            all_goals go_ret
            all_goals exact ⟨by rw [HN2.out]; rfl, B9.out⟩
          · have HN2 : Aside0 (roomN s.K s.K.length l = roomN s.K (n + 1) (l.drop (k + 1))) := ⟨by rw [HN1.out, if_neg hn2]⟩
            go_wp2_with fail
            rw [← HWY.out]
            go_region
            all_goals (try go_wp2_with fail)
            all_goals go_region
            all_goals (try go_wp2_with fail)
            go_roundw
            case rel => exact ⟨k + 1, n + 1, by omega, by omega, by go_num, by first | rfl | go_num, HN2, B8⟩
            case measure => simp [intOf]; omega
        | false =>
          rw [if_neg (by simp)] at HCN
          have HN1 : Aside0 (roomN s.K s.K.length l = if 1024 ≤ ln ∨ 1024 < n then 2 else roomN s.K n (l.drop (k + 1))) := ⟨by rw [HRN.out, HCN.out]⟩
          have B8 : Aside0 (Below w3.heap.size w3 wy.drew.drew) := ⟨below_drew1 (below_drew1 HBY.out)⟩
          have B9 : Aside0 (Below w.heap.size w wy.drew.drew) := ⟨HB3.out.trans (B8.out.mono HB3.out.size)⟩
          clear HRN HCN HL0
          by_cases hln : 1024 ≤ ln
          · have HN2 : Aside0 (roomV s l ts = 2) := ⟨by rw [HV2.out, HN1.out, if_pos (.inl hln)]⟩
            have hgk2 : decide ((ln : Int) ≥ 1024) = true := by rw [hgk]; exact decide_eq_true hln
            clear hgk
            go_wp2_with fail
            rw [← HWY.out]
            go_region
            all_goals (try go_wp2_with fail)
            all_goals go_region
            all_goals (try go_wp2_with fail)
            all_goals go_ret
            all_goals exact ⟨by rw [HN2.out]; rfl, B9.out⟩
          · have hgk2 : decide ((ln : Int) ≥ 1024) = false := by rw [hgk]; exact decide_eq_false hln
            clear hgk
            by_cases hn2 : 1024 < n
            · have HN2 : Aside0 (roomV s l ts = 2) := ⟨by rw [HV2.out, HN1.out, if_pos (.inr hn2)]⟩
              go_wp2_with fail
              rw [← HWY.out]
              go_region
              all_goals (try go_wp2_with fail)
              all_goals go_region
              all_goals (try go_wp2_with fail)
              all_goals go_ret
              all_goals exact ⟨by rw [HN2.out]; rfl, B9.out⟩
            · have HN2 : Aside0 (roomN s.K s.K.length l = roomN s.K n (l.drop (k + 1))) := ⟨by rw [HN1.out, if_neg (by omega)]⟩
              go_wp2_with fail
              rw [← HWY.out]
              go_region
              all_goals (try go_wp2_with fail)
              all_goals go_region
              all_goals (try go_wp2_with fail)
              go_roundw
              case rel => exact ⟨k + 1, n, by omega, by omega, by go_num, by first | rfl | go_num, HN2, B8⟩
              case measure => simp [intOf]; omega
      · obtain rfl : k = l.length := by omega
        have HV3 : Aside0 (roomV s l ts = 0) := ⟨by rw [HV2.out, HF.out, List.drop_of_length_le (Nat.le_refl _)]; rfl⟩
        go_wp2
        go_ret
        exact ⟨by rw [HV3.out]; rfl, HBW.out⟩
end Go.Proofs.Ytaldfbmjmpkmmaa.PL
