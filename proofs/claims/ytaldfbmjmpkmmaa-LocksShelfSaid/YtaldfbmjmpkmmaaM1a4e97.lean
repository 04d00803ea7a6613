/- Texts of this proof, one behind the other (merged by a program of this session). -/
import Derived.Test.YtaldfbmjmpkmmaaMdce0c3
namespace Go.Proofs.Ytaldfbmjmpkmmaa.PL
open Go.RowKit Go.Proofs.YtaldfbmjmpkmmaaW.PrintWords Go.Proofs.YtaldfbmjmpkmmaaW.PrintLast Go.Proofs.YtaldfbmjmpkmmaaW.PrintMore Go.Shelf Go.Maps Go.WideMaps Go.Proofs.Ytaldfbmjmpkmmaa.Mk
set_option linter.unusedVariables false
set_option linter.unusedSimpArgs false
set_option linter.unusedSectionVars false
section
variable {α : Type} {d : Kd α} {e base : Nat} {ok : Nat → Prop} {w w1 : World} {v : Value} {xs : List α}
/-- A row of one's own stays where its blocks do. -/
theorem R_keep (h : d.R e w base ok v xs) (hs : ∀ g, ok g → ∀ q, q ∈ e :: d.E → ∀ cells, w.heap[g]? = some (.cells cells q (0, 0)) → w1.heap[g]? = w.heap[g]?) : d.R e w1 base ok v xs :=
  Kd.R_mono (Kd.R_move (Kd.R_bound h) (fun k hk => by
    obtain ⟨h1, _, _, q, hq, cells, hc⟩ := hk
    exact hs k h1 q hq cells hc)) (fun _ hk => hk.1)
theorem M_keep {x : α} {cs : List Value} (h : d.M w base ok x cs) (hs : ∀ g, ok g → ∀ q, q ∈ d.E → ∀ cells, w.heap[g]? = some (.cells cells q (0, 0)) → w1.heap[g]? = w.heap[g]?) : d.M w1 base ok x cs :=
  d.M_mono (fun _ hk => hk.1) (d.M_move (fun k hk => by
    obtain ⟨h1, _, _, q, hq, cells, hc⟩ := hk
    exact hs k h1 q hq cells hc) (d.M_bound h))
theorem R_map {b : Nat} (h : d.R e w base ok v xs) (hg : w.grownBy w1 (some b)) (hb : ∀ cells q, w.heap[b]? ≠ some (.cells cells q (0, 0))) : d.R e w1 base ok v xs :=
  R_keep h (fun g _ q _ cells hc => hg.block g (blk_lt hc) (fun e => hb cells q (by injection e with e; rw [← e]; exact hc)))
theorem M_map {b : Nat} {x : α} {cs : List Value} (h : d.M w base ok x cs) (hg : w.grownBy w1 (some b)) (hb : ∀ cells q, w.heap[b]? ≠ some (.cells cells q (0, 0))) : d.M w1 base ok x cs :=
  M_keep h (fun g _ q _ cells hc => hg.block g (blk_lt hc) (fun e => hb cells q (by injection e with e; rw [← e]; exact hc)))
/-- What a call has made: its blocks are ok where all new ones are. -/
theorem M_new {x : α} {cs : List Value} {n : Nat} (h : d.M w n (fun _ => True) x cs) (hok : ∀ g, n ≤ g → ok g) : d.M w 0 ok x cs :=
  d.M_lower (Nat.zero_le _) (d.M_mono (fun k hk => hok k hk.2.1) (d.M_bound h))
theorem R_new {n : Nat} (h : d.R e w n (fun _ => True) v xs) (hok : ∀ g, n ≤ g → ok g) : d.R e w 0 ok v xs :=
  Kd.R_lower (Kd.R_mono (Kd.R_bound h) (fun k hk => hok k hk.2.1)) (Nat.zero_le _)
end
section
variable {ok : Nat → Prop} {w w' w1 : World} {b N : Nat} {s : Sh} {bk bp : Nat} {ve : Value} {fk fp : Lit → Option Value}
theorem blk_map {bq : Nat} {cells : Array Value} {t : Nat} {g : Nat} (hb : w.heap[g]? = some (.cells cells t (0, 0))) (hg : w.grownBy w' (some bq)) (hn : ∀ cells t, w.heap[bq]? ≠ some (.cells cells t (0, 0))) : w'.heap[g]? = some (.cells cells t (0, 0)) :=
  (hg.block g (blk_lt hb) (fun e => hn cells t (by injection e with e; rw [← e]; exact hb))).trans hb
theorem Parts.mono (h : Parts w ok b N s bk bp ve fk fp) {M : Nat} (hM : N ≤ M) : Parts w ok b M s bk bp ve fk fp := ⟨h.box, h.keys.mono hM, h.preps.mono hM, h.ends, h.kf, h.kt, h.pf, h.pt, h.okb, h.okk, h.okp, h.ne, h.good⟩
theorem ShAt.mono (h : ShAt w ok b N s) {M : Nat} (hM : N ≤ M) : ShAt w ok b M s := by
  obtain ⟨bk, bp, ve, fk, fp, hp⟩ := h
  exact ⟨bk, bp, ve, fk, fp, hp.mono hM⟩
theorem Parts.prep_put (h : Parts w ok b N s bk bp ve fk fp) (hg : w.grownBy w' (some bp)) {r : Rec} {cs : List Value} (hm : MapL Try.prog 3 w' bp (N + 1) (lput fp (ik r.f1) (.agg cs.toArray))) (hM : k35.M w 0 ok r cs) (hn : ∀ x ∈ s.P, x.f1 ≠ r.f1)
    (hs : ShOk { s with P := pput s.P r }) : Parts w' ok b (N + 1) { s with P := pput s.P r } bk bp ve fk (lput fp (ik r.f1) (.agg cs.toArray)) :=
  have hb : ∀ cells q, w.heap[bp]? ≠ some (.cells cells q (0, 0)) := fun cells q => h.preps.not_cells
  ⟨blk_map h.box hg hb, (h.keys.kept hg (fun e => h.ne (by injection e))).mono (Nat.le_succ _), hm, R_map h.ends hg hb, fun q v hq => by
    obtain ⟨k, h1, h2, h3⟩ := h.kf q v hq
    exact ⟨k, h1, h2, R_map h3 hg hb⟩, h.kt, fun q v hq => by
    unfold lput at hq
    split at hq
    · rename_i hq2
      obtain rfl := Option.some.inj hq
      exact ⟨r, (pput_mem r r s.P).2 (.inl rfl), WideAt.sameKey_eq hq2, cs, rfl, M_map hM hg hb⟩
    · obtain ⟨r', h1, h2, cs', h3, h4⟩ := h.pf q v hq
      exact ⟨r', (pput_mem r r' s.P).2 (.inr h1), h2, cs', h3, M_map h4 hg hb⟩, fun x hx => by
    unfold lput
    split
    · rfl
    · rename_i hq
      rcases (pput_mem r x s.P).1 hx with rfl | hx
      · exact absurd (by rw [sameKey_ik]; exact decide_eq_true rfl) hq
      · exact h.pt x hx, h.okb, h.okk, h.okp, h.ne, hs⟩
end
set_option maxRecDepth 100000 in
theorem prep1_walk {ok : Nat → Prop} {b N : Nat} {s : Sh} (W : World) (bx : Nat) (hx : W.cell? ⟨bx, 0, none⟩ = some (.pointer (some ⟨b, 0, none⟩))) (h : ShAt W ok b N s) (x : ByteArray) :
    Calls Try.prog 77 (#[.string x] ++ #[.pointer (some ⟨bx, 0, none⟩)]) W fun e W' => e = .returned (.bool (heldV s (kb x) false)) ∧ Below W.heap.size W W' := by
  show Calls Try.prog 77 #[.string x, .pointer (some ⟨bx, 0, none⟩)] W _
  have HH := Aside0.mk (held_walk h x false)
  clear h
  generalize heldV s (kb x) false = q at *
  go_enter Try.func77, Try.ntmps77
  go_wp2_with fail
  refine HH.out.mono ?_
  rintro e w1 ⟨rfl, hb⟩
  have HB := Aside0.mk hb
  clear hb
  go_wp2_with fail
  go_ret
  exact ⟨rfl, HB.out⟩
set_option maxRecDepth 100000 in
theorem prep2_walk {ok : Nat → Prop} {b N : Nat} {s : Sh} (W : World) (bx : Nat) (hx : W.cell? ⟨bx, 0, none⟩ = some (.pointer (some ⟨b, 0, none⟩))) (h : ShAt W ok b N s) (x : Wr) :
    Calls Try.prog 79 (#[.agg #[.string x.f0, .string x.f1, .bool x.f2]] ++ #[.pointer (some ⟨bx, 0, none⟩)]) W fun e W' => e = .returned (.bool (heldV s (kb x.f0) true)) ∧ Below W.heap.size W W' := by
  show Calls Try.prog 79 #[.agg #[.string x.f0, .string x.f1, .bool x.f2], .pointer (some ⟨bx, 0, none⟩)] W _
  obtain ⟨x0, x1, x2⟩ := x
  simp only
  have hb0 := below_alloc (Below.refl _ W) (.cells #[.string x0, .string x1, .bool x2] 56)
  have hx2 := pw_cell_below hb0 hx
  have HH := Aside0.mk (held_walk (h.below hb0) x0 true)
  have HB0 := Aside0.mk hb0
  clear h hb0 hx
  generalize heldV s (kb x0) true = q at *
  go_enter Try.func79, Try.ntmps79
  go_wp2_with fail
  refine HH.out.mono ?_
  rintro e w1 ⟨rfl, hb⟩
  have HB : Aside0 (Below W.heap.size W w1) := ⟨HB0.out.trans (hb.mono HB0.out.size)⟩
  clear hb
  go_wp2_with fail
  go_ret
  exact ⟨rfl, HB.out⟩
set_option maxRecDepth 100000 in
set_option maxHeartbeats 8000000 in
theorem prepare_walk {w : World} {ok : Nat → Prop} {b N : Nat} {s : Sh} (h : ShAt w ok b N s) (hok : ∀ g, w.heap.size ≤ g → ok g) (hN : N < maxLen) (r : Rec) (cs : List Value) (hK : k35.K w r cs) (h0 : r.f0 = 1) (hr : okR r = 0) :
    Calls Try.prog 36 #[.pointer (some ⟨b, 0, none⟩), .agg cs.toArray] w fun e w' => e = .returned (.int .i64 (prepV s r).1) ∧ ShAt w' ok b (N + 1) (prepV s r).2 ∧ Chg ok w w' := by
  obtain ⟨A7, c7, A8, c8, rfl, l7, g7, l8, g8⟩ := k35_open hK
  have hts := (okR_all hr).1
  have HLS := Aside0.mk (prep_lists h0 hr).1
  have HRO := Aside0.mk (And.intro h0 hr)
  clear h0 hr
  obtain ⟨w2, hw2⟩ : ∃ w2, w2 = (w.alloc (.cells #[.pointer (some ⟨b, 0, none⟩)] 25)).alloc (.cells #[.int .i64 r.f0, .int .i64 r.f1, .int .i64 r.f2, .int .i64 r.f3, .string r.f4, .string r.f5, .bool r.f6, .slice A7 r.f7.length c7, .slice A8 r.f8.length c8] 35) := ⟨_, rfl⟩
  have hB : Below w.heap.size w w2 := by rw [hw2]; exact below_alloc (below_alloc (Below.refl _ w) _) _
  have hx1 : w2.heap[w.heap.size]? = some (.cells #[.pointer (some ⟨b, 0, none⟩)] 25 (0, 0)) := by rw [hw2]; exact blk_alloc (blk_new _ _) _
  have hx2 : w2.heap[w.heap.size + 1]? = some (.cells #[.int .i64 r.f0, .int .i64 r.f1, .int .i64 r.f2, .int .i64 r.f3, .string r.f4, .string r.f5, .bool r.f6, .slice A7 r.f7.length c7, .slice A8 r.f8.length c8] 35 (0, 0)) := by
    rw [hw2]
    have := blk_new (w.alloc (.cells #[.pointer (some ⟨b, 0, none⟩)] 25)) (.cells #[.int .i64 r.f0, .int .i64 r.f1, .int .i64 r.f2, .int .i64 r.f3, .string r.f4, .string r.f5, .bool r.f6, .slice A7 r.f7.length c7, .slice A8 r.f8.length c8] 35)
    simpa using this
  have HW := Aside0.mk hw2
  have HB2 := Aside0.mk hB
  have HX1 := Aside0.mk hx1
  have HX2 := Aside0.mk hx2
  have HS2 := Aside0.mk (h.below hB)
  have G7 := Aside0.mk (Kd.C_below g7 hB)
  have G8 := Aside0.mk (Kd.C_below g8 hB)
  have HK2 := Aside0.mk (k35.K_below hB hK)
  have HST := Aside0.mk (state_walk (h.below hB) r.f1 (by omega))
  have HNN := Aside0.mk hN
  have HOK := Aside0.mk hok
  have HTS := Aside0.mk hts
  clear hw2 hB hx1 hx2 h g7 g8 l7 l8 hK hok hts
  have x0 := blk_cell HX1.out 0
  have y1 := blk_cell HX2.out 1
  have HPV : Aside0 (prepV s r = if 0 < (stateV s r.f1).1 then (6, s) else if (r.f7.any (fun k => heldV s (kb k) false) || r.f8.any (fun w => heldV s (kb w.f0) true)) = true then (180, s) else if 1024 ≤ s.P.length then (2, s) else (0, { s with P := pput s.P r })) := ⟨rfl⟩
  go_enter Try.func36, Try.ntmps36
  go_wp2_with fail
  rw [← HW.out]
  refine HST.out.mono ?_
  rintro e w3 ⟨rfl, hb3⟩
  have HB3 : Aside0 (Below w.heap.size w w3) := ⟨HB2.out.trans (hb3.mono HB2.out.size)⟩
  have HS3 := Aside0.mk (HS2.out.below hb3)
  have X3 := Aside0.mk (blk_below HX1.out hb3)
  have Y3 := Aside0.mk (blk_below HX2.out hb3)
  have HK3 := Aside0.mk (k35.K_below hb3 HK2.out)
  have C7 := Aside0.mk (Kd.C_below G7.out hb3)
  have C8 := Aside0.mk (Kd.C_below G8.out hb3)
  clear hb3 x0 y1 HST HS2 HX1 HX2 HK2 G7 G8
  have x0 := blk_cell X3.out 0
  have y7 := blk_cell Y3.out 7
  have y8 := blk_cell Y3.out 8
  have HZ := Aside0.mk (fun hz => state_zero (s := s) (t := r.f1) hz)
  by_cases hz : 0 < (stateV s r.f1).1
  · rw [if_pos hz] at HPV
    have hzd : decide ((stateV s r.f1).1 > 0) = true := decide_eq_true hz
    clear HZ
    generalize (stateV s r.f1).1 = st1 at *
    generalize (stateV s r.f1).2 = st2 at *
    go_wp2_with fail
    go_ret
    exact ⟨by rw [HPV.out]; rfl, by rw [HPV.out]; exact HS3.out.mono (Nat.le_succ _), Chg.of_below HB3.out⟩
  · rw [if_neg hz] at HPV
    have hzd : decide ((stateV s r.f1).1 > 0) = false := decide_eq_false hz
    have HZ1 := Aside0.mk (HZ.out hz)
    have HC1 := Aside0.mk (contains_strP w3 A7 c7 r.f7 (.pointer (some ⟨w.heap.size, 0, none⟩)) (fun k => heldV s (kb k) false) C7.out (contains_enough fun W hW x => prep1_walk W _ (by rw [blk_cell (blk_below X3.out hW) 0]; rfl) (HS3.out.below hW) x))
    clear HZ hz C7
    generalize (stateV s r.f1).1 = st1 at *
    generalize (stateV s r.f1).2 = st2 at *
    go_wp2_with fail
    refine HC1.out.mono ?_
    rintro e w4 ⟨rfl, hb4⟩
    have HB4 : Aside0 (Below w.heap.size w w4) := ⟨HB3.out.trans (hb4.mono HB3.out.size)⟩
    have HS4 := Aside0.mk (HS3.out.below hb4)
    have X4 := Aside0.mk (blk_below X3.out hb4)
    have Y4 := Aside0.mk (blk_below Y3.out hb4)
    have HK4 := Aside0.mk (k35.K_below hb4 HK3.out)
    have D8 := Aside0.mk (Kd.C_below C8.out hb4)
    clear hb4 x0 y7 y8 HC1 HS3 X3 Y3 HK3 C8
    have x0 := blk_cell X4.out 0
    have y1 := blk_cell Y4.out 1
    have y8 := blk_cell Y4.out 8
    have HC2 := Aside0.mk (contains_wrP w4 A8 c8 r.f8 (.pointer (some ⟨w.heap.size, 0, none⟩)) (fun x => heldV s (kb x.f0) true) D8.out (contains_enough fun W hW x => prep2_walk W _ (by rw [blk_cell (blk_below X4.out hW) 0]; rfl) (HS4.out.below hW) x))
    clear D8
    generalize (r.f7.any fun k => heldV s (kb k) false) = q1 at *
    generalize (r.f8.any fun x => heldV s (kb x.f0) true) = q2 at *
    cases q1 with
    | true =>
      have HPV2 : Aside0 (prepV s r = (180, s)) := ⟨by rw [HPV.out]; rfl⟩
      go_wp2_with fail
      go_ret
      exact ⟨by rw [HPV2.out]; rfl, by rw [HPV2.out]; exact HS4.out.mono (Nat.le_succ _), Chg.of_below HB4.out⟩
    | false =>
      go_wp2_with fail
      refine HC2.out.mono ?_
      rintro e w5 ⟨rfl, hb5⟩
      have HB5 : Aside0 (Below w.heap.size w w5) := ⟨HB4.out.trans (hb5.mono HB4.out.size)⟩
      have HS5 := Aside0.mk (HS4.out.below hb5)
      have X5 := Aside0.mk (blk_below X4.out hb5)
      have Y5 := Aside0.mk (blk_below Y4.out hb5)
      have HK5 := Aside0.mk (k35.K_below hb5 HK4.out)
      clear hb5 x0 y1 y8 HC2 HS4 X4 Y4 HK4
      have x0 := blk_cell X5.out 0
      cases q2 with
      | true =>
        have HPV2 : Aside0 (prepV s r = (180, s)) := ⟨by rw [HPV.out]; rfl⟩
        go_wp2_with fail
        go_ret
        exact ⟨by rw [HPV2.out]; rfl, by rw [HPV2.out]; exact HS5.out.mono (Nat.le_succ _), Chg.of_below HB5.out⟩
      | false =>
        rw [if_neg (by simp)] at HPV
        obtain ⟨bk, bp, ve, fk, fp, hp⟩ := HS5.out
        have HP5 := Aside0.mk hp
        obtain ⟨c0, c1, c2, c3⟩ := hp.cells
        have hfew := hp.good.few
        clear hp
        have hpl : (s.P.map (fun r => ik r.f1)).length = s.P.length := List.length_map ..
        have HPL := Aside0.mk hpl
        clear hpl
        have hcd : decide ((s.P.length : Int) ≥ 1024) = decide (1024 ≤ s.P.length) := by rw [Bool.eq_iff_iff, decide_eq_true_iff, decide_eq_true_iff]; omega
        by_cases hfull : 1024 ≤ s.P.length
        · rw [if_pos hfull] at HPV
          have hcd2 : decide ((s.P.length : Int) ≥ 1024) = true := by rw [hcd]; exact decide_eq_true hfull
          clear hcd
          go_wp2_with (at_len; refine MapL.len HP5.out.preps keyedI rfl _ 75 35 rfl Try.underlying75 rfl (s.P.map (fun r => ik r.f1)) HP5.out.preps_nodup HP5.out.preps_iff ?_; rw [HPL.out])
          go_ret
          exact ⟨by rw [HPV.out]; rfl, by rw [HPV.out]; exact HS5.out.mono (Nat.le_succ _), Chg.of_below HB5.out⟩
        · rw [if_neg hfull] at HPV
          have hcd2 : decide ((s.P.length : Int) ≥ 1024) = false := by rw [hcd]; exact decide_eq_false hfull
          clear hcd
          have HSO : Aside0 (ShOk { s with P := pput s.P r }) := ⟨by
            have := prepV_ok HP5.out.good HRO.out.1 HRO.out.2
            rw [HPV.out] at this
            exact this⟩
          have y1 := blk_cell Y5.out 1
          have y0 := blk_cell Y5.out 0
          have y2 := blk_cell Y5.out 2
          have y3 := blk_cell Y5.out 3
          have y4 := blk_cell Y5.out 4
          have y5 := blk_cell Y5.out 5
          have y6 := blk_cell Y5.out 6
          have y7 := blk_cell Y5.out 7
          have y8 := blk_cell Y5.out 8
          have HU := HTS.out
          have HCP : Aside0 (∀ W, Below w5.heap.size w5 W → Calls Try.prog 54 #[.agg #[.int .i64 r.f0, .int .i64 r.f1, .int .i64 r.f2, .int .i64 r.f3, .string r.f4, .string r.f5, .bool r.f6, .slice A7 r.f7.length c7, .slice A8 r.f8.length c8]] W fun e w' => ∃ cs', e = .returned (.agg cs'.toArray) ∧ k35.M w' W.heap.size (fun _ => True) r cs' ∧ Below W.heap.size W w') := ⟨fun W hW =>
            copied_walk W r [.int .i64 r.f0, .int .i64 r.f1, .int .i64 r.f2, .int .i64 r.f3, .string r.f4, .string r.f5, .bool r.f6, .slice A7 r.f7.length c7, .slice A8 r.f8.length c8] (k35.K_below hW HK5.out) (by have := HLS.out.few7; omega) (by have := HLS.out.few8; omega)⟩
          go_wp2_with (at_len; refine MapL.len HP5.out.preps keyedI rfl _ 75 35 rfl Try.underlying75 rfl (s.P.map (fun r => ik r.f1)) HP5.out.preps_nodup HP5.out.preps_iff ?_; rw [HPL.out])
          clear c0 c2 c3 hcd2
          go_region_law (first
            | (go_simp; go_at_call 54; refine (HCP.out _ (by repeat (first | exact Below.refl _ _ | apply below_drew1))).mono ?_; rintro e w6 ⟨cs', rfl, hM, hb6⟩; have HM := Aside0.mk hM; have HB6 := Aside0.mk hb6; have HP6 := Aside0.mk ((HP5.out.below (below_drew1 (Below.refl _ _))).below hb6); obtain ⟨w7, hrun, hm7, hg7⟩ := MapL.put_ HP6.out.preps keyedI Try.underlying75 HNN.out (key_ik (t := r.f1) (by have := HTS.out; omega)) (.agg cs'.toArray); have HM7 := Aside0.mk hm7; have HG7 := Aside0.mk hg7; clear hM hm7 hg7 c1 x0 y0 y1 y2 y3 y4 y5 y6 y7 y8; obtain ⟨-, c1, -, -⟩ := HP6.out.cells; have y1 := blk_cell (blk_below (blk_drew Y5.out) hb6) 1; have x0 := blk_cell (blk_below (blk_drew X5.out) hb6) 0; clear hb6))
          all_goals (try go_wp2_with fail)
          all_goals go_ret
          all_goals
            have B6 : Aside0 (Below w.heap.size w w6) := ⟨(below_drew1 HB5.out).trans (HB6.out.mono (below_drew1 HB5.out).size)⟩
            exact ⟨by rw [HPV.out]; rfl, by rw [HPV.out]; exact ⟨bk, bp, ve, fk, _, HP6.out.prep_put HG7.out HM7.out (M_new HM.out (fun g hg => HOK.out g (Nat.le_trans (below_drew1 HB5.out).size hg))) HZ1.out.1 HSO.out⟩, (Chg.of_below B6.out).trans (Chg.of_grown HG7.out HP6.out.okp)⟩
end Go.Proofs.Ytaldfbmjmpkmmaa.PL
namespace Go.Proofs.Ytaldfbmjmpkmmaa.PL
open Go.RowKit Go.Proofs.YtaldfbmjmpkmmaaW.PrintWords Go.Proofs.YtaldfbmjmpkmmaaW.PrintLast Go.Proofs.YtaldfbmjmpkmmaaW.PrintMore Go.Shelf Go.Maps Go.WideMaps Go.Proofs.Ytaldfbmjmpkmmaa.Mk
set_option linter.unusedVariables false
set_option linter.unusedSimpArgs false
set_option linter.unusedSectionVars false
set_option maxRecDepth 100000 in
set_option maxHeartbeats 4000000 in
theorem room1_walk {ok : Nat → Prop} {b N : Nat} {s : Sh} (W : World) (bt bx : Nat) (ts : Int) (ht : W.cell? ⟨bt, 0, none⟩ = some (.int .i64 ts)) (hx : W.cell? ⟨bx, 0, none⟩ = some (.pointer (some ⟨b, 0, none⟩))) (h : ShAt W ok b N s) (x : Wr) (hk : x.f0.size ≤ maxLen) :
    Calls Try.prog 83 (#[.agg #[.string x.f0, .string x.f1, .bool x.f2]] ++ #[.pointer (some ⟨bt, 0, none⟩), .pointer (some ⟨bx, 0, none⟩)]) W fun e W' => e = .returned (.bool (decide (ts ≤ lastV (look s.K (wkey x))))) ∧ Below W.heap.size W W' := by
  obtain ⟨x0, x1, x2⟩ := x
  show Calls Try.prog 83 #[.agg #[.string x0, .string x1, .bool x2], .pointer (some ⟨bt, 0, none⟩), .pointer (some ⟨bx, 0, none⟩)] W (fun e W' => e = .returned (.bool (decide (ts ≤ lastV (look s.K (kb x0))))) ∧ Below W.heap.size W W')
  simp only at hk
  have hb0 := below_alloc (Below.refl _ W) (.cells #[.string x0, .string x1, .bool x2] 56)
  have hbx := blk_new W (.cells #[.string x0, .string x1, .bool x2] 56)
  obtain ⟨W1, hW1⟩ : ∃ W1, W1 = W.alloc (.cells #[.string x0, .string x1, .bool x2] 56) := ⟨_, rfl⟩
  rw [← hW1] at hb0 hbx
  have ht2 := pw_cell_below hb0 ht
  have hx2 := pw_cell_below hb0 hx
  have HT := Aside0.mk ht2
  have HX := Aside0.mk hx2
  have HBX := Aside0.mk hbx
  have HH : Aside0 (∀ W2, Below W1.heap.size W1 W2 → Calls Try.prog 43 #[.pointer (some ⟨b, 0, none⟩), .string x0] W2 fun e w' => e = .returned (.int .i64 (lastV (look s.K (kb x0)))) ∧ Below W2.heap.size W2 w') := ⟨fun W2 h2 => lastS_walk ((h.below hb0).below h2) x0 hk⟩
  have HB0 := Aside0.mk hb0
  have HW1 := Aside0.mk hW1
  clear h hb0 hx ht hbx hk hW1
  generalize lastV (look s.K (kb x0)) = q at *
  go_enter Try.func83, Try.ntmps83
  go_wp2_with fail
  rw [← HW1.out]
  have z0 := blk_cell HBX.out 0
  go_region_law (go_simp; go_at_call 43; refine (HH.out _ (by repeat (first | exact Below.refl _ _ | apply below_drew1))).mono ?_; rintro e w3 ⟨rfl, hb3⟩; have HB3 := Aside0.mk hb3; have ht3 := pw_cell_below hb3 (pw_cell_below (below_drew1 (Below.refl _ _)) HT.out); have hx3 := pw_cell_below hb3 (pw_cell_below (below_drew1 (Below.refl _ _)) HX.out); clear hb3)
  all_goals (try go_wp2_with fail)
  all_goals go_ret
  all_goals
    have B1 : Below W.heap.size W W1.drew := below_drew1 HB0.out
    exact ⟨rfl, B1.trans (HB3.out.mono B1.size)⟩
set_option maxRecDepth 100000 in
set_option maxHeartbeats 8000000 in
theorem room_walk {w : World} {ok : Nat → Prop} {b N : Nat} {s : Sh} (h : ShAt w ok b N s) (A : Option Addr) (c : Nat) (l : List Wr) (hr : Kd.C k56 w A l.length l) (hl : l.length ≤ 1024) (hk : ∀ x ∈ l, x.f0.size ≤ maxLen) (ts : Int) :
    Calls Try.prog 39 #[.pointer (some ⟨b, 0, none⟩), .slice A l.length c, .int .i64 ts] w fun e w' => e = .returned (.int .i64 (roomV s l ts)) ∧ Below w.heap.size w w' := by
  obtain ⟨w2, hw2⟩ : ∃ w2, w2 = (w.alloc (.cells #[.pointer (some ⟨b, 0, none⟩)] 25)).alloc (.cells #[.int .i64 ts] 3) := ⟨_, rfl⟩
  have hB : Below w.heap.size w w2 := by rw [hw2]; exact below_alloc (below_alloc (Below.refl _ w) _) _
  have hx1 : w2.heap[w.heap.size]? = some (.cells #[.pointer (some ⟨b, 0, none⟩)] 25 (0, 0)) := by rw [hw2]; exact blk_alloc (blk_new _ _) _
  have hx2 : w2.heap[w.heap.size + 1]? = some (.cells #[.int .i64 ts] 3 (0, 0)) := by
    rw [hw2]
    have := blk_new (w.alloc (.cells #[.pointer (some ⟨b, 0, none⟩)] 25)) (.cells #[.int .i64 ts] 3)
    simpa using this
  have HW := Aside0.mk hw2
  have HB2 := Aside0.mk hB
  have HX1 := Aside0.mk hx1
  have HX2 := Aside0.mk hx2
  have HS2 := Aside0.mk (h.below hB)
  have HR := Aside0.mk (Kd.C_below hr hB)
  have HK := Aside0.mk hk
  have HC := Aside0.mk (contains_wrR w2 A c l (.pointer (some ⟨w.heap.size + 1, 0, none⟩)) (.pointer (some ⟨w.heap.size, 0, none⟩)) (fun x => decide (ts ≤ lastV (look s.K (wkey x)))) HR.out
    (fun W hW x hx => room1_walk W _ _ ts (by rw [blk_cell (blk_below HX2.out hW) 0]; rfl) (by rw [blk_cell (blk_below HX1.out hW) 0]; rfl) (HS2.out.below hW) x (HK.out x hx)))
  have HV : Aside0 (roomV s l ts = if (l.any fun w => decide (ts ≤ lastV (look s.K (wkey w)))) = true then 110 else roomN s.K s.K.length l) := ⟨rfl⟩
  clear hw2 hB hx1 hx2 h hr hk
  generalize (l.any fun w => decide (ts ≤ lastV (look s.K (wkey w)))) = q at *
  go_enter Try.func39, Try.ntmps39
  go_wp2_with fail
  rw [← HW.out]
  refine HC.out.mono ?_
  rintro e w3 ⟨rfl, hb3⟩
  have HB3 : Aside0 (Below w.heap.size w w3) := ⟨HB2.out.trans (hb3.mono HB2.out.size)⟩
  have HS3 := Aside0.mk (HS2.out.below hb3)
  have X3 := Aside0.mk (blk_below HX1.out hb3)
  have HR3 := Aside0.mk (Kd.C_below HR.out hb3)
  clear hb3 HC HS2 HX1 HX2 HR
  cases q with
  | true =>
    have HV2 : Aside0 (roomV s l ts = 110) := ⟨by rw [HV.out]; rfl⟩
    go_wp2_with fail
    go_ret
    exact ⟨by rw [HV2.out]; rfl, HB3.out⟩
  | false =>
    have HV2 : Aside0 (roomV s l ts = roomN s.K s.K.length l) := ⟨by rw [HV.out]; rfl⟩
    clear HV
    have x0 := blk_cell X3.out 0
    obtain ⟨bk, bp, ve, fk, fp, hp⟩ := HS3.out
    have HP := Aside0.mk hp
    obtain ⟨c0, c1, c2, c3⟩ := hp.cells
    have hfew := hp.good.keys.few
    have HPL : Aside0 (((keysK s.K).map sk).length = s.K.length) := ⟨by simp [keysK]⟩
    clear hp HS3
    go_wp2_with (at_len; refine MapL.len HP.out.keys keyedS rfl _ 74 81 rfl Try.underlying74 rfl ((keysK s.K).map sk) HP.out.keys_nodup HP.out.keys_iff ?_; rw [HPL.out])
    clear c0 c1 c2 c3 x0
    go_loopw [7, 22] (fun v7 i wr => ∃ k n : Nat, k ≤ l.length ∧ n ≤ s.K.length + k ∧ i = .int .i64 (k : Int) ∧ v7 = .int .i64 (n : Int) ∧ Aside0 (roomN s.K s.K.length l = roomN s.K n (l.drop k)) ∧ Aside0 (Below w3.heap.size w3 wr)) (fun _ i _ => l.length - (intOf i).toNat)
    case atStart => exact ⟨0, s.K.length, Nat.zero_le _, Nat.le_refl _, rfl, rfl, ⟨rfl⟩, ⟨Below.refl _ _⟩⟩
    case round =>
      obtain ⟨k, n, hk, hn, rfl, rfl, HF, HB⟩ := hrel
      have HBW : Aside0 (Below w.heap.size w wr) := ⟨HB3.out.trans (HB.out.mono HB3.out.size)⟩
      by_cases hlt : k < l.length
      · obtain ⟨ad, cs, rfl, hlen, hK, hc0⟩ := Kd.C_get (Kd.C_below HR3.out HB.out) (⟨⟨#[]⟩, ⟨#[]⟩, false⟩ : Wr) (k : Int) (by omega) (by omega)
        rw [Int.toNat_natCast] at hK hc0
        have hc : ∀ j u, cs[j]? = some u → wr.cell? (ad.add (k * 3 + j)) = some u := hc0
        obtain rfl := k56_open hK
        have z0 : wr.cell? (ad.add (k * 3)) = some (.string (l.getD k (⟨⟨#[]⟩, ⟨#[]⟩, false⟩ : Wr)).f0) := hc 0 _ rfl
        have z1 : wr.cell? ⟨(ad.add (k * 3)).block, (ad.add (k * 3)).off + 1, none⟩ = some (.string (l.getD k (⟨⟨#[]⟩, ⟨#[]⟩, false⟩ : Wr)).f1) := by rw [← add_field _ _ 1 (by omega)]; exact hc 1 _ rfl
        have z2 : wr.cell? ⟨(ad.add (k * 3)).block, (ad.add (k * 3)).off + 2, none⟩ = some (.bool (l.getD k (⟨⟨#[]⟩, ⟨#[]⟩, false⟩ : Wr)).f2) := by rw [← add_field _ _ 2 (by omega)]; exact hc 2 _ rfl
        have hmem : l.getD k (⟨⟨#[]⟩, ⟨#[]⟩, false⟩ : Wr) ∈ l := by simp [List.getElem?_eq_getElem hlt]
        have hdrop : l.drop k = l.getD k (⟨⟨#[]⟩, ⟨#[]⟩, false⟩ : Wr) :: l.drop (k + 1) := by
          rw [List.drop_eq_getElem_cons hlt]; simp [List.getElem?_eq_getElem hlt]
        have HF2 := HF.out
        rw [hdrop] at HF2
        generalize l.getD k (⟨⟨#[]⟩, ⟨#[]⟩, false⟩ : Wr) = x at *
        have hks := HK.out x hmem
        obtain ⟨A2, ca, hv, hle, hC⟩ := HP.out.chain (wkey x)
        have hsm := HP.out.chain_some (wkey x)
        obtain ⟨wy, hwy⟩ : ∃ wy, wy = wr.alloc (.cells #[.string x.f0, .string x.f1, .bool x.f2] 56) := ⟨_, rfl⟩
        have hby : Below w3.heap.size w3 wy := by rw [hwy]; exact below_alloc HB.out _
        have hyx : wy.heap[wr.heap.size]? = some (.cells #[.string x.f0, .string x.f1, .bool x.f2] 56 (0, 0)) := by rw [hwy]; exact blk_new _ _
        have hkm := key_sk hks
        have HM : Aside0 (∀ W, Below w3.heap.size w3 W → Sem.run Try.prog (Instr.lookup 74 (.map (some bk)) (.string x.f0) true) W = .ok (.tuple #[.slice A2 (look s.K (wkey x)).length ca, .bool (!(look s.K (wkey x)).isEmpty)]) W ∧ Sem.run Try.prog (Instr.lookup 74 (.map (some bk)) (.string x.f0) false) W = .ok (.slice A2 (look s.K (wkey x)).length ca) W) := ⟨fun W hW => by
          have h1 := MapL.get_ (MapL.below HP.out.keys hW) keyedS Try.underlying74 (zeroC W) hkm
          have e1 : fk (sk (kb x.f0)) = fk (sk (wkey x)) := rfl
          rw [e1, hv, hsm] at h1
          exact ⟨h1.2, h1.1⟩⟩
        have hRN : roomN s.K s.K.length l = if 1024 ≤ (look s.K (wkey x)).length ∨ 1024 < cntK s.K n x then 2 else roomN s.K (cntK s.K n x) (l.drop (k + 1)) := HF2
        have hcn : cntK s.K n x = if (look s.K (wkey x)).isEmpty = true then n + 1 else n := rfl
        have hlen0 : (look s.K (wkey x)).isEmpty = true → (look s.K (wkey x)).length = 0 := fun h => by rw [List.isEmpty_iff.1 h]; rfl
        have hlen1 := (HP.out.good.keys.look (wkey x)).len
        have HRN := Aside0.mk hRN
        have HCN := Aside0.mk hcn
        have HL0 := Aside0.mk hlen0
        have hk1 := HM.out wy.drew (below_drew1 hby)
        have hk2 := HM.out wy.drew.drew (below_drew1 (below_drew1 hby))
        obtain ⟨hk1, -⟩ := hk1
        obtain ⟨-, hk2⟩ := hk2
        obtain ⟨c0, c1, c2, c3⟩ := (HP.out.below hby).cells
        have x0 := blk_cell (blk_below X3.out hby) 0
        have y0 := blk_cell hyx 0
        have HWY := Aside0.mk hwy
        have HBY := Aside0.mk hby
        clear hwy hby hyx hkm HM hRN hcn hlen0 hv hsm hC hle hks hmem hdrop HF2 HF hK hc0 hc hlen c1 c2 c3
        generalize cntK s.K n x = cn at *
        generalize (look s.K (wkey x)).length = ln at *
        generalize (look s.K (wkey x)).isEmpty = em at *
        have hgk : decide ((ln : Int) ≥ 1024) = decide (1024 ≤ ln) := by rw [Bool.eq_iff_iff, decide_eq_true_iff, decide_eq_true_iff]; omega
        cases em with
        | true =>
          have hl0 := HL0.out rfl
          subst hl0
          rw [if_pos rfl] at HCN
          have HN1 : Aside0 (roomN s.K s.K.length l = if 1024 < n + 1 then 2 else roomN s.K (n + 1) (l.drop (k + 1))) := ⟨by rw [HRN.out, HCN.out]; simp⟩
          clear HRN HCN HL0 hgk
          have B8 : Aside0 (Below w3.heap.size w3 wy.drew.drew) := ⟨below_drew1 (below_drew1 HBY.out)⟩
          have B9 : Aside0 (Below w.heap.size w wy.drew.drew) := ⟨HB3.out.trans (B8.out.mono HB3.out.size)⟩
          by_cases hn2 : 1024 < n + 1
          · have HN2 : Aside0 (roomV s l ts = 2) := ⟨by rw [HV2.out, HN1.out, if_pos hn2]⟩
            go_wp2_with fail
            rw [← HWY.out]
            go_region
            all_goals (try go_wp2_with fail)
            all_goals go_region
            all_goals (try go_wp2_with fail)
            all_goals go_ret
            all_goals exact ⟨by rw [HN2.out]; rfl, B9.out⟩
          · have HN2 : Aside0 (roomN s.K s.K.length l = roomN s.K (n + 1) (l.drop (k + 1))) := ⟨by rw [HN1.out, if_neg hn2]⟩
            go_wp2_with fail
            rw [← HWY.out]
            go_region
            all_goals (try go_wp2_with fail)
            all_goals go_region
            all_goals (try go_wp2_with fail)
            go_roundw
            case rel => exact ⟨k + 1, n + 1, by omega, by omega, by go_num, by first | rfl | go_num, HN2, B8⟩
            case measure => simp [intOf]; omega
        | false =>
          rw [if_neg (by simp)] at HCN
          have HN1 : Aside0 (roomN s.K s.K.length l = if 1024 ≤ ln ∨ 1024 < n then 2 else roomN s.K n (l.drop (k + 1))) := ⟨by rw [HRN.out, HCN.out]⟩
          have B8 : Aside0 (Below w3.heap.size w3 wy.drew.drew) := ⟨below_drew1 (below_drew1 HBY.out)⟩
          have B9 : Aside0 (Below w.heap.size w wy.drew.drew) := ⟨HB3.out.trans (B8.out.mono HB3.out.size)⟩
          clear HRN HCN HL0
          by_cases hln : 1024 ≤ ln
          · have HN2 : Aside0 (roomV s l ts = 2) := ⟨by rw [HV2.out, HN1.out, if_pos (.inl hln)]⟩
            have hgk2 : decide ((ln : Int) ≥ 1024) = true := by rw [hgk]; exact decide_eq_true hln
            clear hgk
            go_wp2_with fail
            rw [← HWY.out]
            go_region
            all_goals (try go_wp2_with fail)
            all_goals go_region
            all_goals (try go_wp2_with fail)
            all_goals go_ret
            all_goals exact ⟨by rw [HN2.out]; rfl, B9.out⟩
          · have hgk2 : decide ((ln : Int) ≥ 1024) = false := by rw [hgk]; exact decide_eq_false hln
            clear hgk
            by_cases hn2 : 1024 < n
            · have HN2 : Aside0 (roomV s l ts = 2) := ⟨by rw [HV2.out, HN1.out, if_pos (.inr hn2)]⟩
              go_wp2_with fail
              rw [← HWY.out]
              go_region
              all_goals (try go_wp2_with fail)
              all_goals go_region
              all_goals (try go_wp2_with fail)
              all_goals go_ret
              all_goals exact ⟨by rw [HN2.out]; rfl, B9.out⟩
            · have HN2 : Aside0 (roomN s.K s.K.length l = roomN s.K n (l.drop (k + 1))) := ⟨by rw [HN1.out, if_neg (by omega)]⟩
              go_wp2_with fail
              rw [← HWY.out]
              go_region
              all_goals (try go_wp2_with fail)
              all_goals go_region
              all_goals (try go_wp2_with fail)
              go_roundw
              case rel => exact ⟨k + 1, n, by omega, by omega, by go_num, by first | rfl | go_num, HN2, B8⟩
              case measure => simp [intOf]; omega
      · obtain rfl : k = l.length := by omega
        have HV3 : Aside0 (roomV s l ts = 0) := ⟨by rw [HV2.out, HF.out, List.drop_of_length_le (Nat.le_refl _)]; rfl⟩
        go_wp2
        go_ret
        exact ⟨by rw [HV3.out]; rfl, HBW.out⟩
end Go.Proofs.Ytaldfbmjmpkmmaa.PL
namespace Go.Proofs.Ytaldfbmjmpkmmaa.PL
open Go.RowKit Go.Proofs.YtaldfbmjmpkmmaaW.PrintWords Go.Proofs.YtaldfbmjmpkmmaaW.PrintLast Go.Proofs.YtaldfbmjmpkmmaaW.PrintMore Go.Shelf Go.Maps Go.WideMaps Go.Proofs.Ytaldfbmjmpkmmaa.Mk
set_option linter.unusedVariables false
set_option linter.unusedSimpArgs false
set_option linter.unusedSectionVars false
section
variable {ok : Nat → Prop} {w w' w1 : World} {b N : Nat} {s : Sh} {bk bp : Nat} {ve : Value} {fk fp : Lit → Option Value}
theorem Parts.put1 (h : Parts w ok b N s bk bp ve fk fp) (hg : w.grownBy w' (some bk)) {x : Wr} {ts : Int} {u : Value} (hm : MapL Try.prog 9 w' bk (N + 1) (lput fk (sk (wkey x)) u))
    (hu : Kd.R k29 29 w 0 ok u (look s.K (wkey x) ++ [⟨ts, x.f1, x.f2⟩])) (hk : KOk (put1 ts s.K x)) : Parts w' ok b (N + 1) { s with K := put1 ts s.K x } bk bp ve (lput fk (sk (wkey x)) u) fp :=
  have hb : ∀ cells q, w.heap[bk]? ≠ some (.cells cells q (0, 0)) := fun cells q => h.keys.not_cells
  have hself : ∀ k : Key, (sk k).sameKey (sk k) = true := fun k => by simp [sk, Lit.sameKey]
  ⟨blk_map h.box hg hb, hm, (h.preps.kept hg (fun e => h.ne (by injection e with e; exact e.symm))).mono (Nat.le_succ _), R_map h.ends hg hb, fun q v hq => by
    unfold lput at hq
    split at hq
    · rename_i hq2
      obtain rfl := Option.some.inj hq
      refine ⟨wkey x, WideAt.sameKey_eq hq2, (kput_keys _ _ _ _).2 (.inl rfl), ?_⟩
      show Kd.R k29 29 w' 0 ok u (look (kput s.K (wkey x) _) (wkey x))
      rw [look_kput, if_pos rfl]
      exact R_map hu hg hb
    · rename_i hq2
      obtain ⟨k, h1, h2, h3⟩ := h.kf q v hq
      refine ⟨k, h1, (kput_keys _ _ _ _).2 (.inr h2), ?_⟩
      show Kd.R k29 29 w' 0 ok v (look (kput s.K (wkey x) _) k)
      rw [look_kput, if_neg (fun e => hq2 (by rw [h1, ← e]; exact hself _))]
      exact R_map h3 hg hb, fun k hk' => by
    unfold lput
    split
    · rfl
    · rename_i hq2
      rcases (kput_keys _ _ _ _).1 hk' with rfl | hk'
      · exact absurd (hself _) hq2
      · exact h.kt k hk', fun q v hq => by
    obtain ⟨r, h1, h2, cs, h3, h4⟩ := h.pf q v hq
    exact ⟨r, h1, h2, cs, h3, M_map h4 hg hb⟩, h.pt, h.okb, h.okk, h.okp, h.ne, ⟨hk, h.good.rise, h.good.few, h.good.recs, h.good.ends, h.good.over⟩⟩
end
set_option maxRecDepth 100000 in
set_option maxHeartbeats 8000000 in
theorem put_walk {w : World} {ok : Nat → Prop} {b N : Nat} {s : Sh} (h : ShAt w ok b N s) (hok : ∀ g, w.heap.size ≤ g → ok g) (A : Option Addr) (c : Nat) (l : List Wr) (hr : Kd.R k56 56 w 0 ok (.slice A l.length c) l) (hl : l.length ≤ 1024) (hk : ∀ x ∈ l, x.f0.size ≤ maxLen)
    (ts : Int) (hp : PutOk s.K l ts) (hN : N + l.length < maxLen) :
    Calls Try.prog 40 #[.pointer (some ⟨b, 0, none⟩), .slice A l.length c, .int .i64 ts] w fun e w' => e = .returned (.tuple #[]) ∧ ShAt w' ok b (N + l.length) { s with K := putV s.K l ts } ∧ Chg ok w w' ∧ Still ok w w' := by
  have HS := Aside0.mk h
  have HOK := Aside0.mk hok
  have HR := Aside0.mk hr
  have HK := Aside0.mk hk
  have HPO := Aside0.mk (And.intro (let ⟨_, _, _, _, _, hp⟩ := h; hp.good.keys) hp)
  have HNN := Aside0.mk hN
  clear h hok hr hk hp hN
  go_enter Try.func40, Try.ntmps40
  go_wp2
  go_loopw [10] (fun i wr => ∃ (k : Nat) (K : List (Key × Chain)), k ≤ l.length ∧ i = .int .i64 (k : Int) ∧ Aside0 (putV s.K l ts = putV K (l.drop k) ts ∧ KOk K ∧ PutOk K (l.drop k) ts) ∧ Aside0 (ShAt wr ok b (N + k) { s with K := K }) ∧ Aside0 (Chg ok w wr) ∧ Aside0 (Still ok w wr)) (fun i _ => l.length - (intOf i).toNat)
  case atStart => exact ⟨0, s.K, Nat.zero_le _, rfl, ⟨rfl, HPO.out.1, HPO.out.2⟩, HS, ⟨Chg.of_below (Below.refl _ _)⟩, ⟨Still.of_below (Below.refl _ _)⟩⟩
  case round =>
    obtain ⟨k, K, hk, rfl, HF, HSH, HCH, HST⟩ := hrel
    by_cases hlt : k < l.length
    · obtain ⟨A', c', he, hle', hC'⟩ := Kd.R_reads (R_still (by decide) HR.out HST.out)
      injection he with e1 e2 e3
      subst e1 e3
      obtain ⟨ad, cs, rfl, hlen, hK, hc0⟩ := Kd.C_get hC' (⟨⟨#[]⟩, ⟨#[]⟩, false⟩ : Wr) (k : Int) (by omega) (by omega)
      rw [Int.toNat_natCast] at hK hc0
      have hc : ∀ j u, cs[j]? = some u → wr.cell? (ad.add (k * 3 + j)) = some u := hc0
      obtain rfl := k56_open hK
      have z0 : wr.cell? (ad.add (k * 3)) = some (.string (l.getD k (⟨⟨#[]⟩, ⟨#[]⟩, false⟩ : Wr)).f0) := hc 0 _ rfl
      have z1 : wr.cell? ⟨(ad.add (k * 3)).block, (ad.add (k * 3)).off + 1, none⟩ = some (.string (l.getD k (⟨⟨#[]⟩, ⟨#[]⟩, false⟩ : Wr)).f1) := by rw [← add_field _ _ 1 (by omega)]; exact hc 1 _ rfl
      have z2 : wr.cell? ⟨(ad.add (k * 3)).block, (ad.add (k * 3)).off + 2, none⟩ = some (.bool (l.getD k (⟨⟨#[]⟩, ⟨#[]⟩, false⟩ : Wr)).f2) := by rw [← add_field _ _ 2 (by omega)]; exact hc 2 _ rfl
      have hmem : l.getD k (⟨⟨#[]⟩, ⟨#[]⟩, false⟩ : Wr) ∈ l := by simp [List.getElem?_eq_getElem hlt]
      have hdrop : l.drop k = l.getD k (⟨⟨#[]⟩, ⟨#[]⟩, false⟩ : Wr) :: l.drop (k + 1) := by
        rw [List.drop_eq_getElem_cons hlt]; simp [List.getElem?_eq_getElem hlt]
      have HF2 := HF.out
      rw [hdrop] at HF2
      generalize l.getD k (⟨⟨#[]⟩, ⟨#[]⟩, false⟩ : Wr) = x at *
      obtain ⟨hf1, hf2, hf3⟩ := HF2
      obtain ⟨n1, n2⟩ := put1_ok hf2 hf3
      have hf4 : putV K (x :: l.drop (k + 1)) ts = putV (put1 ts K x) (l.drop (k + 1)) ts := rfl
      have HF3 : Aside0 (putV s.K l ts = putV (put1 ts K x) (l.drop (k + 1)) ts ∧ KOk (put1 ts K x) ∧ PutOk (put1 ts K x) (l.drop (k + 1)) ts) := ⟨hf1.trans hf4, n1, n2⟩
      have hver := hf3.ver x List.mem_cons_self
      have hlast := hf3.last x List.mem_cons_self
      have hroom := (cntK_le hf3.room).1
      have hks := HK.out x hmem
      obtain ⟨bk, bp, ve, fk, fp, hpt⟩ := HSH.out
      obtain ⟨wy, hwy⟩ : ∃ wy, wy = wr.alloc (.cells #[.string x.f0, .string x.f1, .bool x.f2] 56) := ⟨_, rfl⟩
      have hby : Below wr.heap.size wr wy := by rw [hwy]; exact below_alloc (Below.refl _ _) _
      have hyx : wy.heap[wr.heap.size]? = some (.cells #[.string x.f0, .string x.f1, .bool x.f2] 56 (0, 0)) := by rw [hwy]; exact blk_new _ _
      have HPY := Aside0.mk (hpt.below hby)
      have hkm := key_sk hks
      have HKM := Aside0.mk hkm
      obtain ⟨A2, ca, hv, hle, hC⟩ := HPY.out.chain (wkey x)
      have hco : ChainOk (look K (wkey x)) := hf2.look _
      have HADD : Aside0 (∀ W, Below wy.heap.size wy W → Calls Try.prog 84 #[.slice A2 (look K (wkey x)).length ca, .agg #[.int .i64 ts, .string x.f1, .bool x.f2]] W fun e w' => ∃ u, e = .returned (.tuple #[u, .int .i64 0]) ∧ Kd.R k29 29 w' W.heap.size (fun _ => True) u (look K (wkey x) ++ [⟨ts, x.f1, x.f2⟩]) ∧ Below W.heap.size W w') := ⟨fun W hW => add_walk W A2 ca (look K (wkey x)) ⟨ts, x.f1, x.f2⟩ (Kd.C_below hC hW) hle hco hver hroom hlast⟩
      have hlk : Sem.run Try.prog (Instr.lookup 74 (.map (some bk)) (.string x.f0) false) wy.drew = .ok (.slice A2 (look K (wkey x)).length ca) wy.drew := by
        have h1 := (MapL.get_ (MapL.below HPY.out.keys (below_drew1 (Below.refl _ _))) keyedS Try.underlying74 (zeroC wy.drew) hkm).1
        have e1 : fk (sk (kb x.f0)) = fk (sk (wkey x)) := rfl
        rw [e1, hv] at h1
        exact h1
      obtain ⟨c0, -, -, -⟩ := HPY.out.cells
      have y0 := blk_cell hyx 0
      have y1 := blk_cell hyx 1
      have y2 := blk_cell hyx 2
      have HYX := Aside0.mk hyx
      have HWY := Aside0.mk hwy
      have HBY := Aside0.mk hby
      have hnn : N + k < maxLen := by have := HNN.out; omega
      have HN2 := Aside0.mk hnn
      clear hnn hwy hby hyx hkm hks hpt hmem hdrop hf1 hf2 hf3 hf4 n1 n2 hver hlast hroom hv hle hC hco HF hK hc0 hc hlen hC' hle' HSH
      generalize hch0 : look K (wkey x) = ch at *
      have HQ := Aside0.mk hch0
      clear hch0
      go_wp2_with fail
      rw [← HWY.out]
      go_region_held3 (fun w' => w'.cell? ⟨b, 0, none⟩ = some (.map (some bk)) ∧ w'.cell? ⟨wr.heap.size, 0, none⟩ = some (.string x.f0) ∧ w'.cell? ⟨wr.heap.size, 1, none⟩ = some (.string x.f1) ∧ w'.cell? ⟨wr.heap.size, 2, none⟩ = some (.bool x.f2)) (first | exact ⟨c0, y0, y1, y2⟩ | exact ⟨d0, u0, u1, u2⟩ | exact ⟨e0, v0, v1, v2⟩)
        (first
          | (go_simp; go_at_call 84; refine (HADD.out _ (by repeat (first | exact Below.refl _ _ | apply below_drew1))).mono ?_; rintro e w5 ⟨u, rfl, hu, hb5⟩; have HU := Aside0.mk hu; have HB5 := Aside0.mk hb5; have HP5 := Aside0.mk ((HPY.out.below (below_drew1 (Below.refl _ _))).below hb5); obtain ⟨w6, hrun, hm6, hg6⟩ := MapL.put_ HP5.out.keys keyedS Try.underlying74 HN2.out HKM.out u; have HM6 := Aside0.mk hm6; have HG6 := Aside0.mk hg6; have hY5 := blk_below (blk_drew HYX.out) hb5; have hY6 := blk_map hY5 hg6 (fun _ _ => HP5.out.keys.not_cells); have hb6 := blk_map HP5.out.box hg6 (fun _ _ => HP5.out.keys.not_cells); obtain ⟨d0, -, -, -⟩ := HP5.out.cells; have u0 := blk_cell hY5 0; have u1 := blk_cell hY5 1; have u2 := blk_cell hY5 2; have e0 := blk_cell hb6 0; have v0 := blk_cell hY6 0; have v1 := blk_cell hY6 1; have v2 := blk_cell hY6 2; clear hu hm6 hg6 hY5 hY6 hb6 hb5))
      all_goals (try go_wp2_with fail)
      have B5 : Aside0 (Below wr.heap.size wr w5) := ⟨(below_drew1 HBY.out).trans (HB5.out.mono (below_drew1 HBY.out).size)⟩
      have OK5 : Aside0 (∀ g, wy.drew.heap.size ≤ g → ok g) := ⟨fun g hg => HOK.out g (Nat.le_trans HCH.out.size (Nat.le_trans (below_drew1 HBY.out).size hg))⟩
      have P6 := Aside0.mk (HP5.out.put1 HG6.out HM6.out (by have := HU.out; rw [← HQ.out] at this; exact R_new this OK5.out) HF3.out.2.1)
      have CH6 : Aside0 (Chg ok w w6) := ⟨(HCH.out.trans (Chg.of_below B5.out)).trans (Chg.of_grown HG6.out HP5.out.okk)⟩
      have ST6 : Aside0 (Still ok w w6) := ⟨(HST.out.trans (Still.of_below B5.out)).trans (Still.of_grown HG6.out (fun _ _ _ => HP5.out.keys.not_cells))⟩
      go_roundw
      case rel => exact ⟨k + 1, put1 ts K x, by omega, by go_num, HF3, ⟨⟨bk, bp, ve, _, fp, P6.out⟩⟩, CH6, ST6⟩
      case measure => simp [intOf]; omega
    · obtain rfl : k = l.length := by omega
      have HV3 : Aside0 (putV s.K l ts = K) := ⟨by rw [HF.out.1, List.drop_of_length_le (Nat.le_refl _)]; rfl⟩
      go_wp2
      go_end0
      exact ⟨rfl, by rw [HV3.out]; exact HSH.out, HCH.out, HST.out⟩
end Go.Proofs.Ytaldfbmjmpkmmaa.PL
namespace Go.Proofs.Ytaldfbmjmpkmmaa.PL
open Go.RowKit Go.Proofs.YtaldfbmjmpkmmaaW.PrintWords Go.Proofs.YtaldfbmjmpkmmaaW.PrintLast Go.Proofs.YtaldfbmjmpkmmaaW.PrintMore Go.Shelf Go.Maps Go.WideMaps Go.Proofs.Ytaldfbmjmpkmmaa.Mk
set_option linter.unusedVariables false
set_option linter.unusedSimpArgs false
set_option linter.unusedSectionVars false
theorem grown_set (w : World) (a : Addr) (u : Value) : w.grownBy (w.setCell a u) (some a.block) :=
  ⟨rfl, rfl, rfl, by simp [World.setCell], fun k hk h => Below.heap_setCell _ _ _ _ (fun e => h (by rw [e]))⟩
theorem R_own {α : Type} {d : Kd α} {e base : Nat} {ok : Nat → Prop} {w : World} {v : Value} {xs : List α} (h : d.R e w base ok v xs) {k : Nat} (hk : v.ownBlock = some k) : ok k ∧ k < w.heap.size ∧ ∃ cells, w.heap[k]? = some (.cells cells e (0, 0)) := by
  have h1 := (Kd.R_bound h).1 k hk
  obtain ⟨h0, inner, ho, hr⟩ := h
  refine ⟨h1.1, h1.2.2.1, ?_⟩
  obtain ⟨_, h3⟩ := ho
  rcases h3 with ⟨e1, _⟩ | ⟨g, cap, cur, e1, _, e2, _⟩
  · rw [e1] at hk
    cases hk
  · rw [e1] at hk
    have : g = k := by simpa [Value.ownBlock] using hk
    subst this
    exact ⟨_, e2⟩
section
variable {ok : Nat → Prop} {w w' w6 w1 : World} {b N : Nat} {s : Sh} {bk bp : Nat} {ve : Value} {fk fp : Lit → Option Value}
theorem Parts.del (h : Parts w ok b N s bk bp ve fk fp) (hg : w.grownBy w' (some bp)) (t : Int) (hm : MapL Try.prog 3 w' bp N (ldel fp (ik t))) : Parts w' ok b N { s with P := s.P.filter (fun r => !decide (r.f1 = t)) } bk bp ve fk (ldel fp (ik t)) :=
  have hb : ∀ cells q, w.heap[bp]? ≠ some (.cells cells q (0, 0)) := fun cells q => h.preps.not_cells
  ⟨blk_map h.box hg hb, h.keys.kept hg (fun e => h.ne (by injection e)), hm, R_map h.ends hg hb, fun q v hq => by
    obtain ⟨k, h1, h2, h3⟩ := h.kf q v hq
    exact ⟨k, h1, h2, R_map h3 hg hb⟩, h.kt, fun q v hq => by
    unfold ldel at hq
    split at hq
    · cases hq
    · rename_i hq2
      obtain ⟨r', h1, h2, cs', h3, h4⟩ := h.pf q v hq
      refine ⟨r', List.mem_filter.2 ⟨h1, ?_⟩, h2, cs', h3, M_map h4 hg hb⟩
      rw [h2, sameKey_ik] at hq2
      simpa using hq2, fun x hx => by
    obtain ⟨h1, h2⟩ := List.mem_filter.1 hx
    unfold ldel
    rw [sameKey_ik]
    have : ¬ x.f1 = t := by simpa using h2
    rw [if_neg (by simpa using this)]
    exact h.pt x h1, h.okb, h.okk, h.okp, h.ne, ⟨h.good.keys, h.good.rise.filter _, Nat.le_trans (List.length_filter_le _ _) h.good.few, fun r hr => h.good.recs r (List.mem_filter.1 hr).1, h.good.ends, h.good.over⟩⟩
/-- The ended ones anew: written behind the old ones, or in a new place; then the box's cell. -/
theorem Parts.ended (h : Parts w ok b N s bk bp ve fk fp) (hg : w.grownBy w6 ve.ownBlock) {v1 : Value} {E : List (Int × Int)} (hE : kEnd.R 96 w6 0 ok v1 E) (hl : E.length ≤ 1025) : Parts (w6.setCell ⟨b, 2, none⟩ v1) ok b N { s with E := E } bk bp v1 fk fp := by
  have hown : ∀ k, ve.ownBlock = some k → ∃ cells, w.heap[k]? = some (.cells cells 96 (0, 0)) := fun k hk => (R_own h.ends hk).2.2
  have hne : ∀ (g : Nat) (cells : Array Value) (q : TypeId), q ≠ 96 → w.heap[g]? = some (.cells cells q (0, 0)) → some g ≠ ve.ownBlock := fun g cells q hq hc e => by
    obtain ⟨c2, h2⟩ := hown g e.symm
    rw [hc] at h2
    injection h2 with h2
    injection h2 with _ h2
    exact hq h2
  have hmap : ∀ g : Nat, (∀ (cells : Array Value) (q : TypeId), w.heap[g]? ≠ some (.cells cells q (0, 0))) → some g ≠ ve.ownBlock := fun g hn e => by
    obtain ⟨c2, h2⟩ := hown g e.symm
    exact hn _ _ h2
  have hbox6 : w6.heap[b]? = some (.cells #[.map (some bk), .map (some bp), ve, .int .i64 s.over] 78 (0, 0)) := (hg.block b (blk_lt h.box) (hne b _ _ (by decide) h.box)).trans h.box
  have hg7 := grown_set w6 ⟨b, 2, none⟩ v1
  have hk6 := h.keys.kept hg (hmap bk (fun _ _ => h.keys.not_cells))
  have hp6 := h.preps.kept hg (hmap bp (fun _ _ => h.preps.not_cells))
  have hstep : ∀ (g : Nat) (q : TypeId), q ≠ 96 → q ≠ 78 → ∀ cells : Array Value, w.heap[g]? = some (.cells cells q (0, 0)) → (w6.setCell ⟨b, 2, none⟩ v1).heap[g]? = w.heap[g]? := fun g q h1 h2 cells hc =>
    (Below.heap_setCell w6 ⟨b, 2, none⟩ v1 g (fun e => h2 (by
      have e : g = b := e
      subst e
      rw [h.box] at hc
      injection hc with hc
      injection hc with _ hc
      exact hc.symm))).trans (hg.block g (blk_lt hc) (hne g cells q h1 hc))
  exact ⟨blk_put hbox6 2 v1 rfl, hk6.kept hg7 (fun e => absurd hbox6 (by (have e2 : bk = b := by injection e); rw [← e2]; exact hk6.not_cells)), hp6.kept hg7 (fun e => absurd hbox6 (by (have e2 : bp = b := by injection e); rw [← e2]; exact hp6.not_cells)),
    R_keep hE (fun g _ q hq cells hc => Below.heap_setCell w6 ⟨b, 2, none⟩ v1 g (fun e => by
      have e : g = b := e
      subst e
      rw [hbox6] at hc
      injection hc with hc
      injection hc with _ hc
      have : q = 96 := (by decide : ∀ q, q ∈ 96 :: kEnd.E → q = 96) q hq
      rw [this] at hc
      cases hc)),
    fun q v hq => by
      obtain ⟨k, h1, h2, h3⟩ := h.kf q v hq
      exact ⟨k, h1, h2, R_keep h3 (fun g _ q hq cells hc => hstep g q ((by decide : ∀ q, q ∈ 29 :: k29.E → q ≠ 96) q hq) ((by decide : ∀ q, q ∈ 29 :: k29.E → q ≠ 78) q hq) cells hc)⟩, h.kt,
    fun q v hq => by
      obtain ⟨r, h1, h2, cs, h3, h4⟩ := h.pf q v hq
      exact ⟨r, h1, h2, cs, h3, M_keep h4 (fun g _ q hq cells hc => hstep g q ((by decide : ∀ q, q ∈ k35.E → q ≠ 96) q hq) ((by decide : ∀ q, q ∈ k35.E → q ≠ 78) q hq) cells hc)⟩, h.pt, h.okb, h.okk, h.okp, h.ne, ⟨h.good.keys, h.good.rise, h.good.few, h.good.recs, hl, h.good.over⟩⟩
theorem Parts.prep_rec (h : Parts w ok b N s bk bp ve fk fp) (r : Rec) (hr : r ∈ s.P) : ∃ v7 v8, fp (ik r.f1) = some (.agg #[.int .i64 r.f0, .int .i64 r.f1, .int .i64 r.f2, .int .i64 r.f3, .string r.f4, .string r.f5, .bool r.f6, v7, v8]) ∧ Kd.string.R 9 w 0 ok v7 r.f7 ∧ Kd.R k56 56 w 0 ok v8 r.f8 := by
  obtain ⟨v, hv⟩ := Option.isSome_iff_exists.1 (h.pt r hr)
  obtain ⟨r', h1, h2, cs, rfl, hM⟩ := h.pf _ v hv
  have h2' : r.f1 = r'.f1 := by unfold ik at h2; injection h2
  obtain rfl := prep_one h.good.rise hr h1 h2'
  obtain ⟨v7, v8, rfl, h7, h8⟩ := k35_openM hM
  exact ⟨v7, v8, hv, h7, h8⟩
theorem Parts.box6 (h : Parts w ok b N s bk bp ve fk fp) (hg : w.grownBy w6 ve.ownBlock) : w6.heap[b]? = some (.cells #[.map (some bk), .map (some bp), ve, .int .i64 s.over] 78 (0, 0)) :=
  (hg.block b (blk_lt h.box) (fun e => by
    obtain ⟨_, _, c2, h2⟩ := R_own h.ends e.symm
    rw [h.box] at h2
    injection h2 with h2
    injection h2 with _ h2
    cases h2)).trans h.box
theorem endV_few {s : Sh} {t ts : Int} (h : ¬ 1023 < s.E.length) : endV s t ts = { s with P := s.P.filter (fun r => !decide (r.f1 = t)), E := s.E ++ [(t, ts)] } := by
  unfold endV endE
  rw [if_neg (by rw [List.length_append, List.length_singleton]; omega)]
theorem endV_full {s : Sh} {t ts : Int} (h : 1023 < s.E.length) : endV s t ts = { s with P := s.P.filter (fun r => !decide (r.f1 = t)), E := (s.E ++ [(t, ts)]).drop 1 } := by
  unfold endV endE
  rw [if_pos (by rw [List.length_append, List.length_singleton]; omega)]
theorem ends_drop {w : World} {base : Nat} {A : Option Addr} {c : Nat} {E : List (Int × Int)} {x : Int × Int} (h : kEnd.R 96 w base ok (.slice A (E.length + 1) c) (E ++ [x])) (hE : E.length ≤ 1024) : ∃ A2, (∀ W, (Instr.slice 76 (.slice A (E.length + 1) c) (some (.int .i64 1)) none none).run Try.prog W = .ok (.slice A2 E.length (c - 1)) W) ∧
    Calls Try.prog 46 #[.slice A2 E.length (c - 1)] w fun e w' => ∃ v, e = .returned v ∧ Kd.R kEnd 96 w' w.heap.size (fun _ => True) v ((E ++ [x]).drop 1) ∧ Below w.heap.size w w' := by
  obtain ⟨A10, c10, he10, hle10, hC10⟩ := Kd.R_reads h
  injection he10 with e1 e2 e3
  subst e1 e3
  have hl : (E ++ [x]).length = E.length + 1 := by simp
  have hC11 := Kd.C_drop (m := 1) hC10 (by omega) hle10
  have hcl := clone_end w _ (c - 1) ((E ++ [x]).drop 1) hC11 (by rw [List.length_drop]; omega)
  rw [List.length_drop, hl] at hcl
  obtain ⟨i0, hi0, _, hsz, _⟩ := info_parts infoE
  have hcut := cut_from (P := Try.prog) 76 96 .i64 Try.underlying76 hi0 2 hsz A (E.length + 1) c (1 : Int) (by omega) (by omega)
  exact ⟨_, hcut, hcl⟩
theorem Chg.ended (h : Parts w ok b N s bk bp ve fk fp) (hg : w.grownBy w6 ve.ownBlock) (v1 : Value) : Chg ok w (w6.setCell ⟨b, 2, none⟩ v1) :=
  Chg.trans ⟨hg.os, hg.tape, hg.output, hg.size, fun g hg' hn => hg.block g hg' (fun e => hn (R_own h.ends e.symm).1)⟩ (Chg.of_grown (grown_set w6 ⟨b, 2, none⟩ v1) h.okb)
end

set_option maxRecDepth 100000 in
set_option maxHeartbeats 8000000 in
theorem do_walk {w : World} {ok : Nat → Prop} {b N : Nat} {s : Sh} (h : ShAt w ok b N s) (hE : s.E.length ≤ 1024) (hok : ∀ g, w.heap.size ≤ g → ok g) (hN : N + 1024 < maxLen) (t ts : Int) (ht : 0 ≤ t ∧ t ≤ 1125899906842623) (hts : 0 ≤ ts ∧ ts ≤ 1125899906842624) :
    Calls Try.prog 37 #[.pointer (some ⟨b, 0, none⟩), .int .i64 t, .int .i64 ts] w fun e w' => e = .returned (.int .i64 (doV s t ts).1) ∧ ShAt w' ok b (N + 16) (doV s t ts).2 ∧ Chg ok w w' := by
  have HST := Aside0.mk (state_walk h t (by omega))
  have HS := Aside0.mk h
  have HEN := Aside0.mk hE
  have HOK := Aside0.mk hok
  have HNN := Aside0.mk hN
  have HT := Aside0.mk (And.intro ht hts)
  have HDV : Aside0 (doV s t ts = if 1 < (stateV s t).1 ∧ (stateV s t).2 = ts then (6, s)
    else if 1 < (stateV s t).1 then (120, s)
    else if (stateV s t).1 = 1 ∧ 0 < ts then
      (if roomV s (writesOf s t) ts = 0 then (0, endV { s with K := putV s.K (writesOf s t) ts } t ts) else (roomV s (writesOf s t) ts, s))
    else (0, endV s t ts)) := ⟨rfl⟩
  have HSC := Aside0.mk (state_cases s t)
  have HWO := Aside0.mk (fun hz => writesOf_some (s := s) (t := t) hz)
  have HDP := Aside0.mk (fun (q : ShOk s) (p : 0 < ts ∧ ts ≤ 1125899906842624) h1 h0 => do_put (s := s) (t := t) (ts := ts) q p h1 h0)
  clear h hok hN ht hE
  go_enter Try.func37, Try.ntmps37
  go_wp2_with fail
  refine HST.out.mono ?_
  rintro e w1 ⟨rfl, hb1⟩
  have HB1 := Aside0.mk hb1
  have HS1 := Aside0.mk (HS.out.below hb1)
  clear hb1 HST HS
  generalize (stateV s t).1 = st at *
  generalize (stateV s t).2 = was at *
  by_cases hst : 1 < st
  · have g1 : decide (st > 1) = true := decide_eq_true hst
    by_cases hw : was = ts
    · have HDV2 : Aside0 (doV s t ts = (6, s)) := ⟨by rw [HDV.out, if_pos ⟨hst, hw⟩]⟩
      have g2 : (was == ts) = true := by simpa using hw
      clear HDV HSC HWO HDP hw hst
      go_wp2_with fail
      go_ret
      exact ⟨by rw [HDV2.out]; rfl, by rw [HDV2.out]; exact HS1.out.mono (Nat.le_add_right _ _), Chg.of_below HB1.out⟩
    · have HDV2 : Aside0 (doV s t ts = (120, s)) := ⟨by rw [HDV.out, if_neg (fun h => hw h.2), if_pos hst]⟩
      have g2 : (was == ts) = false := by simpa using hw
      clear HDV HSC HWO HDP hw hst
      go_wp2_with fail
      go_ret
      exact ⟨by rw [HDV2.out]; rfl, by rw [HDV2.out]; exact HS1.out.mono (Nat.le_add_right _ _), Chg.of_below HB1.out⟩
  · have g1 : decide (st > 1) = false := decide_eq_false hst
    have HD2 : Aside0 (doV s t ts = if st = 1 ∧ 0 < ts then (if roomV s (writesOf s t) ts = 0 then (0, endV { s with K := putV s.K (writesOf s t) ts } t ts) else (roomV s (writesOf s t) ts, s)) else (0, endV s t ts)) := ⟨by rw [HDV.out, if_neg (fun h => hst h.1), if_neg hst]⟩
    clear HDV hst
    by_cases hs1 : st = 1 ∧ 0 < ts
    · obtain ⟨rfl, hts0⟩ := hs1
      obtain ⟨r, hr, hrt, hwo⟩ := HWO.out rfl
      have g4 : decide (ts > 0) = true := decide_eq_true hts0
      obtain ⟨bk, bp, ve, fk, fp, hp⟩ := HS1.out
      obtain ⟨v7, v8, hfv, hR7, hR8⟩ := hp.prep_rec r hr
      obtain ⟨A7, c7, rfl, hle7, hC7⟩ := Kd.R_reads hR7
      obtain ⟨A8, c8, rfl, hle8, hC8⟩ := Kd.R_reads hR8
      rw [hrt] at hfv
      have HV : Aside0 ((fp (ik t)).getD (.agg #[.int .i64 0, .int .i64 0, .int .i64 0, .int .i64 0, .string ⟨#[]⟩, .string ⟨#[]⟩, .bool false, .slice none 0 0, .slice none 0 0]) = .agg #[.int .i64 r.f0, .int .i64 t, .int .i64 r.f2, .int .i64 r.f3, .string r.f4, .string r.f5, .bool r.f6, .slice A7 r.f7.length c7, .slice A8 r.f8.length c8]) := ⟨by rw [hfv]; rfl⟩
      have hfd : ∀ W, (Instr.field 35 (.agg #[.int .i64 r.f0, .int .i64 t, .int .i64 r.f2, .int .i64 r.f3, .string r.f4, .string r.f5, .bool r.f6, .slice A7 r.f7.length c7, .slice A8 r.f8.length c8]) 8).run Try.prog W = .ok (.slice A8 r.f8.length c8) W := fun W => by kernel_rfl
      have hls := (prep_lists (hp.good.recs r hr).1 (hp.good.recs r hr).2).1
      have HKS : Aside0 (∀ x ∈ r.f8, x.f0.size ≤ maxLen) := ⟨fun x hx => Nat.le_trans (key_size (hls.key8 x hx)) (by decide)⟩
      have hf16 := hls.few8
      rw [hwo] at HD2 HDP
      have HRM := Aside0.mk (room_walk HS1.out A8 c8 r.f8 hC8 (by omega) HKS.out ts)
      have HPO : Aside0 (roomV s r.f8 ts = 0 → PutOk s.K r.f8 ts) := ⟨fun h => HDP.out hp.good ⟨hts0, HT.out.2.2⟩ rfl h⟩
      have HR8 := Aside0.mk hR8
      have HD3 : Aside0 (doV s t ts = if roomV s r.f8 ts = 0 then (0, endV { s with K := putV s.K r.f8 ts } t ts) else (roomV s r.f8 ts, s)) := ⟨by rw [HD2.out, if_pos ⟨rfl, hts0⟩]⟩
      have HP1 := Aside0.mk hp
      obtain ⟨c0, c1, c2, c3⟩ := hp.cells
      clear hp hR7 hle7 hC7 hR8 hle8 hC8 hfv hls hwo hrt hr HD2 HDP HWO HSC
      generalize roomV s r.f8 ts = rv at *
      go_wp2_with (at_lookup; refine MapL.at_ HP1.out.preps keyedI rfl _ _ 75 35 rfl Try.underlying75 (zeroR _) rfl rfl (key_ik (t := t) (by have := HT.out; omega)) ?_; rw [HV.out])
      refine HRM.out.mono ?_
      rintro e w2 ⟨rfl, hb2⟩
      have HB2 : Aside0 (Below w.heap.size w w2) := ⟨HB1.out.trans (hb2.mono HB1.out.size)⟩
      have HS2 := Aside0.mk (HS1.out.below hb2)
      have HR9 := Aside0.mk (Kd.R_below HR8.out hb2)
      clear hb2 c0 c1 c2 c3 HP1 HV hfd HRM HS1 HR8
      by_cases hm : rv = 0
      · subst hm
        rw [if_pos rfl] at HD3
        have OK2 : Aside0 (∀ g, w2.heap.size ≤ g → ok g) := ⟨fun g hg => HOK.out g (Nat.le_trans HB2.out.size hg)⟩
        have HPU := Aside0.mk (put_walk HS2.out OK2.out A8 c8 r.f8 HR9.out (by omega) HKS.out ts (HPO.out rfl) (by have := HNN.out; omega))
        go_wp2_with fail
        refine HPU.out.mono ?_
        rintro e w3 ⟨rfl, hs3, hch3, -⟩
        have CH3 : Aside0 (Chg ok w w3) := ⟨(Chg.of_below HB2.out).trans hch3⟩
        obtain ⟨bk, bp, ve, fk, fp, hp⟩ := hs3
        have HP3 := Aside0.mk (hp.mono (show N + r.f8.length ≤ N + 16 by omega))
        have OK3 : Aside0 (∀ g, w3.heap.size ≤ g → ok g) := ⟨fun g hg => HOK.out g (Nat.le_trans CH3.out.size hg)⟩
        clear hp hch3 HPU HS2 HPO HR9 hf16
        by_cases hf : 1023 < s.E.length
        · have g5 : decide (((s.E.length : Nat) : Int) + 1 > 1024) = true := decide_eq_true (by omega)
          obtain ⟨c0, c1, c2, c3⟩ := HP3.out.cells
          go_wp2_with (first
            | (at_delete; refine MapL.drop HP3.out.preps keyedI rfl _ _ 75 35 rfl Try.underlying75 rfl rfl (key_ik (t := t) (by have := HT.out; omega)) ?_; intro w7 hm7 hg7; have HG7 := Aside0.mk hg7; have HP7 := Aside0.mk (HP3.out.del hg7 t hm7); clear c0 c1 c2 c3 hm7 hg7; obtain ⟨c0, c1, c2, c3⟩ := HP7.out.cells)
            | (at_builtin; refine Kd.R_append kEnd (w0 := w7) 0 rfl (.tmp 62) (.tmp 66) 76 96 (.agg #[.int .i64 0, .int .i64 0]) 16 rfl Try.underlying76 infoE rfl (by decide) (by omega) _ s.E (t, ts) [.int .i64 t, .int .i64 ts] ok (fun _ => False) rfl rfl (kEnd_mkM _ _ _ _) (fun _ hk => hk.elim) (fun j hj => OK3.out j (Nat.le_trans HG7.out.size hj)) HP7.out.ends (Below.refl _ _) (Nat.zero_le _) (by have := HEN.out; omega) ?_; intro v1 w8 ho hb hg hat; obtain ⟨A9, c9, hs9⟩ := Kd.R_slice ho; subst hs9; rw [List.length_append, List.length_singleton] at *; have HE8 := Aside0.mk ho; have HG8 := Aside0.mk hg; have hbx8 := HP7.out.box6 hg; clear ho hb hg hat c0 c1 c2 c3; have c2 := blk_cell hbx8 2; have f2 := blk_frozen hbx8 2; clear hbx8; have P9 := Aside0.mk (HP7.out.ended HG8.out HE8.out (by rw [List.length_append, List.length_singleton]; have := HEN.out; omega)); obtain ⟨A2, hc, hcl⟩ := ends_drop P9.out.ends HEN.out; have HCL := Aside0.mk hcl; clear hcl))
          refine HCL.out.mono ?_
          rintro e w10 ⟨v2, rfl, hv2, hb10⟩
          obtain ⟨A12, c12, hs12⟩ := Kd.R_slice hv2
          subst hs12
          have hln : ((s.E ++ [(t, ts)]).drop 1).length = s.E.length := by rw [List.length_drop, List.length_append, List.length_singleton]; omega
          rw [hln] at hv2 ⊢
          clear hln
          have HV10 := Aside0.mk hv2
          have HB10 := Aside0.mk hb10
          have hbx10 := blk_below P9.out.box hb10
          clear hv2 hb10 c2 f2 HCL hc
          have c2 := blk_cell hbx10 2
          have f2 := blk_frozen hbx10 2
          clear hbx10
          go_wp2_with fail
          go_ret
          have P11 := (P9.out.ended (grownBy_of_below HB10.out _) (R_new HV10.out (fun g hg => OK3.out g (Nat.le_trans (Nat.le_trans HG7.out.size (Chg.ended HP7.out HG8.out _).size) hg))) (by rw [List.length_drop, List.length_append, List.length_singleton]; have := HEN.out; omega))
          exact ⟨by rw [HD3.out]; rfl, by rw [HD3.out, endV_full (s := { s with K := putV s.K r.f8 ts }) hf]; exact ⟨bk, bp, _, fk, _, P11⟩, (((CH3.out.trans (Chg.of_grown HG7.out HP7.out.okp)).trans (Chg.ended HP7.out HG8.out _))).trans (Chg.ended P9.out (grownBy_of_below HB10.out _) _)⟩
        · have g5 : decide (((s.E.length : Nat) : Int) + 1 > 1024) = false := decide_eq_false (by omega)
          obtain ⟨c0, c1, c2, c3⟩ := HP3.out.cells
          go_wp2_with (first
            | (at_delete; refine MapL.drop HP3.out.preps keyedI rfl _ _ 75 35 rfl Try.underlying75 rfl rfl (key_ik (t := t) (by have := HT.out; omega)) ?_; intro w7 hm7 hg7; have HG7 := Aside0.mk hg7; have HP7 := Aside0.mk (HP3.out.del hg7 t hm7); clear c0 c1 c2 c3 hm7 hg7; obtain ⟨c0, c1, c2, c3⟩ := HP7.out.cells)
            | (at_builtin; refine Kd.R_append kEnd (w0 := w7) 0 rfl (.tmp 62) (.tmp 66) 76 96 (.agg #[.int .i64 0, .int .i64 0]) 16 rfl Try.underlying76 infoE rfl (by decide) (by omega) _ s.E (t, ts) [.int .i64 t, .int .i64 ts] ok (fun _ => False) rfl rfl (kEnd_mkM _ _ _ _) (fun _ hk => hk.elim) (fun j hj => OK3.out j (Nat.le_trans HG7.out.size hj)) HP7.out.ends (Below.refl _ _) (Nat.zero_le _) (by have := HEN.out; omega) ?_; intro v1 w8 ho hb hg hat; obtain ⟨A9, c9, hs9⟩ := Kd.R_slice ho; subst hs9; rw [List.length_append, List.length_singleton] at *; have HE8 := Aside0.mk ho; have HG8 := Aside0.mk hg; have hbx8 := HP7.out.box6 hg; clear ho hb hg hat c0 c1 c2 c3; have c2 := blk_cell hbx8 2; have f2 := blk_frozen hbx8 2; clear hbx8))
          go_ret
          have P9 := HP7.out.ended HG8.out HE8.out (by rw [List.length_append, List.length_singleton]; have := HEN.out; omega)
          exact ⟨by rw [HD3.out]; rfl, by rw [HD3.out, endV_few (s := { s with K := putV s.K r.f8 ts }) hf]; exact ⟨bk, bp, _, fk, _, P9⟩, (CH3.out.trans (Chg.of_grown HG7.out HP7.out.okp)).trans (Chg.ended HP7.out HG8.out _)⟩
      · have HD4 : Aside0 (doV s t ts = (rv, s)) := ⟨by rw [HD3.out, if_neg hm]⟩
        have g5 : (rv != 0) = true := by simpa using hm
        clear hm HD3 HPO
        go_wp2_with fail
        go_ret
        exact ⟨by rw [HD4.out]; rfl, by rw [HD4.out]; exact HS2.out.mono (Nat.le_add_right _ _), Chg.of_below HB2.out⟩
    · have HDV2 : Aside0 (doV s t ts = (0, endV s t ts)) := ⟨by rw [HD2.out, if_neg hs1]⟩
      have CH1 : Aside0 (Chg ok w w1) := ⟨Chg.of_below HB1.out⟩
      obtain ⟨bk, bp, ve, fk, fp, hp⟩ := HS1.out
      have HP1 := Aside0.mk (hp.mono (Nat.le_add_right N 16))
      clear hp HS1
      have OK1 : Aside0 (∀ g, w1.heap.size ≤ g → ok g) := ⟨fun g hg => HOK.out g (Nat.le_trans CH1.out.size hg)⟩
      by_cases hs2 : st = 1
      · have g3 : (st == 1) = true := by simpa using hs2
        have g4 : decide (ts > 0) = false := decide_eq_false (fun h => hs1 ⟨hs2, h⟩)
        clear hs1 hs2 HD2 HSC HWO HDP
        by_cases hf : 1023 < s.E.length
        · have g5 : decide (((s.E.length : Nat) : Int) + 1 > 1024) = true := decide_eq_true (by omega)
          obtain ⟨c0, c1, c2, c3⟩ := HP1.out.cells
          go_wp2_with (first
            | (at_delete; refine MapL.drop HP1.out.preps keyedI rfl _ _ 75 35 rfl Try.underlying75 rfl rfl (key_ik (t := t) (by have := HT.out; omega)) ?_; intro w7 hm7 hg7; have HG7 := Aside0.mk hg7; have HP7 := Aside0.mk (HP1.out.del hg7 t hm7); clear c0 c1 c2 c3 hm7 hg7; obtain ⟨c0, c1, c2, c3⟩ := HP7.out.cells)
            | (at_builtin; refine Kd.R_append kEnd (w0 := w7) 0 rfl (.tmp 62) (.tmp 66) 76 96 (.agg #[.int .i64 0, .int .i64 0]) 16 rfl Try.underlying76 infoE rfl (by decide) (by omega) _ s.E (t, ts) [.int .i64 t, .int .i64 ts] ok (fun _ => False) rfl rfl (kEnd_mkM _ _ _ _) (fun _ hk => hk.elim) (fun j hj => OK1.out j (Nat.le_trans HG7.out.size hj)) HP7.out.ends (Below.refl _ _) (Nat.zero_le _) (by have := HEN.out; omega) ?_; intro v1 w8 ho hb hg hat; obtain ⟨A9, c9, hs9⟩ := Kd.R_slice ho; subst hs9; rw [List.length_append, List.length_singleton] at *; have HE8 := Aside0.mk ho; have HG8 := Aside0.mk hg; have hbx8 := HP7.out.box6 hg; clear ho hb hg hat c0 c1 c2 c3; have c2 := blk_cell hbx8 2; have f2 := blk_frozen hbx8 2; clear hbx8; have P9 := Aside0.mk (HP7.out.ended HG8.out HE8.out (by rw [List.length_append, List.length_singleton]; have := HEN.out; omega)); obtain ⟨A2, hc, hcl⟩ := ends_drop P9.out.ends HEN.out; have HCL := Aside0.mk hcl; clear hcl))
          refine HCL.out.mono ?_
          rintro e w10 ⟨v2, rfl, hv2, hb10⟩
          obtain ⟨A12, c12, hs12⟩ := Kd.R_slice hv2
          subst hs12
          have hln : ((s.E ++ [(t, ts)]).drop 1).length = s.E.length := by rw [List.length_drop, List.length_append, List.length_singleton]; omega
          rw [hln] at hv2 ⊢
          clear hln
          have HV10 := Aside0.mk hv2
          have HB10 := Aside0.mk hb10
          have hbx10 := blk_below P9.out.box hb10
          clear hv2 hb10 c2 f2 HCL hc
          have c2 := blk_cell hbx10 2
          have f2 := blk_frozen hbx10 2
          clear hbx10
          go_wp2_with fail
          go_ret
          have P11 := (P9.out.ended (grownBy_of_below HB10.out _) (R_new HV10.out (fun g hg => OK1.out g (Nat.le_trans (Nat.le_trans HG7.out.size (Chg.ended HP7.out HG8.out _).size) hg))) (by rw [List.length_drop, List.length_append, List.length_singleton]; have := HEN.out; omega))
          exact ⟨by rw [HDV2.out]; rfl, by rw [HDV2.out, endV_full (s := s) hf]; exact ⟨bk, bp, _, fk, _, P11⟩, (((CH1.out.trans (Chg.of_grown HG7.out HP7.out.okp)).trans (Chg.ended HP7.out HG8.out _))).trans (Chg.ended P9.out (grownBy_of_below HB10.out _) _)⟩
        · have g5 : decide (((s.E.length : Nat) : Int) + 1 > 1024) = false := decide_eq_false (by omega)
          obtain ⟨c0, c1, c2, c3⟩ := HP1.out.cells
          go_wp2_with (first
            | (at_delete; refine MapL.drop HP1.out.preps keyedI rfl _ _ 75 35 rfl Try.underlying75 rfl rfl (key_ik (t := t) (by have := HT.out; omega)) ?_; intro w7 hm7 hg7; have HG7 := Aside0.mk hg7; have HP7 := Aside0.mk (HP1.out.del hg7 t hm7); clear c0 c1 c2 c3 hm7 hg7; obtain ⟨c0, c1, c2, c3⟩ := HP7.out.cells)
            | (at_builtin; refine Kd.R_append kEnd (w0 := w7) 0 rfl (.tmp 62) (.tmp 66) 76 96 (.agg #[.int .i64 0, .int .i64 0]) 16 rfl Try.underlying76 infoE rfl (by decide) (by omega) _ s.E (t, ts) [.int .i64 t, .int .i64 ts] ok (fun _ => False) rfl rfl (kEnd_mkM _ _ _ _) (fun _ hk => hk.elim) (fun j hj => OK1.out j (Nat.le_trans HG7.out.size hj)) HP7.out.ends (Below.refl _ _) (Nat.zero_le _) (by have := HEN.out; omega) ?_; intro v1 w8 ho hb hg hat; obtain ⟨A9, c9, hs9⟩ := Kd.R_slice ho; subst hs9; rw [List.length_append, List.length_singleton] at *; have HE8 := Aside0.mk ho; have HG8 := Aside0.mk hg; have hbx8 := HP7.out.box6 hg; clear ho hb hg hat c0 c1 c2 c3; have c2 := blk_cell hbx8 2; have f2 := blk_frozen hbx8 2; clear hbx8))
          go_ret
          have P9 := HP7.out.ended HG8.out HE8.out (by rw [List.length_append, List.length_singleton]; have := HEN.out; omega)
          exact ⟨by rw [HDV2.out]; rfl, by rw [HDV2.out, endV_few (s := s) hf]; exact ⟨bk, bp, _, fk, _, P9⟩, (CH1.out.trans (Chg.of_grown HG7.out HP7.out.okp)).trans (Chg.ended HP7.out HG8.out _)⟩
      · have g3 : (st == 1) = false := by simpa using hs2
        clear hs1 hs2 HD2 HSC HWO HDP
        by_cases hf : 1023 < s.E.length
        · have g5 : decide (((s.E.length : Nat) : Int) + 1 > 1024) = true := decide_eq_true (by omega)
          obtain ⟨c0, c1, c2, c3⟩ := HP1.out.cells
          go_wp2_with (first
            | (at_delete; refine MapL.drop HP1.out.preps keyedI rfl _ _ 75 35 rfl Try.underlying75 rfl rfl (key_ik (t := t) (by have := HT.out; omega)) ?_; intro w7 hm7 hg7; have HG7 := Aside0.mk hg7; have HP7 := Aside0.mk (HP1.out.del hg7 t hm7); clear c0 c1 c2 c3 hm7 hg7; obtain ⟨c0, c1, c2, c3⟩ := HP7.out.cells)
            | (at_builtin; refine Kd.R_append kEnd (w0 := w7) 0 rfl (.tmp 62) (.tmp 66) 76 96 (.agg #[.int .i64 0, .int .i64 0]) 16 rfl Try.underlying76 infoE rfl (by decide) (by omega) _ s.E (t, ts) [.int .i64 t, .int .i64 ts] ok (fun _ => False) rfl rfl (kEnd_mkM _ _ _ _) (fun _ hk => hk.elim) (fun j hj => OK1.out j (Nat.le_trans HG7.out.size hj)) HP7.out.ends (Below.refl _ _) (Nat.zero_le _) (by have := HEN.out; omega) ?_; intro v1 w8 ho hb hg hat; obtain ⟨A9, c9, hs9⟩ := Kd.R_slice ho; subst hs9; rw [List.length_append, List.length_singleton] at *; have HE8 := Aside0.mk ho; have HG8 := Aside0.mk hg; have hbx8 := HP7.out.box6 hg; clear ho hb hg hat c0 c1 c2 c3; have c2 := blk_cell hbx8 2; have f2 := blk_frozen hbx8 2; clear hbx8; have P9 := Aside0.mk (HP7.out.ended HG8.out HE8.out (by rw [List.length_append, List.length_singleton]; have := HEN.out; omega)); obtain ⟨A2, hc, hcl⟩ := ends_drop P9.out.ends HEN.out; have HCL := Aside0.mk hcl; clear hcl))
          refine HCL.out.mono ?_
          rintro e w10 ⟨v2, rfl, hv2, hb10⟩
          obtain ⟨A12, c12, hs12⟩ := Kd.R_slice hv2
          subst hs12
          have hln : ((s.E ++ [(t, ts)]).drop 1).length = s.E.length := by rw [List.length_drop, List.length_append, List.length_singleton]; omega
          rw [hln] at hv2 ⊢
          clear hln
          have HV10 := Aside0.mk hv2
          have HB10 := Aside0.mk hb10
          have hbx10 := blk_below P9.out.box hb10
          clear hv2 hb10 c2 f2 HCL hc
          have c2 := blk_cell hbx10 2
          have f2 := blk_frozen hbx10 2
          clear hbx10
          go_wp2_with fail
          go_ret
          have P11 := (P9.out.ended (grownBy_of_below HB10.out _) (R_new HV10.out (fun g hg => OK1.out g (Nat.le_trans (Nat.le_trans HG7.out.size (Chg.ended HP7.out HG8.out _).size) hg))) (by rw [List.length_drop, List.length_append, List.length_singleton]; have := HEN.out; omega))
          exact ⟨by rw [HDV2.out]; rfl, by rw [HDV2.out, endV_full (s := s) hf]; exact ⟨bk, bp, _, fk, _, P11⟩, (((CH1.out.trans (Chg.of_grown HG7.out HP7.out.okp)).trans (Chg.ended HP7.out HG8.out _))).trans (Chg.ended P9.out (grownBy_of_below HB10.out _) _)⟩
        · have g5 : decide (((s.E.length : Nat) : Int) + 1 > 1024) = false := decide_eq_false (by omega)
          obtain ⟨c0, c1, c2, c3⟩ := HP1.out.cells
          go_wp2_with (first
            | (at_delete; refine MapL.drop HP1.out.preps keyedI rfl _ _ 75 35 rfl Try.underlying75 rfl rfl (key_ik (t := t) (by have := HT.out; omega)) ?_; intro w7 hm7 hg7; have HG7 := Aside0.mk hg7; have HP7 := Aside0.mk (HP1.out.del hg7 t hm7); clear c0 c1 c2 c3 hm7 hg7; obtain ⟨c0, c1, c2, c3⟩ := HP7.out.cells)
            | (at_builtin; refine Kd.R_append kEnd (w0 := w7) 0 rfl (.tmp 62) (.tmp 66) 76 96 (.agg #[.int .i64 0, .int .i64 0]) 16 rfl Try.underlying76 infoE rfl (by decide) (by omega) _ s.E (t, ts) [.int .i64 t, .int .i64 ts] ok (fun _ => False) rfl rfl (kEnd_mkM _ _ _ _) (fun _ hk => hk.elim) (fun j hj => OK1.out j (Nat.le_trans HG7.out.size hj)) HP7.out.ends (Below.refl _ _) (Nat.zero_le _) (by have := HEN.out; omega) ?_; intro v1 w8 ho hb hg hat; obtain ⟨A9, c9, hs9⟩ := Kd.R_slice ho; subst hs9; rw [List.length_append, List.length_singleton] at *; have HE8 := Aside0.mk ho; have HG8 := Aside0.mk hg; have hbx8 := HP7.out.box6 hg; clear ho hb hg hat c0 c1 c2 c3; have c2 := blk_cell hbx8 2; have f2 := blk_frozen hbx8 2; clear hbx8))
          go_ret
          have P9 := HP7.out.ended HG8.out HE8.out (by rw [List.length_append, List.length_singleton]; have := HEN.out; omega)
          exact ⟨by rw [HDV2.out]; rfl, by rw [HDV2.out, endV_few (s := s) hf]; exact ⟨bk, bp, _, fk, _, P9⟩, (CH1.out.trans (Chg.of_grown HG7.out HP7.out.okp)).trans (Chg.ended HP7.out HG8.out _)⟩
end Go.Proofs.Ytaldfbmjmpkmmaa.PL
namespace Go.Proofs.Ytaldfbmjmpkmmaa.PL
open Go.RowKit Go.Proofs.YtaldfbmjmpkmmaaW.PrintWords Go.Proofs.YtaldfbmjmpkmmaaW.PrintLast Go.Proofs.YtaldfbmjmpkmmaaW.PrintMore Go.Shelf Go.Maps Go.WideMaps Go.Proofs.Ytaldfbmjmpkmmaa.Mk
set_option linter.unusedVariables false
set_option linter.unusedSimpArgs false
set_option linter.unusedSectionVars false
/-- A shelf in memory, but for its chains. -/
structure Half (w : World) (ok : Nat → Prop) (b N : Nat) (s : Sh) (bk bp : Nat) (ve : Value) (fp : Lit → Option Value) : Prop where
  box : w.heap[b]? = some (.cells #[.map (some bk), .map (some bp), ve, .int .i64 s.over] 78 (0, 0))
  preps : MapL Try.prog 3 w bp N fp
  ends : kEnd.R 96 w 0 ok ve s.E
  pf : ∀ q v, fp q = some v → ∃ r, r ∈ s.P ∧ q = ik r.f1 ∧ ∃ cs, v = .agg cs.toArray ∧ k35.M w 0 ok r cs
section
variable {ok : Nat → Prop} {w w' : World} {b N : Nat} {s : Sh} {bk bp : Nat} {ve : Value} {fk fp : Lit → Option Value}
theorem Half.below (h : Half w ok b N s bk bp ve fp) (hb : Below w.heap.size w w') : Half w' ok b N s bk bp ve fp :=
  ⟨blk_below h.box hb, h.preps.below hb, Kd.R_below h.ends hb, fun q v hq => by
    obtain ⟨r, h1, h2, cs, h3, h4⟩ := h.pf q v hq
    exact ⟨r, h1, h2, cs, h3, Kd.M_below h4 hb⟩⟩
theorem Half.grown {x : Nat} (h : Half w ok b N s bk bp ve fp) (hg : w.grownBy w' (some x)) (hb : ∀ cells q, w.heap[x]? ≠ some (.cells cells q (0, 0))) (hne : x ≠ bp) : Half w' ok b N s bk bp ve fp :=
  ⟨blk_map h.box hg hb, h.preps.kept hg (fun e => hne (by injection e with e; exact e.symm)), R_map h.ends hg hb, fun q v hq => by
    obtain ⟨r, h1, h2, cs, h3, h4⟩ := h.pf q v hq
    exact ⟨r, h1, h2, cs, h3, M_map h4 hg hb⟩⟩
/-- The time is set. -/
theorem Parts.set_over (h : Parts w ok b N s bk bp ve fk fp) (t : Int) : Half (w.setCell ⟨b, 3, none⟩ (.int .i64 t)) ok b N { s with over := t } bk bp ve fp ∧ MapL Try.prog 9 (w.setCell ⟨b, 3, none⟩ (.int .i64 t)) bk N fk ∧
    ∀ v l, Kd.R k29 29 w 0 ok v l → Kd.R k29 29 (w.setCell ⟨b, 3, none⟩ (.int .i64 t)) 0 ok v l := by
  have hg := grown_set w ⟨b, 3, none⟩ (.int .i64 t)
  have hbx := h.box
  have hstep : ∀ (g : Nat) (q : TypeId), q ≠ 78 → ∀ cells : Array Value, w.heap[g]? = some (.cells cells q (0, 0)) → (w.setCell ⟨b, 3, none⟩ (.int .i64 t)).heap[g]? = w.heap[g]? := fun g q h2 cells hc =>
    Below.heap_setCell w ⟨b, 3, none⟩ (.int .i64 t) g (fun e => h2 (by
      have e : g = b := e
      subst e
      rw [hbx] at hc
      injection hc with hc
      injection hc with _ hc
      exact hc.symm))
  refine ⟨⟨blk_put h.box 3 _ rfl, h.preps.kept hg (fun e => absurd hbx (by (have e2 : bp = b := by injection e); rw [← e2]; exact h.preps.not_cells)),
    R_keep h.ends (fun g _ q hq cells hc => hstep g q ((by decide : ∀ q, q ∈ 96 :: kEnd.E → q ≠ 78) q hq) cells hc), fun q v hq => ?_⟩,
    h.keys.kept hg (fun e => absurd hbx (by (have e2 : bk = b := by injection e); rw [← e2]; exact h.keys.not_cells)), fun v l hR => R_keep hR (fun g _ q hq cells hc => hstep g q ((by decide : ∀ q, q ∈ 29 :: k29.E → q ≠ 78) q hq) cells hc)⟩
  obtain ⟨r, h1, h2, cs, h3, h4⟩ := h.pf q v hq
  exact ⟨r, h1, h2, cs, h3, M_keep h4 (fun g _ q hq cells hc => hstep g q ((by decide : ∀ q, q ∈ k35.E → q ≠ 78) q hq) cells hc)⟩
/-- The chains, some of which are swept. -/
def SwK (w : World) (ok : Nat → Prop) (K : List (Key × Chain)) (t : Int) (f : Lit → Option Value) (left : Lit → Bool) : Prop :=
  ∀ q v, f q = some v → ∃ k, q = sk k ∧ k ∈ keysK K ∧ Kd.R k29 29 w 0 ok v (if left (sk k) = true then look K k else sweepC (look K k) t)
theorem SwK.map {K : List (Key × Chain)} {t : Int} {f : Lit → Option Value} {left : Lit → Bool} (h : SwK w ok K t f left) {x : Nat} (hg : w.grownBy w' (some x)) (hb : ∀ cells q, w.heap[x]? ≠ some (.cells cells q (0, 0))) : SwK w' ok K t f left := fun q v hq => by
  obtain ⟨k, h1, h2, h3⟩ := h q v hq
  exact ⟨k, h1, h2, R_map h3 hg hb⟩
theorem SwK.below {K : List (Key × Chain)} {t : Int} {f : Lit → Option Value} {left : Lit → Bool} (h : SwK w ok K t f left) (hb : Below w.heap.size w w') : SwK w' ok K t f left := fun q v hq => by
  obtain ⟨k, h1, h2, h3⟩ := h q v hq
  exact ⟨k, h1, h2, Kd.R_below h3 hb⟩
theorem sk_same (k k' : Key) : (sk k).sameKey (sk k') = decide (k = k') := by
  unfold sk
  by_cases e : k = k'
  · subst e
    simp [Lit.sameKey]
  · rw [sameKey_ne (fun h => e (by injection h))]
    simp [e]
theorem SwK.put {K : List (Key × Chain)} {t : Int} {f : Lit → Option Value} {left : Lit → Bool} (h : SwK w ok K t f left) {k : Key} (hk : k ∈ keysK K) {u : Value} (hu : Kd.R k29 29 w 0 ok u (sweepC (look K k) t)) :
    SwK w ok K t (lput f (sk k) u) (fun z => left z && !z.sameKey (sk k)) := fun q v hq => by
  unfold lput at hq
  split at hq
  · rename_i hs
    obtain rfl := Option.some.inj hq
    refine ⟨k, WideAt.sameKey_eq hs, hk, ?_⟩
    show Kd.R _ _ _ _ _ _ (if (left (sk k) && !(sk k).sameKey (sk k)) = true then _ else _)
    rw [sk_same, decide_eq_true rfl, if_neg (by simp)]
    exact hu
  · rename_i hs
    obtain ⟨k', h1, h2, h3⟩ := h q v hq
    refine ⟨k', h1, h2, ?_⟩
    have : (sk k').sameKey (sk k) = false := by rw [← h1]; simpa using hs
    show Kd.R _ _ _ _ _ _ (if (left (sk k') && !(sk k').sameKey (sk k)) = true then _ else _)
    rw [this]
    simpa using h3
def isNone (_ : Lit) (v : Value) : Bool := match v with | .slice _ n _ => n == 0 | _ => false
/-- All are swept, and the empty ones struck. -/
theorem Half.whole {t : Int} (h : Half w ok b N { s with over := t } bk bp ve fp) (hg : ShOk s) (ht : 0 ≤ t ∧ t ≤ 1125899906842624) {f : Lit → Option Value} {left : Lit → Bool} (hs : SwK w ok s.K t f left) (hl : ∀ q, left q = false) (hi : ∀ k, k ∈ keysK s.K → (f (sk k)).isSome = true)
    (hm : MapL Try.prog 9 w bk N (strikeF f isNone)) (hpt : ∀ r, r ∈ s.P → (fp (ik r.f1)).isSome = true) (okb : ok b) (okk : ok bk) (okp : ok bp) (ne : bk ≠ bp) : Parts w ok b N { s with over := t, K := sweepK s.K t } bk bp ve (strikeF f isNone) fp :=
  have hval : ∀ k v, f (sk k) = some v → Kd.R k29 29 w 0 ok v (sweepC (look s.K k) t) ∧ ∃ A c, v = .slice A (sweepC (look s.K k) t).length c := fun k v hv => by
    obtain ⟨k', h1, h2, h3⟩ := hs _ v hv
    have : k = k' := by
      unfold sk at h1
      injection h1
    subst this
    rw [hl, if_neg (by simp)] at h3
    obtain ⟨A, c, e, _, _⟩ := Kd.R_reads h3
    exact ⟨h3, A, c, e⟩
  have hok : KOk (sweepK s.K t) := hg.keys.sweep t
  ⟨h.box, hm, h.preps, h.ends, fun q v hq => by
    unfold strikeF at hq
    split at hq
    · rename_i v' hv'
      split at hq
      · cases hq
      · rename_i hn
        obtain rfl := Option.some.inj hq
        obtain ⟨k, rfl, _, _⟩ := hs q v' hv'
        obtain ⟨h1, A, c, h2⟩ := hval k v' hv'
        refine ⟨k, rfl, ?_, by show Kd.R k29 29 w 0 ok v' (look (sweepK s.K t) k); rw [look_sweep hg.keys.rise]; exact h1⟩
        show k ∈ keysK (sweepK s.K t)
        by_cases hk : k ∈ keysK (sweepK s.K t)
        · exact hk
        · have e := (hok.iff k).2 hk
          rw [look_sweep hg.keys.rise] at e
          rw [h2, e] at hn
          exact absurd rfl hn
    · exact absurd hq (by simp), fun k hk => by
    have hk : k ∈ keysK (sweepK s.K t) := hk
    have hne : look (sweepK s.K t) k ≠ [] := fun e => (hok.iff k).1 e hk
    rw [look_sweep hg.keys.rise] at hne
    have hks : k ∈ keysK s.K := by
      by_cases hks : k ∈ keysK s.K
      · exact hks
      · rw [look_none hks] at hne
        exact absurd (by unfold sweepC; simp) hne
    obtain ⟨v, hv⟩ := Option.isSome_iff_exists.1 (hi k hks)
    obtain ⟨_, A, c, h2⟩ := hval k v hv
    unfold strikeF
    rw [hv]
    simp only
    rw [if_neg (by rw [h2]; simp [isNone, hne])]
    rfl, h.pf, hpt, okb, okk, okp, ne, ⟨hok, hg.rise, hg.few, hg.recs, hg.ends, ht⟩⟩
end
set_option maxRecDepth 100000 in
theorem sweep1_walk (W : World) (key : Value) (A : Option Addr) (n c : Nat) :
    Calls Try.prog 82 #[key, .slice A n c] W fun e W' => e = .returned (.bool (n == 0)) ∧ W' = W := by
  have HV : Aside0 ((((n : Nat) : Int) == 0) = (n == 0)) := ⟨by rw [Bool.eq_iff_iff, beq_iff_eq, beq_iff_eq]; omega⟩
  generalize (n == 0) = q at *
  go_enter Try.func82, Try.ntmps82
  go_wp2
  go_ret
  exact ⟨by rw [← HV.out]; rfl, rfl⟩
set_option maxRecDepth 100000 in
set_option maxHeartbeats 8000000 in
theorem sweep_walk {w : World} {ok : Nat → Prop} {b N : Nat} {s : Sh} (h : ShAt w ok b N s) (hok : ∀ g, w.heap.size ≤ g → ok g) (hN : N < maxLen) (t : Int) (ht : t ≤ 1125899906842624) :
    Calls Try.prog 38 #[.pointer (some ⟨b, 0, none⟩), .int .i64 t] w fun e w' => e = .returned (.int .i64 (sweepV s t).1) ∧ ShAt w' ok b N (sweepV s t).2 ∧ Chg ok w w' := by
  obtain ⟨bk, bp, ve, fk, fp, hp⟩ := h
  have HP := Aside0.mk hp
  have HSV : Aside0 (sweepV s t = if t < s.over then (110, s) else (0, { s with over := t, K := sweepK s.K t })) := ⟨rfl⟩
  have HOK := Aside0.mk hok
  have HNN := Aside0.mk hN
  have HT := Aside0.mk ht
  obtain ⟨c0, c1, c2, c3⟩ := hp.cells
  have f3 := blk_frozen hp.box 3
  clear hp hok hN ht
  by_cases ho : t < s.over
  · have HS2 : Aside0 (sweepV s t = (110, s)) := ⟨by rw [HSV.out, if_pos ho]⟩
    go_enter Try.func38, Try.ntmps38
    go_wp2_with fail
    go_ret
    exact ⟨by rw [HS2.out]; rfl, by rw [HS2.out]; exact ⟨bk, bp, ve, fk, fp, HP.out⟩, Chg.of_below (Below.refl _ _)⟩
  · have HS2 : Aside0 (sweepV s t = (0, { s with over := t, K := sweepK s.K t })) := ⟨by rw [HSV.out, if_neg ho]⟩
    have HO : Aside0 (0 ≤ t) := ⟨by have := HP.out.good.over; omega⟩
    obtain ⟨h1, hk1, hr1⟩ := HP.out.set_over t
    have H1 := Aside0.mk h1
    have HK1 := Aside0.mk hk1
    have HSW : Aside0 (SwK (w.setCell ⟨b, 3, none⟩ (.int .i64 t)) ok s.K t fk (fun q => (fk q).isSome)) := ⟨fun q v hq => by
      obtain ⟨k, e1, e2, e3⟩ := HP.out.kf q v hq
      refine ⟨k, e1, e2, ?_⟩
      rw [if_pos (by show (fk (sk k)).isSome = true; rw [← e1, hq]; rfl)]
      exact hr1 v _ e3⟩
    have CH1 : Aside0 (Chg ok w (w.setCell ⟨b, 3, none⟩ (.int .i64 t))) := ⟨Chg.of_grown (grown_set w ⟨b, 3, none⟩ _) HP.out.okb⟩
    have e0 := (blk_cell h1.box 0).trans rfl
    clear HSV h1 hk1 hr1 c1 c2
    go_enter Try.func38, Try.ntmps38
    go_wp2_with (at_range; refine MapL.range HK1.out keyedS rfl _ 74 81 rfl Try.underlying74 rfl ?_; intro w2 cnt0 hrg0 hb0 hsz0)
    have hsz : (w.setCell ⟨b, 3, none⟩ (.int .i64 t)).heap.size = w.heap.size := by simp [World.setCell]
    rw [hsz] at hrg0
    have HRG0 := Aside0.mk hrg0
    have HF0 := Aside0.mk (H1.out.below hb0)
    have HSW0 := Aside0.mk (HSW.out.below hb0)
    have CH0 : Aside0 (Chg ok w w2) := ⟨CH1.out.trans (Chg.of_below hb0)⟩
    have NE : Aside0 (w.heap.size ≠ bp) := ⟨by have := HP.out.preps.lt; omega⟩
    have OKI : Aside0 (ok w.heap.size) := ⟨HOK.out _ (Nat.le_refl _)⟩
    clear hrg0 hb0 hsz0 hsz H1 HK1 HSW CH1 e0 c0 c3 f3
    go_loopw [22] (fun _ wz => ∃ f left cnt, Aside0 (RangeL Try.prog 9 wz bk w.heap.size N f left cnt) ∧ Aside0 (SwK wz ok s.K t f left) ∧ Aside0 (∀ q, (f q).isSome = (fk q).isSome) ∧ Aside0 (Half wz ok b N { s with over := t } bk bp ve fp) ∧ Aside0 (Chg ok w wz))
      (fun _ wz => wz.rangeLeft bk w.heap.size)
    case atStart => exact ⟨_, _, _, HRG0, HSW0, ⟨fun _ => rfl⟩, HF0, CH0⟩
    case round =>
      clear HRG0 HSW0 HF0 CH0
      obtain ⟨f, left, cnt, HRG, HSK, HIS, HH, HCH⟩ := hrel
      have e0 := (blk_cell HH.out.box 0).trans rfl
      have HLE := Aside0.mk HRG.out.left_eq
      go_wp2_with (at_next; refine RangeL.next HRG.out keyedS rfl _ rfl rfl ?_ ?_)
      · intro _ hl0
        have HL0 := Aside0.mk hl0
        clear hl0
        have hst := MapL.strike Try.delK keyedS HRG.out.map (fun v => ∃ A n c, v = .slice A n c) (fun q v hq => by
          obtain ⟨k, _, _, h3⟩ := HSK.out q v hq
          obtain ⟨A, c, e, _, _⟩ := Kd.R_reads h3
          exact ⟨A, _, c, e⟩) isNone 82 #[] (enters_of Try.func82 (by kernel_rfl) rfl) (fun W key val q hg hk hv => by
          obtain ⟨A, n, c, rfl⟩ := hv
          refine (sweep1_walk W key A n c).mono ?_
          rintro e w' ⟨h1, rfl⟩
          exact ⟨h1, ⟨rfl, rfl, rfl, Nat.le_refl _, fun _ _ _ => rfl⟩⟩)
        change Calls Try.prog 81 _ _ _ at hst
        have HST := Aside0.mk hst
        clear hst
        go_wp2_with fail
        refine HST.out.mono ?_
        rintro e w4 ⟨rfl, hm4, hg4⟩
        have HM4 := Aside0.mk hm4
        have HG4 := Aside0.mk hg4
        clear hm4 hg4 e0
        go_wp2_with fail
        go_ret
        have hb : ∀ cells q, wr.heap[bk]? ≠ some (.cells cells q (0, 0)) := fun cells q => HRG.out.map.not_cells
        exact ⟨by rw [HS2.out]; rfl, by rw [HS2.out]; exact ⟨bk, bp, ve, _, fp, (HH.out.grown HG4.out hb HP.out.ne).whole HP.out.good ⟨HO.out, HT.out⟩ (HSK.out.map HG4.out hb) HL0.out (fun k hk => by rw [HIS.out]; exact HP.out.kt k hk) HM4.out HP.out.pt HP.out.okb HP.out.okk HP.out.okp HP.out.ne⟩, HCH.out.trans (Chg.of_grown HG4.out HP.out.okk)⟩
      · intro key q v w3 cnt2 hkey hlq hfv hrg2 hlt hg2 hs2 hen
        obtain ⟨k, rfl, hk, hR⟩ := HSK.out q v hfv
        rw [if_pos hlq] at hR
        have hbi : ∀ cells q, wr.heap[w.heap.size]? ≠ some (.cells cells q (0, 0)) := fun cells q => HRG.out.not_cells
        have hR3 := R_map hR hg2 hbi
        have HSK3 := Aside0.mk (HSK.out.map hg2 hbi)
        have HH3 := Aside0.mk (HH.out.grown hg2 hbi NE.out)
        have CH3 : Aside0 (Chg ok w w3) := ⟨HCH.out.trans (Chg.of_grown hg2 OKI.out)⟩
        obtain ⟨A, c, rfl, hle, hC⟩ := Kd.R_reads hR3
        have hco := HP.out.good.keys.look k
        have HSWP : Aside0 (∀ W, Below w3.heap.size w3 W → Calls Try.prog 80 #[.slice A (look s.K k).length c, .int .i64 t] W fun e w' => ∃ v, e = .returned (.tuple #[v, .int .i64 0]) ∧ Kd.R k29 29 w' W.heap.size (fun _ => True) v (sweepC (look s.K k) t) ∧ Below W.heap.size W w') := ⟨fun W hW => sweepC_walk W A c (look s.K k) t (Kd.C_below hC hW) hle hco⟩
        have HKEY := Aside0.mk hkey
        have HRG3 := Aside0.mk hrg2
        have HLT := Aside0.mk hlt
        have HIQ : Aside0 ((f (sk k)).isSome = true) := ⟨by rw [hfv]; rfl⟩
        have HKK := Aside0.mk hk
        have HBX := Aside0.mk HH3.out.box
        clear hkey hlq hfv hrg2 hlt hg2 hs2 hR hR3 hle hC hco hbi hk e0
        have e0 := (blk_cell HBX.out 0).trans rfl
        generalize hch : look s.K k = ch at *
        have HCHQ := Aside0.mk hch
        clear hch
        go_wp2_with fail
        go_region_held3 (fun w' => w'.cell? ⟨b, 0, none⟩ = some (.map (some bk))) (first | exact e0 | exact d0 | exact g0)
          (first
            | (go_simp; go_at_call 80; refine (HSWP.out _ (by repeat (first | exact Below.refl _ _ | apply below_drew1))).mono ?_; rintro e w5 ⟨u, rfl, hu, hb5⟩; have HU := Aside0.mk hu; have HB5 := Aside0.mk hb5; have HR5 := Aside0.mk ((HRG3.out.below (below_drew1 (Below.refl _ _))).below hb5); obtain ⟨w6, hrun, hr6, hg6⟩ := RangeL.put_ HR5.out keyedS Try.underlying74 HNN.out HKEY.out u HIQ.out; have HR6 := Aside0.mk hr6; have HG6 := Aside0.mk hg6; have hb6 := blk_map (blk_below (blk_drew HBX.out) hb5) hg6 (fun _ _ => HR5.out.map.not_cells); have d0 := (blk_cell (blk_below (blk_drew HBX.out) hb5) 0).trans rfl; have g0 := (blk_cell hb6 0).trans rfl; clear hu hr6 hg6 hb6 hb5))
        all_goals (try go_wp2_with fail)
        have B5 : Aside0 (Below w3.heap.size w3 w5) := ⟨(below_drew1 (Below.refl w3.heap.size w3)).trans (HB5.out.mono (below_drew1 (Below.refl w3.heap.size w3)).size)⟩
        have hb : ∀ cells q, w5.heap[bk]? ≠ some (.cells cells q (0, 0)) := fun cells q => HR5.out.map.not_cells
        have hu5 := R_new (ok := ok) HU.out (fun g hg => HOK.out g (Nat.le_trans CH3.out.size (Nat.le_trans (below_drew1 (Below.refl w3.heap.size w3)).size hg)))
        rw [← HCHQ.out] at hu5
        have SK6 := Aside0.mk (((HSK3.out.below B5.out).put HKK.out hu5).map HG6.out hb)
        have H6 := Aside0.mk ((HH3.out.below B5.out).grown HG6.out hb HP.out.ne)
        have CH6 : Aside0 (Chg ok w w6) := ⟨(CH3.out.trans (Chg.of_below B5.out)).trans (Chg.of_grown HG6.out HP.out.okk)⟩
        have IS6 : Aside0 (∀ x, (lput f (sk k) u x).isSome = (fk x).isSome) := ⟨fun x => by
          rw [← HIS.out]
          unfold lput
          split
          · rename_i hs
            rw [WideAt.sameKey_eq hs, HIQ.out]
            rfl
          · rfl⟩
        clear hb hu5
        go_roundw
        case rel => exact ⟨_, _, _, HR6, SK6, IS6, H6, CH6⟩
        case measure => rw [HR6.out.left_eq, HLE.out]; exact HLT.out
end Go.Proofs.Ytaldfbmjmpkmmaa.PL
