/- ShelfStays: the walk. -/
import Derived.Test.YtaldfbmjmpkmmaaHShX
namespace Go.Proofs.Ytaldfbmjmpkmmaa.PL
open Go.RowKit Go.Proofs.YtaldfbmjmpkmmaaW.PrintWords Go.Proofs.YtaldfbmjmpkmmaaW.PrintLast Go.Proofs.YtaldfbmjmpkmmaaW.PrintMore Go.Shelf Go.Maps Go.WideMaps Go.Proofs.Ytaldfbmjmpkmmaa.Mk
set_option linter.unusedVariables false
set_option linter.unusedSimpArgs false
set_option linter.unusedSectionVars false
theorem eqA29 (d : Nat) (w : World) (x0 y0 : Int) (x1 y1 : ByteArray) (x2 y2 : Bool) :
  (Op.equalIn (d + 2) 29 (.agg #[.int .i64 x0, .string x1, .bool x2]) (.agg #[.int .i64 y0, .string y1, .bool y2])).run Try.prog w = .ok (x0 == y0 && (x1.toList == y1.toList && (x2 == y2))) w := by
 refine eqA_of Try.underlying29 (by kernel_rfl) ?_
 refine eqf_cons (by rfl) (by go_simp; rfl) (by go_simp; rfl) (by go_simp) ?_
 refine eqf_cons (by rfl) (by go_simp; rfl) (by go_simp; rfl) (by go_simp) ?_
 exact eqf_last (by rfl) (by go_simp; rfl) (by go_simp; rfl) (by go_simp)
section
variable {ok ok' : Nat → Prop} {w w' : World} {b N : Nat} {s : Sh} {bk bp : Nat} {ve : Value} {fk fp : Lit → Option Value}
/-- A shelf's blocks are there: of them alone must be asked what is ok. -/
theorem Parts.narrow (h : Parts w ok b N s bk bp ve fk fp) (hok : ∀ g, ok g → g < w.heap.size → ok' g) : Parts w ok' b N s bk bp ve fk fp :=
  ⟨h.box, h.keys, h.preps, Kd.R_mono (Kd.R_bound h.ends) (fun k hk => hok k hk.1 hk.2.2.1), fun q v hq => by
    obtain ⟨k, h1, h2, h3⟩ := h.kf q v hq
    exact ⟨k, h1, h2, Kd.R_mono (Kd.R_bound h3) (fun k hk => hok k hk.1 hk.2.2.1)⟩, h.kt, fun q v hq => by
    obtain ⟨r, h1, h2, cs, h3, h4⟩ := h.pf q v hq
    exact ⟨r, h1, h2, cs, h3, k35.M_mono (fun k hk => hok k hk.1 hk.2.2.1) (k35.M_bound h4)⟩, h.pt, hok b h.okb (blk_lt h.box), hok bk h.okk h.keys.lt, hok bp h.okp h.preps.lt, h.ne, h.good⟩
theorem ShAt.narrow (h : ShAt w ok b N s) (hok : ∀ g, ok g → g < w.heap.size → ok' g) : ShAt w ok' b N s := by
  obtain ⟨bk, bp, ve, fk, fp, hp⟩ := h
  exact ⟨bk, bp, ve, fk, fp, hp.narrow hok⟩
/-- .. and stay where others change. -/
theorem Parts.apart (h : Parts w ok b N s bk bp ve fk fp) (hc : Chg ok' w w') (hd : ∀ g, ok g → ¬ ok' g) : Parts w' ok b N s bk bp ve fk fp :=
  have hb : ∀ g, ok g → g < w.heap.size → w'.heap[g]? = w.heap[g]? := fun g hg hl => hc.block g hl (hd g hg)
  have hm : ∀ {k n : Nat} {x : Nat} {f : Lit → Option Value}, ok x → MapL Try.prog k w x n f → MapL Try.prog k w' x n f := fun hx h => by
    have hl := h.lt
    obtain ⟨D, ⟨es, clock, h1, h2, h3, h4⟩, hh⟩ := h
    exact ⟨D, ⟨es, clock, (hb _ hx hl).trans h1, h2, h3, h4⟩, hh⟩
  ⟨(hb b h.okb (blk_lt h.box)).trans h.box, hm h.okk h.keys, hm h.okp h.preps, R_keep h.ends (fun g hg q _ cells hc => hb g hg (blk_lt hc)), fun q v hq => by
    obtain ⟨k, h1, h2, h3⟩ := h.kf q v hq
    exact ⟨k, h1, h2, R_keep h3 (fun g hg q _ cells hc => hb g hg (blk_lt hc))⟩, h.kt, fun q v hq => by
    obtain ⟨r, h1, h2, cs, h3, h4⟩ := h.pf q v hq
    exact ⟨r, h1, h2, cs, h3, M_keep h4 (fun g hg q _ cells hc => hb g hg (blk_lt hc))⟩, h.pt, h.okb, h.okk, h.okp, h.ne, h.good⟩
theorem ShAt.apart (h : ShAt w ok b N s) (hc : Chg ok' w w') (hd : ∀ g, ok g → ¬ ok' g) : ShAt w' ok b N s := by
  obtain ⟨bk, bp, ve, fk, fp, hp⟩ := h
  exact ⟨bk, bp, ve, fk, fp, hp.apart hc hd⟩
end
attribute [local go_sem high] eqA29
set_option maxRecDepth 100000 in
set_option maxHeartbeats 16000000 in
theorem shelfStays_core (w : World) {l : List Rec} {A0 : Option Addr} {c0 : Nat} (hr0 : Kd.C k35 w A0 l.length l) (g0 : ∀ r, r ∈ l → sizesOk r) (key : ByteArray) (hks : key.size ≤ maxLen) (t : Int) {more : List Rec} {A1 : Option Addr} {c1 : Nat} (hr1 : Kd.C k35 w A1 more.length more) (g1 : ∀ r, r ∈ more → sizesOk r) :
    Calls Try.prog 3 #[.slice A0 l.length c0, .agg #[.string key, .int .i64 t], .slice A1 more.length c1] w fun e w' => e = .returned (.bool true) ∧ Below w.heap.size w w' := by
  have hmax := Kd.C_max hr1
  obtain ⟨w1, hw1⟩ : ∃ w1, w1 = w.alloc (.cells #[.string key, .int .i64 t] 24) := ⟨_, rfl⟩
  have hb1 : Below w.heap.size w w1 := by rw [hw1]; exact below_alloc (Below.refl _ _) _
  have hx1 : w1.heap[w.heap.size]? = some (.cells #[.string key, .int .i64 t] 24 (0, 0)) := by rw [hw1]; exact blk_new _ _
  have HW1 := Aside0.mk hw1
  have HX1 := Aside0.mk hx1
  have HB1 := Aside0.mk hb1
  have HMD : Aside0 (∀ W, Below w.heap.size w W → Calls Try.prog 10 #[.slice A0 l.length c0] W fun e w' => ∃ b, e = .returned (.pointer (some ⟨b, 0, none⟩)) ∧ ShAt w' (fun g => w.heap.size ≤ g) b 960 (madeV l) ∧ Below w.heap.size w w') := ⟨fun W hW => by
    refine (made_walk W A0 c0 l (Kd.C_below hr0 hW) g0).mono ?_
    rintro e w' ⟨b, h1, h2, h3⟩
    exact ⟨b, h1, h2.narrow (fun g hg _ => Nat.le_trans hW.size hg), hW.trans (h3.mono hW.size)⟩⟩
  have HWK := Aside0.mk works_walk
  have HR1 := Aside0.mk hr1
  have HG1 := Aside0.mk g1
  have HKS := Aside0.mk hks
  have y0 := blk_cell hx1 0
  have y1 := blk_cell hx1 1
  clear hw1 hb1 hx1 hr0 g0 hr1 g1 hks
  go_enter Try.func3, Try.ntmps3
  go_wp2_with fail
  rw [← HW1.out]
  go_quiet (fail)
  all_goals (try go_wp2_with fail)
  refine (HMD.out _ (by repeat (first | exact HB1.out | apply below_drew1 | apply pw_below_drewN))).mono ?_
  rintro e w2 ⟨b, rfl, hs2, hb2⟩
  have HS2 := Aside0.mk hs2
  have HB2 := Aside0.mk hb2
  have HE0 := Aside0.mk (madeV_ends l)
  have HO0 := Aside0.mk (madeV_ok l)
  clear hs2 hb2 HMD y0 y1
  generalize madeV l = s0 at *
  go_wp2_with fail
  refine (HWK.out w2).mono ?_
  rintro e w3 ⟨rfl, hb3⟩
  have HB3 : Aside0 (Below w.heap.size w w3) := ⟨HB2.out.trans (hb3.mono HB2.out.size)⟩
  have HS3 := Aside0.mk (HS2.out.below hb3)
  have HRD := Aside0.mk (read_walk (HS2.out.below hb3) key HKS.out t)
  have HSF := Aside0.mk (fun h3 h4 => stays_first (s := s0) (k := kb key) (t := t) h3 h4)
  have HSR := Aside0.mk (fun s1 h3 h4 hx g3 => stays_read (s := s0) (s1 := s1) (k := kb key) (t := t) h3 h4 hx g3)
  clear hb3 HS2 HB2
  generalize atV (look s0.K (kb key)) t = x at *
  generalize hrv : readV s0 (kb key) t = rd at *
  clear hrv
  obtain ⟨code, v0, v1, v2⟩ := rd
  simp only at *
  go_wp2_with fail
  refine HRD.out.mono ?_
  rintro e w4 ⟨rfl, hb4⟩
  have HB4 : Aside0 (Below w.heap.size w w4) := ⟨HB3.out.trans (hb4.mono HB3.out.size)⟩
  have HS4 := Aside0.mk (HS3.out.below hb4)
  obtain ⟨w5, hw5⟩ : ∃ w5, w5 = w4.alloc (.cells #[.int .i64 v0, .string v1, .bool v2] 29) := ⟨_, rfl⟩
  have hb5 : Below w4.heap.size w4 w5 := by rw [hw5]; exact below_alloc (Below.refl _ _) _
  have hx5 : w5.heap[w4.heap.size]? = some (.cells #[.int .i64 v0, .string v1, .bool v2] 29 (0, 0)) := by rw [hw5]; exact blk_new _ _
  have HB5 : Aside0 (Below w.heap.size w w5) := ⟨HB4.out.trans (hb5.mono HB4.out.size)⟩
  have HS5 : Aside0 (ShAt w5 (fun g => w.heap.size ≤ g ∧ g ≠ w4.heap.size) b 960 s0) := ⟨(HS4.out.narrow (fun g hg hl => ⟨hg, by omega⟩)).below hb5⟩
  have HX5 := Aside0.mk hx5
  have HW5 := Aside0.mk hw5
  have HGS : Aside0 (w4.heap.size < w5.heap.size) := ⟨by rw [hw5]; simp⟩
  clear hb4 hb5 hx5 hw5 HRD HS3 HS4 HB4
  by_cases e3 : code = 3
  · have d3 : (code == 3) = true := by simpa using e3
    clear e3
    go_wp2_with fail
    go_ret
    exact ⟨rfl, by rw [← HW5.out]; exact HB5.out⟩
  have d3 : (code == 3) = false := by simpa using e3
  by_cases e4 : code = 4
  · have d4 : (code == 4) = true := by simpa using e4
    clear e3 e4
    go_wp2_with fail
    go_ret
    exact ⟨rfl, by rw [← HW5.out]; exact HB5.out⟩
  have d4 : (code == 4) = false := by simpa using e4
  by_cases et : t < 0
  · have dt : decide (t < 0) = true := decide_eq_true et
    clear e3 e4 et
    go_wp2_with fail
    go_ret
    exact ⟨rfl, by rw [← HW5.out]; exact HB5.out⟩
  have dt : decide (t < 0) = false := decide_eq_false et
  by_cases eu : 1125899906842624 < t
  · have du : decide (t > 1125899906842624) = true := decide_eq_true eu
    clear e3 e4 et eu
    go_wp2_with fail
    go_ret
    exact ⟨rfl, by rw [← HW5.out]; exact HB5.out⟩
  have du : decide (t > 1125899906842624) = false := decide_eq_false eu
  have HST0 := Aside0.mk (HSF.out e3 e4)
  have HSR2 : Aside0 (∀ s1, Stays s1 (kb key) t x → ¬ (readV s1 (kb key) t).1 = 3 → readV s1 (kb key) t = (code, ⟨v0, v1, v2⟩) ∨ (code = 2 ∧ (readV s1 (kb key) t).1 = 0)) := ⟨fun s1 hx g3 => HSR.out s1 e3 e4 hx g3⟩
  clear e3 e4 et eu HSF HSR
  go_wp2_with fail
  rw [← HW5.out]
  go_loopw [12] (fun i wr => ∃ (k n : Nat) (s1 : Sh), k ≤ more.length ∧ k ≤ 60 ∧ i = .int .i64 (k : Int) ∧ n ≤ 960 + 16 * k ∧ Aside0 (ShAt wr (fun g => w.heap.size ≤ g ∧ g ≠ w4.heap.size) b n s1) ∧ Aside0 (s1.E.length ≤ 1024 ∧ Stays s1 (kb key) t x) ∧ Aside0 (Below w.heap.size w wr) ∧ Aside0 (wr.heap[w4.heap.size]? = some (.cells #[.int .i64 v0, .string v1, .bool v2] 29 (0, 0)))) (fun i _ => more.length - (intOf i).toNat)
  case atStart => exact ⟨0, 960, s0, Nat.zero_le _, Nat.zero_le _, rfl, by omega, HS5, ⟨HE0.out, HST0.out⟩, HB5, HX5⟩
  case round =>
    clear HS5 HE0 HO0 HST0 HB5 HX5 HW5 HWK HX1 HB1 HB3 HGS HW1
    obtain ⟨k, n, s1, hk, hk6, rfl, hn, HSH, HSX, HB, HX⟩ := hrel
    by_cases hlt : k < more.length ∧ k < 60
    · obtain ⟨hlt, hlt6⟩ := hlt
      obtain ⟨ad, cs, rfl, hlen, hK, hc0⟩ := Kd.C_get (Kd.C_below HR1.out HB.out) (⟨0, 0, 0, 0, ⟨#[]⟩, ⟨#[]⟩, false, [], []⟩ : Rec) (k : Int) (by omega) (by omega)
      rw [Int.toNat_natCast] at hK hc0
      have hget : more.getD k (⟨0, 0, 0, 0, ⟨#[]⟩, ⟨#[]⟩, false, [], []⟩ : Rec) = more[k] := by simp [List.getElem?_eq_getElem hlt]
      rw [hget] at hK
      have hmem : more[k] ∈ more := List.getElem_mem _
      generalize more[k] = r at *
      have hK0 := hK
      obtain ⟨A7, c7, A8, c8, rfl, l7, g7, l8, g8⟩ := k35_open hK
      have hc : ∀ j u, [Value.int .i64 r.f0, .int .i64 r.f1, .int .i64 r.f2, .int .i64 r.f3, .string r.f4, .string r.f5, .bool r.f6, .slice A7 r.f7.length c7, .slice A8 r.f8.length c8][j]? = some u → wr.cell? (ad.add (k * 9 + j)) = some u := hc0
      have z0 : wr.cell? (ad.add (k * 9)) = some (.int .i64 r.f0) := hc 0 _ rfl
      have z1 : wr.cell? ⟨(ad.add (k * 9)).block, (ad.add (k * 9)).off + 1, none⟩ = some (.int .i64 r.f1) := by rw [← add_field _ _ 1 (by omega)]; exact hc 1 _ rfl
      have z2 : wr.cell? ⟨(ad.add (k * 9)).block, (ad.add (k * 9)).off + 2, none⟩ = some (.int .i64 r.f2) := by rw [← add_field _ _ 2 (by omega)]; exact hc 2 _ rfl
      have z3 : wr.cell? ⟨(ad.add (k * 9)).block, (ad.add (k * 9)).off + 3, none⟩ = some (.int .i64 r.f3) := by rw [← add_field _ _ 3 (by omega)]; exact hc 3 _ rfl
      have z4 : wr.cell? ⟨(ad.add (k * 9)).block, (ad.add (k * 9)).off + 4, none⟩ = some (.string r.f4) := by rw [← add_field _ _ 4 (by omega)]; exact hc 4 _ rfl
      have z5 : wr.cell? ⟨(ad.add (k * 9)).block, (ad.add (k * 9)).off + 5, none⟩ = some (.string r.f5) := by rw [← add_field _ _ 5 (by omega)]; exact hc 5 _ rfl
      have z6 : wr.cell? ⟨(ad.add (k * 9)).block, (ad.add (k * 9)).off + 6, none⟩ = some (.bool r.f6) := by rw [← add_field _ _ 6 (by omega)]; exact hc 6 _ rfl
      have z7 : wr.cell? ⟨(ad.add (k * 9)).block, (ad.add (k * 9)).off + 7, none⟩ = some (.slice A7 r.f7.length c7) := by rw [← add_field _ _ 7 (by omega)]; exact hc 7 _ rfl
      have z8 : wr.cell? ⟨(ad.add (k * 9)).block, (ad.add (k * 9)).off + 8, none⟩ = some (.slice A8 r.f8.length c8) := by rw [← add_field _ _ 8 (by omega)]; exact hc 8 _ rfl
      clear hc hc0 hK l7 g7 l8 g8 hget hlen
      obtain ⟨wz, hwz⟩ : ∃ wz, wz = wr.alloc (.cells #[.int .i64 r.f0, .int .i64 r.f1, .int .i64 r.f2, .int .i64 r.f3, .string r.f4, .string r.f5, .bool r.f6, .slice A7 r.f7.length c7, .slice A8 r.f8.length c8] 35) := ⟨_, rfl⟩
      have hbz : Below wr.heap.size wr wz := by rw [hwz]; exact below_alloc (Below.refl _ _) _
      have HSZ := Aside0.mk (HSH.out.below hbz)
      have HBZ : Aside0 (Below w.heap.size w wz) := ⟨HB.out.trans (hbz.mono HB.out.size)⟩
      have HXZ := Aside0.mk (blk_below HX.out hbz)
      have hok : ∀ g, wz.heap.size ≤ g → w.heap.size ≤ g ∧ g ≠ w4.heap.size := fun g hg => ⟨Nat.le_trans HBZ.out.size hg, fun e => by have := blk_lt HXZ.out; omega⟩
      have hap := apply_walk HSZ.out HSX.out.1 hok (Nat.lt_of_le_of_lt (show n + 1024 ≤ 1920 + 1024 by omega) (by decide)) r _ (k35.K_below hbz hK0) (HG1.out r hmem)
      have HAP := Aside0.mk hap
      have HOKZ := Aside0.mk (let ⟨_, _, _, _, _, hp⟩ := HSZ.out; hp.good)
      have HSTEP := Aside0.mk (fun hc hs => stays_step HOKZ.out HSX.out.2 r hc hs)
      have HEND := Aside0.mk (applyV_ends HSX.out.1 r)
      have HWZ := Aside0.mk hwz
      clear hwz hbz hok hap hmem hK0
      by_cases k1 : r.f0 = 1
      · have b1 : (r.f0 != 1) = false := by simp [k1]
        have b4 : (r.f0 == 4) = false := by simp [k1]
        have hc1 : ¬ (r.f0 ≠ 1 ∧ r.f0 ≠ 4 ∧ r.f2 ≠ 0 ∧ r.f2 ≤ t) := fun h => h.1 k1
        have hc2 : ¬ (r.f0 = 4 ∧ t < r.f2) := fun h => by omega
        clear k1
        have HSX2 : Aside0 ((applyV s1 r).2.E.length ≤ 1024 ∧ Stays (applyV s1 r).2 (kb key) t x) := ⟨HEND.out, HSTEP.out hc1 hc2⟩
        clear hc1 hc2 HSTEP HEND HOKZ
        generalize (applyV s1 r).2 = s2 at *
        generalize (applyV s1 r).1 = ev at *
        go_wp2_with fail
        rw [← HWZ.out]
        refine HAP.out.mono ?_
        rintro e w6 ⟨rfl, hs6, hc6⟩
        have HB6 : Aside0 (Below w.heap.size w w6) := ⟨hc6.below HBZ.out HBZ.out.size (fun g hg => hg.1)⟩
        have HX6 : Aside0 (w6.heap[w4.heap.size]? = some (.cells #[.int .i64 v0, .string v1, .bool v2] 29 (0, 0))) := ⟨(hc6.block _ (blk_lt HXZ.out) (fun h => h.2 rfl)).trans HXZ.out⟩
        have HS6 := Aside0.mk hs6
        have HRD := Aside0.mk (read_walk hs6 key HKS.out t)
        have HCS := Aside0.mk (fun g3 => HSR2.out s2 HSX2.out.2 g3)
        clear hs6 hc6 HAP HSZ HBZ HXZ z0 z1 z2 z3 z4 z5 z6 z7 z8 HWZ HSH HB HX HSX
        generalize hrd : readV s2 (kb key) t = rd2 at *
        clear hrd
        obtain ⟨cd, u0, u1, u2⟩ := rd2
        simp only at *
        go_wp2_with fail
        refine HRD.out.mono ?_
        rintro e w7 ⟨rfl, hb7⟩
        obtain ⟨w8, hw8⟩ : ∃ w8, w8 = w7.alloc (.cells #[.int .i64 u0, .string u1, .bool u2] 29) := ⟨_, rfl⟩
        have hb78 : Below w7.heap.size w7 w8 := by rw [hw8]; exact below_alloc (Below.refl _ _) _
        have hb8 : Below w6.heap.size w6 w8 := hb7.trans (hb78.mono hb7.size)
        have HS8 := Aside0.mk (HS6.out.below hb8)
        have HB8 : Aside0 (Below w.heap.size w w8) := ⟨HB6.out.trans (hb8.mono HB6.out.size)⟩
        have HX8 := Aside0.mk (blk_below HX6.out hb8)
        have hx7 := blk_below HX6.out hb7
        have HW8 := Aside0.mk hw8
        have q0 := (blk_cell (blk_below hx7 hb78) 0).trans rfl
        have q1 := (blk_cell (blk_below hx7 hb78) 1).trans rfl
        have q2 := (blk_cell (blk_below hx7 hb78) 2).trans rfl
        rw [hw8] at q0 q1 q2
        clear hb7 hb8 hb78 hw8 HS6 HX6 HB6 HRD hx7
        by_cases e6 : cd = 3
        · have d6 : (cd == 3) = true := by simpa using e6
          clear e6 HCS
          go_wp2_with fail
          go_roundw
          case rel => exact ⟨k + 1, n + 16, s2, by omega, by omega, by go_num, by omega, by rw [← HW8.out]; exact HS8, HSX2, by rw [← HW8.out]; exact HB8, by rw [← HW8.out]; exact HX8⟩
          case measure => simp [intOf]; omega
        · have d6 : (cd == 3) = false := by simpa using e6
          rcases HCS.out e6 with h | ⟨h1, h2⟩
          · injection h with h1 h2
            injection h2 with h2 h3 h4
            subst h1 h2 h3 h4
            clear HCS e6
            by_cases e2 : cd = 2
            · have d2 : (cd == 2) = true := by simpa using e2
              have d0 : (cd == 0) = false := by simp [e2]
              clear e2
              go_wp2_with fail
              go_roundw
              case rel => exact ⟨k + 1, n + 16, s2, by omega, by omega, by go_num, by omega, by rw [← HW8.out]; exact HS8, HSX2, by rw [← HW8.out]; exact HB8, by rw [← HW8.out]; exact HX8⟩
              case measure => simp [intOf]; omega
            · have d2 : (cd == 2) = false := by simpa using e2
              clear e2
              go_wp2_with fail
              go_roundw
              case rel => exact ⟨k + 1, n + 16, s2, by omega, by omega, by go_num, by omega, by rw [← HW8.out]; exact HS8, HSX2, by rw [← HW8.out]; exact HB8, by rw [← HW8.out]; exact HX8⟩
              case measure => simp [intOf]; omega
          · have d2 : (code == 2) = true := by simpa using h1
            have d0 : (cd == 0) = true := by simpa using h2
            clear HCS e6 h1 h2
            go_wp2_with fail
            go_roundw
            case rel => exact ⟨k + 1, n + 16, s2, by omega, by omega, by go_num, by omega, by rw [← HW8.out]; exact HS8, HSX2, by rw [← HW8.out]; exact HB8, by rw [← HW8.out]; exact HX8⟩
            case measure => simp [intOf]; omega
      have b1 : (r.f0 != 1) = true := by simpa using k1
      by_cases k4 : r.f0 = 4
      · have b4 : (r.f0 == 4) = true := by simpa using k4
        have b5 : (r.f0 != 4) = false := by simp [k4]
        by_cases kt : t < r.f2
        · have bt : decide (r.f2 > t) = true := decide_eq_true kt
          clear k1 k4
          clear HAP HSTEP HEND HOKZ
          go_wp2_with fail
          go_roundw
          case rel => exact ⟨k + 1, n, s1, by omega, by omega, by go_num, by omega, by rw [← HWZ.out]; exact HSZ, HSX, by rw [← HWZ.out]; exact HBZ, by rw [← HWZ.out]; exact HXZ⟩
          case measure => simp [intOf]; omega
        · have bt : decide (r.f2 > t) = false := decide_eq_false kt
          have hc1 : ¬ (r.f0 ≠ 1 ∧ r.f0 ≠ 4 ∧ r.f2 ≠ 0 ∧ r.f2 ≤ t) := fun h => h.2.1 k4
          have hc2 : ¬ (r.f0 = 4 ∧ t < r.f2) := fun h => kt h.2
          clear k1 k4 kt
          have HSX2 : Aside0 ((applyV s1 r).2.E.length ≤ 1024 ∧ Stays (applyV s1 r).2 (kb key) t x) := ⟨HEND.out, HSTEP.out hc1 hc2⟩
          clear hc1 hc2 HSTEP HEND HOKZ
          generalize (applyV s1 r).2 = s2 at *
          generalize (applyV s1 r).1 = ev at *
          go_wp2_with fail
          rw [← HWZ.out]
          refine HAP.out.mono ?_
          rintro e w6 ⟨rfl, hs6, hc6⟩
          have HB6 : Aside0 (Below w.heap.size w w6) := ⟨hc6.below HBZ.out HBZ.out.size (fun g hg => hg.1)⟩
          have HX6 : Aside0 (w6.heap[w4.heap.size]? = some (.cells #[.int .i64 v0, .string v1, .bool v2] 29 (0, 0))) := ⟨(hc6.block _ (blk_lt HXZ.out) (fun h => h.2 rfl)).trans HXZ.out⟩
          have HS6 := Aside0.mk hs6
          have HRD := Aside0.mk (read_walk hs6 key HKS.out t)
          have HCS := Aside0.mk (fun g3 => HSR2.out s2 HSX2.out.2 g3)
          clear hs6 hc6 HAP HSZ HBZ HXZ z0 z1 z2 z3 z4 z5 z6 z7 z8 HWZ HSH HB HX HSX
          generalize hrd : readV s2 (kb key) t = rd2 at *
          clear hrd
          obtain ⟨cd, u0, u1, u2⟩ := rd2
          simp only at *
          go_wp2_with fail
          refine HRD.out.mono ?_
          rintro e w7 ⟨rfl, hb7⟩
          obtain ⟨w8, hw8⟩ : ∃ w8, w8 = w7.alloc (.cells #[.int .i64 u0, .string u1, .bool u2] 29) := ⟨_, rfl⟩
          have hb78 : Below w7.heap.size w7 w8 := by rw [hw8]; exact below_alloc (Below.refl _ _) _
          have hb8 : Below w6.heap.size w6 w8 := hb7.trans (hb78.mono hb7.size)
          have HS8 := Aside0.mk (HS6.out.below hb8)
          have HB8 : Aside0 (Below w.heap.size w w8) := ⟨HB6.out.trans (hb8.mono HB6.out.size)⟩
          have HX8 := Aside0.mk (blk_below HX6.out hb8)
          have hx7 := blk_below HX6.out hb7
          have HW8 := Aside0.mk hw8
          have q0 := (blk_cell (blk_below hx7 hb78) 0).trans rfl
          have q1 := (blk_cell (blk_below hx7 hb78) 1).trans rfl
          have q2 := (blk_cell (blk_below hx7 hb78) 2).trans rfl
          rw [hw8] at q0 q1 q2
          clear hb7 hb8 hb78 hw8 HS6 HX6 HB6 HRD hx7
          by_cases e6 : cd = 3
          · have d6 : (cd == 3) = true := by simpa using e6
            clear e6 HCS
            go_wp2_with fail
            go_roundw
            case rel => exact ⟨k + 1, n + 16, s2, by omega, by omega, by go_num, by omega, by rw [← HW8.out]; exact HS8, HSX2, by rw [← HW8.out]; exact HB8, by rw [← HW8.out]; exact HX8⟩
            case measure => simp [intOf]; omega
          · have d6 : (cd == 3) = false := by simpa using e6
            rcases HCS.out e6 with h | ⟨h1, h2⟩
            · injection h with h1 h2
              injection h2 with h2 h3 h4
              subst h1 h2 h3 h4
              clear HCS e6
              by_cases e2 : cd = 2
              · have d2 : (cd == 2) = true := by simpa using e2
                have d0 : (cd == 0) = false := by simp [e2]
                clear e2
                go_wp2_with fail
                go_roundw
                case rel => exact ⟨k + 1, n + 16, s2, by omega, by omega, by go_num, by omega, by rw [← HW8.out]; exact HS8, HSX2, by rw [← HW8.out]; exact HB8, by rw [← HW8.out]; exact HX8⟩
                case measure => simp [intOf]; omega
              · have d2 : (cd == 2) = false := by simpa using e2
                clear e2
                go_wp2_with fail
                go_roundw
                case rel => exact ⟨k + 1, n + 16, s2, by omega, by omega, by go_num, by omega, by rw [← HW8.out]; exact HS8, HSX2, by rw [← HW8.out]; exact HB8, by rw [← HW8.out]; exact HX8⟩
                case measure => simp [intOf]; omega
            · have d2 : (code == 2) = true := by simpa using h1
              have d0 : (cd == 0) = true := by simpa using h2
              clear HCS e6 h1 h2
              go_wp2_with fail
              go_roundw
              case rel => exact ⟨k + 1, n + 16, s2, by omega, by omega, by go_num, by omega, by rw [← HW8.out]; exact HS8, HSX2, by rw [← HW8.out]; exact HB8, by rw [← HW8.out]; exact HX8⟩
              case measure => simp [intOf]; omega
      have b4 : (r.f0 == 4) = false := by simpa using k4
      have b5 : (r.f0 != 4) = true := by simpa using k4
      have hc2 : ¬ (r.f0 = 4 ∧ t < r.f2) := fun h => k4 h.1
      by_cases k0 : r.f2 = 0
      · have b0 : (r.f2 != 0) = false := by simp [k0]
        have hc1 : ¬ (r.f0 ≠ 1 ∧ r.f0 ≠ 4 ∧ r.f2 ≠ 0 ∧ r.f2 ≤ t) := fun h => h.2.2.1 k0
        clear k1 k4 k0
        have HSX2 : Aside0 ((applyV s1 r).2.E.length ≤ 1024 ∧ Stays (applyV s1 r).2 (kb key) t x) := ⟨HEND.out, HSTEP.out hc1 hc2⟩
        clear hc1 hc2 HSTEP HEND HOKZ
        generalize (applyV s1 r).2 = s2 at *
        generalize (applyV s1 r).1 = ev at *
        go_wp2_with fail
        rw [← HWZ.out]
        refine HAP.out.mono ?_
        rintro e w6 ⟨rfl, hs6, hc6⟩
        have HB6 : Aside0 (Below w.heap.size w w6) := ⟨hc6.below HBZ.out HBZ.out.size (fun g hg => hg.1)⟩
        have HX6 : Aside0 (w6.heap[w4.heap.size]? = some (.cells #[.int .i64 v0, .string v1, .bool v2] 29 (0, 0))) := ⟨(hc6.block _ (blk_lt HXZ.out) (fun h => h.2 rfl)).trans HXZ.out⟩
        have HS6 := Aside0.mk hs6
        have HRD := Aside0.mk (read_walk hs6 key HKS.out t)
        have HCS := Aside0.mk (fun g3 => HSR2.out s2 HSX2.out.2 g3)
        clear hs6 hc6 HAP HSZ HBZ HXZ z0 z1 z2 z3 z4 z5 z6 z7 z8 HWZ HSH HB HX HSX
        generalize hrd : readV s2 (kb key) t = rd2 at *
        clear hrd
        obtain ⟨cd, u0, u1, u2⟩ := rd2
        simp only at *
        go_wp2_with fail
        refine HRD.out.mono ?_
        rintro e w7 ⟨rfl, hb7⟩
        obtain ⟨w8, hw8⟩ : ∃ w8, w8 = w7.alloc (.cells #[.int .i64 u0, .string u1, .bool u2] 29) := ⟨_, rfl⟩
        have hb78 : Below w7.heap.size w7 w8 := by rw [hw8]; exact below_alloc (Below.refl _ _) _
        have hb8 : Below w6.heap.size w6 w8 := hb7.trans (hb78.mono hb7.size)
        have HS8 := Aside0.mk (HS6.out.below hb8)
        have HB8 : Aside0 (Below w.heap.size w w8) := ⟨HB6.out.trans (hb8.mono HB6.out.size)⟩
        have HX8 := Aside0.mk (blk_below HX6.out hb8)
        have hx7 := blk_below HX6.out hb7
        have HW8 := Aside0.mk hw8
        have q0 := (blk_cell (blk_below hx7 hb78) 0).trans rfl
        have q1 := (blk_cell (blk_below hx7 hb78) 1).trans rfl
        have q2 := (blk_cell (blk_below hx7 hb78) 2).trans rfl
        rw [hw8] at q0 q1 q2
        clear hb7 hb8 hb78 hw8 HS6 HX6 HB6 HRD hx7
        by_cases e6 : cd = 3
        · have d6 : (cd == 3) = true := by simpa using e6
          clear e6 HCS
          go_wp2_with fail
          go_roundw
          case rel => exact ⟨k + 1, n + 16, s2, by omega, by omega, by go_num, by omega, by rw [← HW8.out]; exact HS8, HSX2, by rw [← HW8.out]; exact HB8, by rw [← HW8.out]; exact HX8⟩
          case measure => simp [intOf]; omega
        · have d6 : (cd == 3) = false := by simpa using e6
          rcases HCS.out e6 with h | ⟨h1, h2⟩
          · injection h with h1 h2
            injection h2 with h2 h3 h4
            subst h1 h2 h3 h4
            clear HCS e6
            by_cases e2 : cd = 2
            · have d2 : (cd == 2) = true := by simpa using e2
              have d0 : (cd == 0) = false := by simp [e2]
              clear e2
              go_wp2_with fail
              go_roundw
              case rel => exact ⟨k + 1, n + 16, s2, by omega, by omega, by go_num, by omega, by rw [← HW8.out]; exact HS8, HSX2, by rw [← HW8.out]; exact HB8, by rw [← HW8.out]; exact HX8⟩
              case measure => simp [intOf]; omega
            · have d2 : (cd == 2) = false := by simpa using e2
              clear e2
              go_wp2_with fail
              go_roundw
              case rel => exact ⟨k + 1, n + 16, s2, by omega, by omega, by go_num, by omega, by rw [← HW8.out]; exact HS8, HSX2, by rw [← HW8.out]; exact HB8, by rw [← HW8.out]; exact HX8⟩
              case measure => simp [intOf]; omega
          · have d2 : (code == 2) = true := by simpa using h1
            have d0 : (cd == 0) = true := by simpa using h2
            clear HCS e6 h1 h2
            go_wp2_with fail
            go_roundw
            case rel => exact ⟨k + 1, n + 16, s2, by omega, by omega, by go_num, by omega, by rw [← HW8.out]; exact HS8, HSX2, by rw [← HW8.out]; exact HB8, by rw [← HW8.out]; exact HX8⟩
            case measure => simp [intOf]; omega
      have b0 : (r.f2 != 0) = true := by simpa using k0
      by_cases kt : r.f2 ≤ t
      · have bt : decide (r.f2 ≤ t) = true := decide_eq_true kt
        clear k1 k4 k0 hc2
        clear HAP HSTEP HEND HOKZ
        go_wp2_with fail
        go_roundw
        case rel => exact ⟨k + 1, n, s1, by omega, by omega, by go_num, by omega, by rw [← HWZ.out]; exact HSZ, HSX, by rw [← HWZ.out]; exact HBZ, by rw [← HWZ.out]; exact HXZ⟩
        case measure => simp [intOf]; omega
      · have bt : decide (r.f2 ≤ t) = false := decide_eq_false kt
        have hc1 : ¬ (r.f0 ≠ 1 ∧ r.f0 ≠ 4 ∧ r.f2 ≠ 0 ∧ r.f2 ≤ t) := fun h => kt h.2.2.2
        clear k1 k4 k0 kt
        have HSX2 : Aside0 ((applyV s1 r).2.E.length ≤ 1024 ∧ Stays (applyV s1 r).2 (kb key) t x) := ⟨HEND.out, HSTEP.out hc1 hc2⟩
        clear hc1 hc2 HSTEP HEND HOKZ
        generalize (applyV s1 r).2 = s2 at *
        generalize (applyV s1 r).1 = ev at *
        go_wp2_with fail
        rw [← HWZ.out]
        refine HAP.out.mono ?_
        rintro e w6 ⟨rfl, hs6, hc6⟩
        have HB6 : Aside0 (Below w.heap.size w w6) := ⟨hc6.below HBZ.out HBZ.out.size (fun g hg => hg.1)⟩
        have HX6 : Aside0 (w6.heap[w4.heap.size]? = some (.cells #[.int .i64 v0, .string v1, .bool v2] 29 (0, 0))) := ⟨(hc6.block _ (blk_lt HXZ.out) (fun h => h.2 rfl)).trans HXZ.out⟩
        have HS6 := Aside0.mk hs6
        have HRD := Aside0.mk (read_walk hs6 key HKS.out t)
        have HCS := Aside0.mk (fun g3 => HSR2.out s2 HSX2.out.2 g3)
        clear hs6 hc6 HAP HSZ HBZ HXZ z0 z1 z2 z3 z4 z5 z6 z7 z8 HWZ HSH HB HX HSX
        generalize hrd : readV s2 (kb key) t = rd2 at *
        clear hrd
        obtain ⟨cd, u0, u1, u2⟩ := rd2
        simp only at *
        go_wp2_with fail
        refine HRD.out.mono ?_
        rintro e w7 ⟨rfl, hb7⟩
        obtain ⟨w8, hw8⟩ : ∃ w8, w8 = w7.alloc (.cells #[.int .i64 u0, .string u1, .bool u2] 29) := ⟨_, rfl⟩
        have hb78 : Below w7.heap.size w7 w8 := by rw [hw8]; exact below_alloc (Below.refl _ _) _
        have hb8 : Below w6.heap.size w6 w8 := hb7.trans (hb78.mono hb7.size)
        have HS8 := Aside0.mk (HS6.out.below hb8)
        have HB8 : Aside0 (Below w.heap.size w w8) := ⟨HB6.out.trans (hb8.mono HB6.out.size)⟩
        have HX8 := Aside0.mk (blk_below HX6.out hb8)
        have hx7 := blk_below HX6.out hb7
        have HW8 := Aside0.mk hw8
        have q0 := (blk_cell (blk_below hx7 hb78) 0).trans rfl
        have q1 := (blk_cell (blk_below hx7 hb78) 1).trans rfl
        have q2 := (blk_cell (blk_below hx7 hb78) 2).trans rfl
        rw [hw8] at q0 q1 q2
        clear hb7 hb8 hb78 hw8 HS6 HX6 HB6 HRD hx7
        by_cases e6 : cd = 3
        · have d6 : (cd == 3) = true := by simpa using e6
          clear e6 HCS
          go_wp2_with fail
          go_roundw
          case rel => exact ⟨k + 1, n + 16, s2, by omega, by omega, by go_num, by omega, by rw [← HW8.out]; exact HS8, HSX2, by rw [← HW8.out]; exact HB8, by rw [← HW8.out]; exact HX8⟩
          case measure => simp [intOf]; omega
        · have d6 : (cd == 3) = false := by simpa using e6
          rcases HCS.out e6 with h | ⟨h1, h2⟩
          · injection h with h1 h2
            injection h2 with h2 h3 h4
            subst h1 h2 h3 h4
            clear HCS e6
            by_cases e2 : cd = 2
            · have d2 : (cd == 2) = true := by simpa using e2
              have d0 : (cd == 0) = false := by simp [e2]
              clear e2
              go_wp2_with fail
              go_roundw
              case rel => exact ⟨k + 1, n + 16, s2, by omega, by omega, by go_num, by omega, by rw [← HW8.out]; exact HS8, HSX2, by rw [← HW8.out]; exact HB8, by rw [← HW8.out]; exact HX8⟩
              case measure => simp [intOf]; omega
            · have d2 : (cd == 2) = false := by simpa using e2
              clear e2
              go_wp2_with fail
              go_roundw
              case rel => exact ⟨k + 1, n + 16, s2, by omega, by omega, by go_num, by omega, by rw [← HW8.out]; exact HS8, HSX2, by rw [← HW8.out]; exact HB8, by rw [← HW8.out]; exact HX8⟩
              case measure => simp [intOf]; omega
          · have d2 : (code == 2) = true := by simpa using h1
            have d0 : (cd == 0) = true := by simpa using h2
            clear HCS e6 h1 h2
            go_wp2_with fail
            go_roundw
            case rel => exact ⟨k + 1, n + 16, s2, by omega, by omega, by go_num, by omega, by rw [← HW8.out]; exact HS8, HSX2, by rw [← HW8.out]; exact HB8, by rw [← HW8.out]; exact HX8⟩
            case measure => simp [intOf]; omega
    · by_cases h6 : k < more.length
      · have h60 : ¬ k < 60 := fun h => hlt ⟨h6, h⟩
        clear hlt
        go_wp2
        go_ret
        exact ⟨rfl, HB.out⟩
      · clear hlt
        go_wp2
        go_ret
        exact ⟨rfl, HB.out⟩
end Go.Proofs.Ytaldfbmjmpkmmaa.PL
