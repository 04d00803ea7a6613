/- ShelfRefuses: the walk. -/
import Derived.Test.YtaldfbmjmpkmmaaGreatM515a0e
namespace Go.Proofs.YtaldfbmjmpkmmaaGreat.PL
open Go.RowKit Go.Proofs.YtaldfbmjmpkmmaaGreatW.PrintWords Go.Proofs.YtaldfbmjmpkmmaaGreatW.PrintLast Go.Proofs.YtaldfbmjmpkmmaaGreatW.PrintMore Go.Shelf Go.Maps Go.WideMaps Go.Proofs.YtaldfbmjmpkmmaaGreat.Mk
set_option linter.unusedVariables false
set_option linter.unusedSimpArgs false
set_option linter.unusedSectionVars false
theorem recs_sizes {s : Sh} (h : ShOk s) : ∀ r, r ∈ recsV s → sizesOk r := fun r hr => by
  unfold recsV at hr
  rcases List.mem_append.1 hr with hr | hr
  · split at hr
    · rw [List.mem_singleton.1 hr]; simp [sizesOk, sweepR]
    · simp at hr
  · rcases List.mem_append.1 hr with hr | hr
    · unfold recsK at hr
      obtain ⟨p, _, hp⟩ := List.mem_flatMap.1 hr
      obtain ⟨v, _, rfl⟩ := List.mem_map.1 hp
      simp [sizesOk, verR]
    · rcases List.mem_append.1 hr with hr | hr
      · obtain ⟨e, _, rfl⟩ := List.mem_map.1 hr
        simp [sizesOk, doR]
      · have hl := (prep_lists (h.recs r hr).1 (h.recs r hr).2).1
        have h7 := hl.few7
        have h8 := hl.few8
        unfold sizesOk
        omega
/-- A list of one's own stays where others change. -/
theorem R_stays {α : Type} {d : Kd α} {e n m : Nat} {ok : Nat → Prop} {w1 w2 : World} {v : Value} {xs : List α} (h : d.R e w1 n (fun _ => True) v xs) (hm : w1.heap.size = m) (hc : Chg ok w1 w2) (hd : ∀ g, n ≤ g → g < m → ¬ ok g) : d.R e w2 0 (fun _ => True) v xs :=
  Kd.R_mono (R_keep (ok := fun g => n ≤ g ∧ g < m) (Kd.R_lower (Kd.R_mono (Kd.R_bound h) (fun k hk => ⟨hk.2.1, by have := hk.2.2.1; omega⟩)) (Nat.zero_le _)) (fun g hg q _ cells hcc => hc.block g (blk_lt hcc) (hd g hg.1 hg.2))) (fun _ _ => trivial)
set_option maxRecDepth 100000 in
set_option maxHeartbeats 16000000 in
theorem shelfRefuses_core (w : World) {l : List Rec} {A0 : Option Addr} {c0 : Nat} (hr0 : Kd.C k26 w A0 l.length l) (g0 : ∀ r, r ∈ l → sizesOk r) (r : Rec) {A7 : Option Addr} {c7 : Nat} {A8 : Option Addr} {c8 : Nat}
    (hK : k26.K w r [.int .i64 r.f0, .int .i64 r.f1, .int .i64 r.f2, .int .i64 r.f3, .string r.f4, .string r.f5, .bool r.f6, .slice A7 r.f7.length c7, .slice A8 r.f8.length c8]) (hs : sizesOk r) :
    Calls Tryz.prog 3 #[.slice A0 l.length c0, .agg #[.int .i64 r.f0, .int .i64 r.f1, .int .i64 r.f2, .int .i64 r.f3, .string r.f4, .string r.f5, .bool r.f6, .slice A7 r.f7.length c7, .slice A8 r.f8.length c8]] w fun e w' => e = .returned (.bool true) ∧ Below w.heap.size w w' := by
  obtain ⟨w1, hw1⟩ : ∃ w1, w1 = w.alloc (.cells #[.int .i64 r.f0, .int .i64 r.f1, .int .i64 r.f2, .int .i64 r.f3, .string r.f4, .string r.f5, .bool r.f6, .slice A7 r.f7.length c7, .slice A8 r.f8.length c8] 26) := ⟨_, rfl⟩
  have hb1 : Below w.heap.size w w1 := by rw [hw1]; exact below_alloc (Below.refl _ _) _
  have hx1 : w1.heap[w.heap.size]? = some (.cells #[.int .i64 r.f0, .int .i64 r.f1, .int .i64 r.f2, .int .i64 r.f3, .string r.f4, .string r.f5, .bool r.f6, .slice A7 r.f7.length c7, .slice A8 r.f8.length c8] 26 (0, 0)) := by rw [hw1]; exact blk_new _ _
  have hz1 : w.heap.size < w1.heap.size := blk_lt hx1
  have HMD := Aside0.mk (made_walk w1 A0 c0 l (Kd.C_below hr0 hb1) g0)
  have HWK := Aside0.mk works_walk
  have HOK0 := Aside0.mk (madeV_ok l)
  have HM0 := Aside0.mk (more_made l)
  have HK := Aside0.mk hK
  have HSZ := Aside0.mk hs
  have HW1 := Aside0.mk hw1
  have HB1 := Aside0.mk hb1
  have HX1 := Aside0.mk hx1
  have HZ1 := Aside0.mk hz1
  clear hw1 hb1 hx1 hr0 g0 hK hs hz1
  generalize madeV l = s0 at *
  go_enter Tryz.func3, Tryz.ntmps3
  go_wp2_with fail
  rw [← HW1.out]
  refine HMD.out.mono ?_
  rintro e w2 ⟨b, rfl, hs2, hb2⟩
  have HS2 := Aside0.mk hs2
  have HB2 : Aside0 (Below w1.heap.size w1 w2) := ⟨hb2⟩
  clear hs2 hb2 HMD
  go_wp2_with fail
  refine (HWK.out w2).mono ?_
  rintro e w3 ⟨rfl, hb3⟩
  have HB3 : Aside0 (Below w1.heap.size w1 w3) := ⟨HB2.out.trans (hb3.mono HB2.out.size)⟩
  have HS3 := Aside0.mk (HS2.out.below hb3)
  have HRC := Aside0.mk (records_walk (HS2.out.below hb3) (by omega) HM0.out.kk)
  clear hb3 HS2 HB2
  go_wp2_with fail
  refine HRC.out.mono ?_
  rintro e w4 ⟨vL, rfl, hR4, hb4⟩
  obtain ⟨AL, nL, cL, rfl⟩ : ∃ A n c, vL = .slice A n c := by (obtain ⟨A, c, e⟩ := Kd.R_slice hR4); exact ⟨A, _, c, e⟩
  have HB4 : Aside0 (Below w1.heap.size w1 w4) := ⟨HB3.out.trans (hb4.mono HB3.out.size)⟩
  have HS4 : Aside0 (ShAt w4 (fun g => (w1.heap.size ≤ g ∧ g < w3.heap.size) ∨ w4.heap.size ≤ g) b 960 s0) := ⟨(HS3.out.narrow (fun g hg hl => .inl ⟨hg, hl⟩)).below hb4⟩
  have HR4 := Aside0.mk hR4
  have HX4 := Aside0.mk (blk_below HX1.out HB4.out)
  have HK4 := Aside0.mk (k26.K_below (HB1.out.trans (HB4.out.mono HB1.out.size)) HK.out)
  have HAP := Aside0.mk (apply_walk HS4.out HM0.out.el (fun g hg => .inr hg) (by decide) r _ HK4.out HSZ.out)
  clear hR4 hb4 HRC HS3
  generalize hcode : (applyV s0 r).1 = code at *
  generalize hs1 : (applyV s0 r).2 = s1 at *
  have HCD := Aside0.mk hcode
  have HS1 := Aside0.mk hs1
  clear hcode hs1
  have y0 := blk_cell HX4.out 0
  have y1 := blk_cell HX4.out 1
  have y2 := blk_cell HX4.out 2
  have y3 := blk_cell HX4.out 3
  have y4 := blk_cell HX4.out 4
  have y5 := blk_cell HX4.out 5
  have y6 := blk_cell HX4.out 6
  have y7 := blk_cell HX4.out 7
  have y8 := blk_cell HX4.out 8
  go_wp2_with fail
  refine HAP.out.mono ?_
  rintro e w5 ⟨rfl, hs5, hc5⟩
  have HS5 := Aside0.mk hs5
  have HB5 : Aside0 (Below w1.heap.size w1 w5) := ⟨hc5.below HB4.out HB4.out.size (fun g hg => by rcases hg with h | h; exact h.1; exact Nat.le_trans HB4.out.size h)⟩
  have HBW5 : Aside0 (Below w.heap.size w w5) := ⟨HB1.out.trans (HB5.out.mono HB1.out.size)⟩
  have HL5 := Aside0.mk (R_stays HR4.out rfl hc5 (fun g h1 h2 h => by rcases h with h | h <;> omega))
  have HM1 : Aside0 (ShMore s1) := ⟨by rw [← HS1.out]; exact more_apply HOK0.out HM0.out r⟩
  have HOK1 : Aside0 (ShOk s1) := ⟨by rw [← HS1.out]; exact applyV_ok HOK0.out r⟩
  have HSZ1 := Aside0.mk (recs_sizes HOK1.out)
  clear hs5 hc5 HAP HS4 y0 y1 y2 y3 y4 y5 y6 y7 y8
  by_cases hz : code = 0
  · have g5 : (code != 0) = false := by simpa using hz
    have HTW := Aside0.mk (twice HOK0.out HM0.out r (by rw [HCD.out]; exact hz))
    rw [HS1.out] at HTW
    clear hz HL5 HR4
    have HRC := Aside0.mk (records_walk HS5.out (by omega) HM1.out.kk)
    go_wp2_with fail
    refine HRC.out.mono ?_
    rintro e w6 ⟨vK, rfl, hR6, hb6⟩
    obtain ⟨AL, nL, cL, rfl⟩ : ∃ A n c, vK = .slice A n c := by (obtain ⟨A, c, e⟩ := Kd.R_slice hR6); exact ⟨A, _, c, e⟩
    have HB6 : Aside0 (Below w1.heap.size w1 w6) := ⟨HB5.out.trans (hb6.mono HB5.out.size)⟩
    have HS6 : Aside0 (ShAt w6 (fun g => (w1.heap.size ≤ g ∧ g < w5.heap.size) ∨ w6.heap.size ≤ g) b 976 s1) := ⟨(HS5.out.narrow (fun g hg hl => .inl ⟨by rcases hg with h | h; exact h.1; exact Nat.le_trans HB4.out.size h, hl⟩)).below hb6⟩
    have HX6 := Aside0.mk (blk_below HX1.out HB6.out)
    have HK6 := Aside0.mk (k26.K_below (HB1.out.trans (HB6.out.mono HB1.out.size)) HK.out)
    have HAP := Aside0.mk (apply_walk HS6.out HM1.out.el (fun g hg => .inr hg) (by decide) r _ HK6.out HSZ.out)
    have HR6 := Aside0.mk hR6
    have HSAME : Aside0 ((applyV s1 r).1 ≠ 0 → (applyV s1 r).2 = s1) := ⟨fun h => refused_same h⟩
    clear hR6 hb6 HRC HS5
    generalize hf : (applyV s1 r).1 = f at *
    generalize hs2 : (applyV s1 r).2 = s2 at *
    have HS2E := Aside0.mk hs2
    have HFE := Aside0.mk hf
    clear hf hs2
    have y0 := blk_cell HX6.out 0
    have y1 := blk_cell HX6.out 1
    have y2 := blk_cell HX6.out 2
    have y3 := blk_cell HX6.out 3
    have y4 := blk_cell HX6.out 4
    have y5 := blk_cell HX6.out 5
    have y6 := blk_cell HX6.out 6
    have y7 := blk_cell HX6.out 7
    have y8 := blk_cell HX6.out 8
    go_wp2_with fail
    refine HAP.out.mono ?_
    rintro e w7 ⟨rfl, hs7, hc7⟩
    have HB7 : Aside0 (Below w1.heap.size w1 w7) := ⟨hc7.below HB6.out HB6.out.size (fun g hg => by rcases hg with h | h; exact h.1; exact Nat.le_trans HB6.out.size h)⟩
    have HBW7 : Aside0 (Below w.heap.size w w7) := ⟨HB1.out.trans (HB7.out.mono HB1.out.size)⟩
    have HL7 := Aside0.mk (R_stays HR6.out rfl hc7 (fun g h1 h2 h => by rcases h with h | h <;> omega))
    have HX7 := Aside0.mk (blk_below HX1.out HB7.out)
    have HS7 := Aside0.mk hs7
    clear hs7 hc7 HAP HS6 HR6 y0 y1 y2 y3 y4 y5 y6 y7 y8
    have y0 := blk_cell HX7.out 0
    by_cases k4 : r.f0 = 4
    · have b4 : (r.f0 == 4) = true := by simpa using k4
      have h4 := HTW.out.1 k4
      have e1 : f = 0 := by rw [← HFE.out, h4]
      have e2 : s2 = s1 := by rw [← HS2E.out, h4]
      subst e1 e2
      clear k4 h4 HTW
      have HRC := Aside0.mk (records_walk HS7.out (by omega) HM1.out.kk)
      go_wp2_with fail
      refine HRC.out.mono ?_
      rintro e w8 ⟨v8, rfl, hR8, hb8⟩
      obtain ⟨P8, q8, rfl, hl8, hC8⟩ := Kd.R_reads hR8
      obtain ⟨P9, q9, he9, hl9, hC9⟩ := Kd.R_reads (Kd.R_below HL7.out hb8)
      injection he9 with e1 e2 e3
      subst e1 e3
      have HSM := Aside0.mk (same_walk w8 P8 AL q8 cL (recsV s2) hC8 hl8 hC9 hl9 HSZ1.out)
      have HB8 : Aside0 (Below w.heap.size w w8) := ⟨HBW7.out.trans (hb8.mono HBW7.out.size)⟩
      clear hR8 hb8 hl8 hC8 hl9 hC9 HRC
      go_wp2_with fail
      refine HSM.out.mono ?_
      rintro e w9 ⟨rfl, hb9⟩
      have HB9 : Aside0 (Below w.heap.size w w9) := ⟨HB8.out.trans (hb9.mono HB8.out.size)⟩
      clear hb9 HSM
      go_wp2_with fail
      go_ret
      exact ⟨rfl, HB9.out⟩
    have b4 : (r.f0 == 4) = false := by simpa using k4
    by_cases k1 : r.f0 = 1
    · have b1 : (r.f0 == 1) = true := by simpa using k1
      have e1 : f = 6 := by exact HTW.out.2.1 (.inl k1)
      have e2 : s2 = s1 := HSAME.out (by rw [e1]; decide)
      subst e1 e2
      clear k4 k1 HTW
      have HRC := Aside0.mk (records_walk HS7.out (by omega) HM1.out.kk)
      go_wp2_with fail
      refine HRC.out.mono ?_
      rintro e w8 ⟨v8, rfl, hR8, hb8⟩
      obtain ⟨P8, q8, rfl, hl8, hC8⟩ := Kd.R_reads hR8
      obtain ⟨P9, q9, he9, hl9, hC9⟩ := Kd.R_reads (Kd.R_below HL7.out hb8)
      injection he9 with e1 e2 e3
      subst e1 e3
      have HSM := Aside0.mk (same_walk w8 P8 AL q8 cL (recsV s2) hC8 hl8 hC9 hl9 HSZ1.out)
      have HB8 : Aside0 (Below w.heap.size w w8) := ⟨HBW7.out.trans (hb8.mono HBW7.out.size)⟩
      clear hR8 hb8 hl8 hC8 hl9 hC9 HRC
      go_wp2_with fail
      refine HSM.out.mono ?_
      rintro e w9 ⟨rfl, hb9⟩
      have HB9 : Aside0 (Below w.heap.size w w9) := ⟨HB8.out.trans (hb9.mono HB8.out.size)⟩
      clear hb9 HSM
      go_wp2_with fail
      go_ret
      exact ⟨rfl, HB9.out⟩
    have b1 : (r.f0 == 1) = false := by simpa using k1
    by_cases k2 : r.f0 = 2
    · have b2 : (r.f0 == 2) = true := by simpa using k2
      have e1 : f = 6 := by exact HTW.out.2.1 (.inr k2)
      have e2 : s2 = s1 := HSAME.out (by rw [e1]; decide)
      subst e1 e2
      clear k4 k1 k2 HTW
      have HRC := Aside0.mk (records_walk HS7.out (by omega) HM1.out.kk)
      go_wp2_with fail
      refine HRC.out.mono ?_
      rintro e w8 ⟨v8, rfl, hR8, hb8⟩
      obtain ⟨P8, q8, rfl, hl8, hC8⟩ := Kd.R_reads hR8
      obtain ⟨P9, q9, he9, hl9, hC9⟩ := Kd.R_reads (Kd.R_below HL7.out hb8)
      injection he9 with e1 e2 e3
      subst e1 e3
      have HSM := Aside0.mk (same_walk w8 P8 AL q8 cL (recsV s2) hC8 hl8 hC9 hl9 HSZ1.out)
      have HB8 : Aside0 (Below w.heap.size w w8) := ⟨HBW7.out.trans (hb8.mono HBW7.out.size)⟩
      clear hR8 hb8 hl8 hC8 hl9 hC9 HRC
      go_wp2_with fail
      refine HSM.out.mono ?_
      rintro e w9 ⟨rfl, hb9⟩
      have HB9 : Aside0 (Below w.heap.size w w9) := ⟨HB8.out.trans (hb9.mono HB8.out.size)⟩
      clear hb9 HSM
      go_wp2_with fail
      go_ret
      exact ⟨rfl, HB9.out⟩
    have b2 : (r.f0 == 2) = false := by simpa using k2
    have e1 : f = 110 := by exact HTW.out.2.2 k4 k1 k2
    have e2 : s2 = s1 := HSAME.out (by rw [e1]; decide)
    subst e1 e2
    clear k4 k1 k2 HTW
    have HRC := Aside0.mk (records_walk HS7.out (by omega) HM1.out.kk)
    go_wp2_with fail
    refine HRC.out.mono ?_
    rintro e w8 ⟨v8, rfl, hR8, hb8⟩
    obtain ⟨P8, q8, rfl, hl8, hC8⟩ := Kd.R_reads hR8
    obtain ⟨P9, q9, he9, hl9, hC9⟩ := Kd.R_reads (Kd.R_below HL7.out hb8)
    injection he9 with e1 e2 e3
    subst e1 e3
    have HSM := Aside0.mk (same_walk w8 P8 AL q8 cL (recsV s2) hC8 hl8 hC9 hl9 HSZ1.out)
    have HB8 : Aside0 (Below w.heap.size w w8) := ⟨HBW7.out.trans (hb8.mono HBW7.out.size)⟩
    clear hR8 hb8 hl8 hC8 hl9 hC9 HRC
    go_wp2_with fail
    refine HSM.out.mono ?_
    rintro e w9 ⟨rfl, hb9⟩
    have HB9 : Aside0 (Below w.heap.size w w9) := ⟨HB8.out.trans (hb9.mono HB8.out.size)⟩
    clear hb9 HSM
    go_wp2_with fail
    go_ret
    exact ⟨rfl, HB9.out⟩
  · have g5 : (code != 0) = true := by simpa using hz
    have e2 : s1 = s0 := by rw [← HS1.out]; exact refused_same (by rw [HCD.out]; exact hz)
    subst e2
    clear hz
    have HRC := Aside0.mk (records_walk HS5.out (by omega) HM1.out.kk)
    go_wp2_with fail
    refine HRC.out.mono ?_
    rintro e w8 ⟨v8, rfl, hR8, hb8⟩
    obtain ⟨P8, q8, rfl, hl8, hC8⟩ := Kd.R_reads hR8
    obtain ⟨P9, q9, he9, hl9, hC9⟩ := Kd.R_reads (Kd.R_below HL5.out hb8)
    injection he9 with e1 e2 e3
    subst e1 e3
    have HSM := Aside0.mk (same_walk w8 P8 AL q8 cL (recsV s1) hC8 hl8 hC9 hl9 HSZ1.out)
    have HB8 : Aside0 (Below w.heap.size w w8) := ⟨HBW5.out.trans (hb8.mono HBW5.out.size)⟩
    clear hR8 hb8 hl8 hC8 hl9 hC9 HRC
    go_wp2_with fail
    refine HSM.out.mono ?_
    rintro e w9 ⟨rfl, hb9⟩
    have HB9 : Aside0 (Below w.heap.size w w9) := ⟨HB8.out.trans (hb9.mono HB8.out.size)⟩
    clear hb9 HSM
    go_wp2_with fail
    go_ret
    exact ⟨rfl, HB9.out⟩
theorem shelfRefuses_walk (w : World) {l : List Rec} {A0 : Option Addr} {c0 : Nat} (hc0 : l.length ≤ c0) (hr0 : Kd.C k26 w A0 l.length l) (g0 : l.length * 120 ≤ 140737488351232 ∧ ∀ r, r ∈ l → okRec r) (r : Rec) {A7 : Option Addr} {c7 : Nat} {A8 : Option Addr} {c8 : Nat} (hl7 : r.f7.length ≤ c7) (h7 : Kd.string.C w A7 r.f7.length r.f7) (hl8 : r.f8.length ≤ c8) (h8 : k57.C w A8 r.f8.length r.f8) (gr : okRec r) :
    Calls Tryz.prog 3 #[.slice A0 l.length c0, .agg #[.int .i64 r.f0, .int .i64 r.f1, .int .i64 r.f2, .int .i64 r.f3, .string r.f4, .string r.f5, .bool r.f6, .slice A7 r.f7.length c7, .slice A8 r.f8.length c8]] w fun e w' => e = .returned (.bool true) ∧ Below w.heap.size w w' :=
  shelfRefuses_core w hr0 (fun r hr => sizesOk_rec (g0.2 r hr)) r (k26_mk w r hl7 h7 hl8 h8) (sizesOk_rec gr)
end Go.Proofs.YtaldfbmjmpkmmaaGreat.PL
