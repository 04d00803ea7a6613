/- Texts of this proof, one behind the other (merged by a program of this session). -/
import Derived.Test.YtaldfbmjmpkmmaaGreatM515a0e
import Derived.Test.YtaldfbmjmpkmmaaGreatMf5ad65
namespace Go.Proofs.YtaldfbmjmpkmmaaGreat.PL
open Go.RowKit Go.Proofs.YtaldfbmjmpkmmaaGreatW.PrintWords Go.Proofs.YtaldfbmjmpkmmaaGreatW.PrintLast Go.Proofs.YtaldfbmjmpkmmaaGreatW.PrintMore Go.Shelf Go.Maps Go.WideMaps Go.Proofs.YtaldfbmjmpkmmaaGreat.Mk
set_option linter.unusedVariables false
set_option linter.unusedSimpArgs false
set_option linter.unusedSectionVars false
theorem recs_sizes {s : Sh} (h : ShOk s) : ∀ r, r ∈ recsV s → sizesOk r := fun r hr => by
  unfold recsV at hr
  rcases List.mem_append.1 hr with hr | hr
  · split at hr
    · rw [List.mem_singleton.1 hr]; simp [sizesOk, sweepR]
    · simp at hr
  · rcases List.mem_append.1 hr with hr | hr
    · unfold recsK at hr
      obtain ⟨p, _, hp⟩ := List.mem_flatMap.1 hr
      obtain ⟨v, _, rfl⟩ := List.mem_map.1 hp
      simp [sizesOk, verR]
    · rcases List.mem_append.1 hr with hr | hr
      · obtain ⟨e, _, rfl⟩ := List.mem_map.1 hr
        simp [sizesOk, doR]
      · have hl := (prep_lists (h.recs r hr).1 (h.recs r hr).2).1
        have h7 := hl.few7
        have h8 := hl.few8
        unfold sizesOk
        omega
/-- A list of one's own stays where others change. -/
theorem R_stays {α : Type} {d : Kd α} {e n m : Nat} {ok : Nat → Prop} {w1 w2 : World} {v : Value} {xs : List α} (h : d.R e w1 n (fun _ => True) v xs) (hm : w1.heap.size = m) (hc : Chg ok w1 w2) (hd : ∀ g, n ≤ g → g < m → ¬ ok g) : d.R e w2 0 (fun _ => True) v xs :=
  Kd.R_mono (R_keep (ok := fun g => n ≤ g ∧ g < m) (Kd.R_lower (Kd.R_mono (Kd.R_bound h) (fun k hk => ⟨hk.2.1, by have := hk.2.2.1; omega⟩)) (Nat.zero_le _)) (fun g hg q _ cells hcc => hc.block g (blk_lt hcc) (hd g hg.1 hg.2))) (fun _ _ => trivial)
set_option maxRecDepth 100000 in
set_option maxHeartbeats 16000000 in
theorem shelfRefuses_core (w : World) {l : List Rec} {A0 : Option Addr} {c0 : Nat} (hr0 : Kd.C k26 w A0 l.length l) (g0 : ∀ r, r ∈ l → sizesOk r) (r : Rec) {A7 : Option Addr} {c7 : Nat} {A8 : Option Addr} {c8 : Nat}
    (hK : k26.K w r [.int .i64 r.f0, .int .i64 r.f1, .int .i64 r.f2, .int .i64 r.f3, .string r.f4, .string r.f5, .bool r.f6, .slice A7 r.f7.length c7, .slice A8 r.f8.length c8]) (hs : sizesOk r) :
    Calls Tryz.prog 3 #[.slice A0 l.length c0, .agg #[.int .i64 r.f0, .int .i64 r.f1, .int .i64 r.f2, .int .i64 r.f3, .string r.f4, .string r.f5, .bool r.f6, .slice A7 r.f7.length c7, .slice A8 r.f8.length c8]] w fun e w' => e = .returned (.bool true) ∧ Below w.heap.size w w' := by
  obtain ⟨w1, hw1⟩ : ∃ w1, w1 = w.alloc (.cells #[.int .i64 r.f0, .int .i64 r.f1, .int .i64 r.f2, .int .i64 r.f3, .string r.f4, .string r.f5, .bool r.f6, .slice A7 r.f7.length c7, .slice A8 r.f8.length c8] 26) := ⟨_, rfl⟩
  have hb1 : Below w.heap.size w w1 := by rw [hw1]; exact below_alloc (Below.refl _ _) _
  have hx1 : w1.heap[w.heap.size]? = some (.cells #[.int .i64 r.f0, .int .i64 r.f1, .int .i64 r.f2, .int .i64 r.f3, .string r.f4, .string r.f5, .bool r.f6, .slice A7 r.f7.length c7, .slice A8 r.f8.length c8] 26 (0, 0)) := by rw [hw1]; exact blk_new _ _
  have hz1 : w.heap.size < w1.heap.size := blk_lt hx1
  have HMD := Aside0.mk (made_walk w1 A0 c0 l (Kd.C_below hr0 hb1) g0)
  have HWK := Aside0.mk works_walk
  have HOK0 := Aside0.mk (madeV_ok l)
  have HM0 := Aside0.mk (more_made l)
  have HK := Aside0.mk hK
  have HSZ := Aside0.mk hs
  have HW1 := Aside0.mk hw1
  have HB1 := Aside0.mk hb1
  have HX1 := Aside0.mk hx1
  have HZ1 := Aside0.mk hz1
  clear hw1 hb1 hx1 hr0 g0 hK hs hz1
  generalize madeV l = s0 at *
  go_enter Tryz.func3, Tryz.ntmps3
  go_wp2_with fail
  rw [← HW1.out]
  refine HMD.out.mono ?_
  rintro e w2 ⟨b, rfl, hs2, hb2⟩
  have HS2 := Aside0.mk hs2
  have HB2 : Aside0 (Below w1.heap.size w1 w2) := ⟨hb2⟩
  clear hs2 hb2 HMD
  go_wp2_with fail
  refine (HWK.out w2).mono ?_
  rintro e w3 ⟨rfl, hb3⟩
  have HB3 : Aside0 (Below w1.heap.size w1 w3) := ⟨HB2.out.trans (hb3.mono HB2.out.size)⟩
  have HS3 := Aside0.mk (HS2.out.below hb3)
  have HRC := Aside0.mk (records_walk (HS2.out.below hb3) (by omega) HM0.out.kk)
  clear hb3 HS2 HB2
  go_wp2_with fail
  refine HRC.out.mono ?_
  rintro e w4 ⟨vL, rfl, hR4, hb4⟩
  obtain ⟨AL, nL, cL, rfl⟩ : ∃ A n c, vL = .slice A n c := by (obtain ⟨A, c, e⟩ := Kd.R_slice hR4); exact ⟨A, _, c, e⟩
  have HB4 : Aside0 (Below w1.heap.size w1 w4) := ⟨HB3.out.trans (hb4.mono HB3.out.size)⟩
  have HS4 : Aside0 (ShAt w4 (fun g => (w1.heap.size ≤ g ∧ g < w3.heap.size) ∨ w4.heap.size ≤ g) b 960 s0) := ⟨(HS3.out.narrow (fun g hg hl => .inl ⟨hg, hl⟩)).below hb4⟩
  have HR4 := Aside0.mk hR4
  have HX4 := Aside0.mk (blk_below HX1.out HB4.out)
  have HK4 := Aside0.mk (k26.K_below (HB1.out.trans (HB4.out.mono HB1.out.size)) HK.out)
  have HAP := Aside0.mk (apply_walk HS4.out HM0.out.el (fun g hg => .inr hg) (by decide) r _ HK4.out HSZ.out)
  clear hR4 hb4 HRC HS3
  generalize hcode : (applyV s0 r).1 = code at *
  generalize hs1 : (applyV s0 r).2 = s1 at *
  have HCD := Aside0.mk hcode
  have HS1 := Aside0.mk hs1
  clear hcode hs1
  have y0 := blk_cell HX4.out 0
  have y1 := blk_cell HX4.out 1
  have y2 := blk_cell HX4.out 2
  have y3 := blk_cell HX4.out 3
  have y4 := blk_cell HX4.out 4
  have y5 := blk_cell HX4.out 5
  have y6 := blk_cell HX4.out 6
  have y7 := blk_cell HX4.out 7
  have y8 := blk_cell HX4.out 8
  go_wp2_with fail
  refine HAP.out.mono ?_
  rintro e w5 ⟨rfl, hs5, hc5⟩
  have HS5 := Aside0.mk hs5
  have HB5 : Aside0 (Below w1.heap.size w1 w5) := ⟨hc5.below HB4.out HB4.out.size (fun g hg => by rcases hg with h | h; exact h.1; exact Nat.le_trans HB4.out.size h)⟩
  have HBW5 : Aside0 (Below w.heap.size w w5) := ⟨HB1.out.trans (HB5.out.mono HB1.out.size)⟩
  have HL5 := Aside0.mk (R_stays HR4.out rfl hc5 (fun g h1 h2 h => by rcases h with h | h <;> omega))
  have HM1 : Aside0 (ShMore s1) := ⟨by rw [← HS1.out]; exact more_apply HOK0.out HM0.out r⟩
  have HOK1 : Aside0 (ShOk s1) := ⟨by rw [← HS1.out]; exact applyV_ok HOK0.out r⟩
  have HSZ1 := Aside0.mk (recs_sizes HOK1.out)
  clear hs5 hc5 HAP HS4 y0 y1 y2 y3 y4 y5 y6 y7 y8
  by_cases hz : code = 0
  · have g5 : (code != 0) = false := by simpa using hz
    have HTW := Aside0.mk (twice HOK0.out HM0.out r (by rw [HCD.out]; exact hz))
    rw [HS1.out] at HTW
    clear hz HL5 HR4
    have HRC := Aside0.mk (records_walk HS5.out (by omega) HM1.out.kk)
    go_wp2_with fail
    refine HRC.out.mono ?_
    rintro e w6 ⟨vK, rfl, hR6, hb6⟩
    obtain ⟨AL, nL, cL, rfl⟩ : ∃ A n c, vK = .slice A n c := by (obtain ⟨A, c, e⟩ := Kd.R_slice hR6); exact ⟨A, _, c, e⟩
    have HB6 : Aside0 (Below w1.heap.size w1 w6) := ⟨HB5.out.trans (hb6.mono HB5.out.size)⟩
    have HS6 : Aside0 (ShAt w6 (fun g => (w1.heap.size ≤ g ∧ g < w5.heap.size) ∨ w6.heap.size ≤ g) b 976 s1) := ⟨(HS5.out.narrow (fun g hg hl => .inl ⟨by rcases hg with h | h; exact h.1; exact Nat.le_trans HB4.out.size h, hl⟩)).below hb6⟩
    have HX6 := Aside0.mk (blk_below HX1.out HB6.out)
    have HK6 := Aside0.mk (k26.K_below (HB1.out.trans (HB6.out.mono HB1.out.size)) HK.out)
    have HAP := Aside0.mk (apply_walk HS6.out HM1.out.el (fun g hg => .inr hg) (by decide) r _ HK6.out HSZ.out)
    have HR6 := Aside0.mk hR6
    have HSAME : Aside0 ((applyV s1 r).1 ≠ 0 → (applyV s1 r).2 = s1) := ⟨fun h => refused_same h⟩
    clear hR6 hb6 HRC HS5
    generalize hf : (applyV s1 r).1 = f at *
    generalize hs2 : (applyV s1 r).2 = s2 at *
    have HS2E := Aside0.mk hs2
    have HFE := Aside0.mk hf
    clear hf hs2
    have y0 := blk_cell HX6.out 0
    have y1 := blk_cell HX6.out 1
    have y2 := blk_cell HX6.out 2
    have y3 := blk_cell HX6.out 3
    have y4 := blk_cell HX6.out 4
    have y5 := blk_cell HX6.out 5
    have y6 := blk_cell HX6.out 6
    have y7 := blk_cell HX6.out 7
    have y8 := blk_cell HX6.out 8
    go_wp2_with fail
    refine HAP.out.mono ?_
    rintro e w7 ⟨rfl, hs7, hc7⟩
    have HB7 : Aside0 (Below w1.heap.size w1 w7) := ⟨hc7.below HB6.out HB6.out.size (fun g hg => by rcases hg with h | h; exact h.1; exact Nat.le_trans HB6.out.size h)⟩
    have HBW7 : Aside0 (Below w.heap.size w w7) := ⟨HB1.out.trans (HB7.out.mono HB1.out.size)⟩
    have HL7 := Aside0.mk (R_stays HR6.out rfl hc7 (fun g h1 h2 h => by rcases h with h | h <;> omega))
    have HX7 := Aside0.mk (blk_below HX1.out HB7.out)
    have HS7 := Aside0.mk hs7
    clear hs7 hc7 HAP HS6 HR6 y0 y1 y2 y3 y4 y5 y6 y7 y8
    have y0 := blk_cell HX7.out 0
    by_cases k4 : r.f0 = 4
    · have b4 : (r.f0 == 4) = true := by simpa using k4
      have h4 := HTW.out.1 k4
      have e1 : f = 0 := by rw [← HFE.out, h4]
      have e2 : s2 = s1 := by rw [← HS2E.out, h4]
      subst e1 e2
      clear k4 h4 HTW
      have HRC := Aside0.mk (records_walk HS7.out (by omega) HM1.out.kk)
      go_wp2_with fail
      refine HRC.out.mono ?_
      rintro e w8 ⟨v8, rfl, hR8, hb8⟩
      obtain ⟨P8, q8, rfl, hl8, hC8⟩ := Kd.R_reads hR8
      obtain ⟨P9, q9, he9, hl9, hC9⟩ := Kd.R_reads (Kd.R_below HL7.out hb8)
      injection he9 with e1 e2 e3
      subst e1 e3
      have HSM := Aside0.mk (same_walk w8 P8 AL q8 cL (recsV s2) hC8 hl8 hC9 hl9 HSZ1.out)
      have HB8 : Aside0 (Below w.heap.size w w8) := ⟨HBW7.out.trans (hb8.mono HBW7.out.size)⟩
      clear hR8 hb8 hl8 hC8 hl9 hC9 HRC
      go_wp2_with fail
      refine HSM.out.mono ?_
      rintro e w9 ⟨rfl, hb9⟩
      have HB9 : Aside0 (Below w.heap.size w w9) := ⟨HB8.out.trans (hb9.mono HB8.out.size)⟩
      clear hb9 HSM
      go_wp2_with fail
      go_ret
      exact ⟨rfl, HB9.out⟩
    have b4 : (r.f0 == 4) = false := by simpa using k4
    by_cases k1 : r.f0 = 1
    · have b1 : (r.f0 == 1) = true := by simpa using k1
      have e1 : f = 6 := by exact HTW.out.2.1 (.inl k1)
      have e2 : s2 = s1 := HSAME.out (by rw [e1]; decide)
      subst e1 e2
      clear k4 k1 HTW
      have HRC := Aside0.mk (records_walk HS7.out (by omega) HM1.out.kk)
      go_wp2_with fail
      refine HRC.out.mono ?_
      rintro e w8 ⟨v8, rfl, hR8, hb8⟩
      obtain ⟨P8, q8, rfl, hl8, hC8⟩ := Kd.R_reads hR8
      obtain ⟨P9, q9, he9, hl9, hC9⟩ := Kd.R_reads (Kd.R_below HL7.out hb8)
      injection he9 with e1 e2 e3
      subst e1 e3
      have HSM := Aside0.mk (same_walk w8 P8 AL q8 cL (recsV s2) hC8 hl8 hC9 hl9 HSZ1.out)
      have HB8 : Aside0 (Below w.heap.size w w8) := ⟨HBW7.out.trans (hb8.mono HBW7.out.size)⟩
      clear hR8 hb8 hl8 hC8 hl9 hC9 HRC
      go_wp2_with fail
      refine HSM.out.mono ?_
      rintro e w9 ⟨rfl, hb9⟩
      have HB9 : Aside0 (Below w.heap.size w w9) := ⟨HB8.out.trans (hb9.mono HB8.out.size)⟩
      clear hb9 HSM
      go_wp2_with fail
      go_ret
      exact ⟨rfl, HB9.out⟩
    have b1 : (r.f0 == 1) = false := by simpa using k1
    by_cases k2 : r.f0 = 2
    · have b2 : (r.f0 == 2) = true := by simpa using k2
      have e1 : f = 6 := by exact HTW.out.2.1 (.inr k2)
      have e2 : s2 = s1 := HSAME.out (by rw [e1]; decide)
      subst e1 e2
      clear k4 k1 k2 HTW
      have HRC := Aside0.mk (records_walk HS7.out (by omega) HM1.out.kk)
      go_wp2_with fail
      refine HRC.out.mono ?_
      rintro e w8 ⟨v8, rfl, hR8, hb8⟩
      obtain ⟨P8, q8, rfl, hl8, hC8⟩ := Kd.R_reads hR8
      obtain ⟨P9, q9, he9, hl9, hC9⟩ := Kd.R_reads (Kd.R_below HL7.out hb8)
      injection he9 with e1 e2 e3
      subst e1 e3
      have HSM := Aside0.mk (same_walk w8 P8 AL q8 cL (recsV s2) hC8 hl8 hC9 hl9 HSZ1.out)
      have HB8 : Aside0 (Below w.heap.size w w8) := ⟨HBW7.out.trans (hb8.mono HBW7.out.size)⟩
      clear hR8 hb8 hl8 hC8 hl9 hC9 HRC
      go_wp2_with fail
      refine HSM.out.mono ?_
      rintro e w9 ⟨rfl, hb9⟩
      have HB9 : Aside0 (Below w.heap.size w w9) := ⟨HB8.out.trans (hb9.mono HB8.out.size)⟩
      clear hb9 HSM
      go_wp2_with fail
      go_ret
      exact ⟨rfl, HB9.out⟩
    have b2 : (r.f0 == 2) = false := by simpa using k2
    have e1 : f = 110 := by exact HTW.out.2.2 k4 k1 k2
    have e2 : s2 = s1 := HSAME.out (by rw [e1]; decide)
    subst e1 e2
    clear k4 k1 k2 HTW
    have HRC := Aside0.mk (records_walk HS7.out (by omega) HM1.out.kk)
    go_wp2_with fail
    refine HRC.out.mono ?_
    rintro e w8 ⟨v8, rfl, hR8, hb8⟩
    obtain ⟨P8, q8, rfl, hl8, hC8⟩ := Kd.R_reads hR8
    obtain ⟨P9, q9, he9, hl9, hC9⟩ := Kd.R_reads (Kd.R_below HL7.out hb8)
    injection he9 with e1 e2 e3
    subst e1 e3
    have HSM := Aside0.mk (same_walk w8 P8 AL q8 cL (recsV s2) hC8 hl8 hC9 hl9 HSZ1.out)
    have HB8 : Aside0 (Below w.heap.size w w8) := ⟨HBW7.out.trans (hb8.mono HBW7.out.size)⟩
    clear hR8 hb8 hl8 hC8 hl9 hC9 HRC
    go_wp2_with fail
    refine HSM.out.mono ?_
    rintro e w9 ⟨rfl, hb9⟩
    have HB9 : Aside0 (Below w.heap.size w w9) := ⟨HB8.out.trans (hb9.mono HB8.out.size)⟩
    clear hb9 HSM
    go_wp2_with fail
    go_ret
    exact ⟨rfl, HB9.out⟩
  · have g5 : (code != 0) = true := by simpa using hz
    have e2 : s1 = s0 := by rw [← HS1.out]; exact refused_same (by rw [HCD.out]; exact hz)
    subst e2
    clear hz
    have HRC := Aside0.mk (records_walk HS5.out (by omega) HM1.out.kk)
    go_wp2_with fail
    refine HRC.out.mono ?_
    rintro e w8 ⟨v8, rfl, hR8, hb8⟩
    obtain ⟨P8, q8, rfl, hl8, hC8⟩ := Kd.R_reads hR8
    obtain ⟨P9, q9, he9, hl9, hC9⟩ := Kd.R_reads (Kd.R_below HL5.out hb8)
    injection he9 with e1 e2 e3
    subst e1 e3
    have HSM := Aside0.mk (same_walk w8 P8 AL q8 cL (recsV s1) hC8 hl8 hC9 hl9 HSZ1.out)
    have HB8 : Aside0 (Below w.heap.size w w8) := ⟨HBW5.out.trans (hb8.mono HBW5.out.size)⟩
    clear hR8 hb8 hl8 hC8 hl9 hC9 HRC
    go_wp2_with fail
    refine HSM.out.mono ?_
    rintro e w9 ⟨rfl, hb9⟩
    have HB9 : Aside0 (Below w.heap.size w w9) := ⟨HB8.out.trans (hb9.mono HB8.out.size)⟩
    clear hb9 HSM
    go_wp2_with fail
    go_ret
    exact ⟨rfl, HB9.out⟩
theorem shelfRefuses_walk (w : World) {l : List Rec} {A0 : Option Addr} {c0 : Nat} (hc0 : l.length ≤ c0) (hr0 : Kd.C k26 w A0 l.length l) (g0 : l.length * 120 ≤ 140737488351232 ∧ ∀ r, r ∈ l → okRec r) (r : Rec) {A7 : Option Addr} {c7 : Nat} {A8 : Option Addr} {c8 : Nat} (hl7 : r.f7.length ≤ c7) (h7 : Kd.string.C w A7 r.f7.length r.f7) (hl8 : r.f8.length ≤ c8) (h8 : k57.C w A8 r.f8.length r.f8) (gr : okRec r) :
    Calls Tryz.prog 3 #[.slice A0 l.length c0, .agg #[.int .i64 r.f0, .int .i64 r.f1, .int .i64 r.f2, .int .i64 r.f3, .string r.f4, .string r.f5, .bool r.f6, .slice A7 r.f7.length c7, .slice A8 r.f8.length c8]] w fun e w' => e = .returned (.bool true) ∧ Below w.heap.size w w' :=
  shelfRefuses_core w hr0 (fun r hr => sizesOk_rec (g0.2 r hr)) r (k26_mk w r hl7 h7 hl8 h8) (sizesOk_rec gr)
end Go.Proofs.YtaldfbmjmpkmmaaGreat.PL
namespace Go.Proofs.YtaldfbmjmpkmmaaGreat.PL
open Go.RowKit Go.Proofs.YtaldfbmjmpkmmaaGreatW.PrintWords Go.Proofs.YtaldfbmjmpkmmaaGreatW.PrintLast Go.Proofs.YtaldfbmjmpkmmaaGreatW.PrintMore Go.Shelf Go.Maps Go.WideMaps Go.Proofs.YtaldfbmjmpkmmaaGreat.Mk Go.Proofs.YtaldfbmjmpkmmaaGreat.Read
set_option linter.unusedVariables false
set_option linter.unusedSimpArgs false
set_option linter.unusedSectionVars false
attribute [local go_sem high] eqA43
theorem mapL_tight {P : Program} {k : TypeId} {w : World} {b n : Nat} {f : Lit → Option Value} (h : MapL P k w b n f) (K : Keyed P k) (ks : List Lit) (hd : ks.Nodup) (hk : ∀ q, (f q).isSome = true ↔ q ∈ ks) : MapL P k w b ks.length f := by
  obtain ⟨D, ho, hs⟩ := h.size K ks hd hk
  obtain ⟨D2, ho2, h2, h3⟩ := h
  have hD : D2 = D := by
    obtain ⟨es, clock, hb, F, _, e⟩ := ho
    obtain ⟨es2, clock2, hb2, F2, _, e2⟩ := ho2
    rw [hb] at hb2
    injection hb2 with hb2
    injection hb2 with h1 _
    subst h1
    rw [e, e2]
  subst hD
  obtain ⟨es, clock, hb, F, hn, e⟩ := ho2
  have hl := World.ownsMap.size_le (n := es.size) (w := w) (P := P) (k := k) (R := Rv) (b := b) ⟨es, clock, hb, F, Nat.le_refl _, e⟩
  have hsz : es.size = ks.length := by
    rw [← hs, e]
    simp [Maps.size, length_sorted]
  exact ⟨_, ⟨es, clock, hb, F, by omega, e⟩, h2, h3⟩
theorem ShAt.tight {w : World} {ok : Nat → Prop} {b N : Nat} {s : Sh} (h : ShAt w ok b N s) : ShAt w ok b 1024 s := by
  obtain ⟨bk, bp, ve, fk, fp, hp⟩ := h
  have h1 := mapL_tight hp.keys keyedS _ hp.keys_nodup hp.keys_iff
  have h2 := mapL_tight hp.preps keyedI _ hp.preps_nodup hp.preps_iff
  have l1 : ((keysK s.K).map sk).length ≤ 1024 := by have := hp.good.keys.few; simpa [keysK] using this
  have l2 : (s.P.map (fun r => ik r.f1)).length ≤ 1024 := by have := hp.good.few; simpa using this
  exact ⟨bk, bp, ve, fk, fp, hp.box, h1.mono l1, h2.mono l2, hp.ends, hp.kf, hp.kt, hp.pf, hp.pt, hp.okb, hp.okk, hp.okp, hp.ne, hp.good⟩
theorem bel_trans {a b c : World} (h : Below a.heap.size a b) (hq : Below b.heap.size b c) : Below a.heap.size a c := h.trans (hq.mono h.size)
theorem bel_set3 {a q : World} {n g : Nat} (h : Below n a q) (hg : n ≤ g) (x y z : Value) : Below n a (((q.setCell ⟨g, 0, none⟩ x).setCell ⟨g, 1, none⟩ y).setCell ⟨g, 2, none⟩ z) := ((h.setCell hg _).setCell hg _).setCell hg _
theorem runs_few : ∀ (l : List Rec) {s t : Sh}, s.E.length ≤ 1024 → runs s l = some t → t.E.length ≤ 1024
  | [], s, t, h, e => by
    have : s = t := Option.some.inj e
    rw [← this]
    exact h
  | r :: l, s, t, h, e => by
    have e' : (if (applyV s r).1 = 0 then runs (applyV s r).2 l else none) = some t := e
    split at e'
    · exact runs_few l (applyV_ends h r) e'
    · cases e'
theorem runs_step {s t : Sh} {r : Rec} {l : List Rec} (h : runs s (r :: l) = some t) : (applyV s r).1 = 0 ∧ runs (applyV s r).2 l = some t := by
  have e' : (if (applyV s r).1 = 0 then runs (applyV s r).2 l else none) = some t := h
  split at e'
  · exact ⟨by assumption, e'⟩
  · cases e'
set_option maxRecDepth 100000 in
theorem swept_walk {w : World} {ok : Nat → Prop} {b N : Nat} {s : Sh} (h : ShAt w ok b N s) : Calls Tryz.prog 15 #[.pointer (some ⟨b, 0, none⟩)] w fun e w' => e = .returned (.int .i64 s.over) ∧ w' = w := by
  obtain ⟨bk, bp, ve, fk, fp, hp⟩ := h
  obtain ⟨c0, c1, c2, c3⟩ := hp.cells
  clear hp
  go_enter Tryz.func15, Tryz.ntmps15
  go_wp2
  go_ret
  exact ⟨rfl, rfl⟩
set_option maxRecDepth 100000 in
set_option maxHeartbeats 16000000 in
theorem shelfAgain_core (w : World) {l : List Rec} {A0 : Option Addr} {c0 : Nat} (hr0 : Kd.C k26 w A0 l.length l) (g0 : ∀ r, r ∈ l → sizesOk r) (keys : List ByteArray) {AK : Option Addr} {cK : Nat} (hk : Kd.C Kd.string w AK keys.length keys) (gk : ∀ k ∈ keys, k.size ≤ maxLen)
    {AX : Option Addr} {nX cX : Nat} (times : List Int) {AT : Option Addr} {cT : Nat} (ht : Kd.C (Kd.int .i64) w AT times.length times) :
    Calls Tryz.prog 4 #[.slice A0 l.length c0, .agg #[.slice AK keys.length cK, .slice AX nX cX, .slice AT times.length cT]] w fun e w' => e = .returned (.bool true) ∧ Below w.heap.size w w' := by
  have hmk := Kd.C_max hk
  have hmt := Kd.C_max ht
  obtain ⟨w1, hw1⟩ : ∃ w1, w1 = w.alloc (.cells #[.slice AK keys.length cK, .slice AX nX cX, .slice AT times.length cT] 37) := ⟨_, rfl⟩
  have hb1 : Below w.heap.size w w1 := by rw [hw1]; exact below_alloc (Below.refl _ _) _
  have hx1 : w1.heap[w.heap.size]? = some (.cells #[.slice AK keys.length cK, .slice AX nX cX, .slice AT times.length cT] 37 (0, 0)) := by rw [hw1]; exact blk_new _ _
  have HMD := Aside0.mk (made_walk w1 A0 c0 l (Kd.C_below hr0 hb1) g0)
  have HWK := Aside0.mk works_walk
  have HOK0 := Aside0.mk (madeV_ok l)
  have HM0 := Aside0.mk (more_made l)
  have HKC := Aside0.mk (And.intro hk gk)
  have HTC := Aside0.mk ht
  have HW1 := Aside0.mk hw1
  have HB1 := Aside0.mk hb1
  have HX1 := Aside0.mk hx1
  have HZ1 := Aside0.mk (blk_lt hx1)
  clear hw1 hb1 hx1 hr0 g0 hk gk ht
  generalize madeV l = s0 at *
  have HRUN := Aside0.mk (runs_again HOK0.out HM0.out)
  have HLN := Aside0.mk (recs_len HOK0.out)
  have HSZ0 := Aside0.mk (recs_sizes HOK0.out)
  go_enter Tryz.func4, Tryz.ntmps4
  go_wp2_with fail
  rw [← HW1.out]
  refine HMD.out.mono ?_
  rintro e w2 ⟨b, rfl, hs2, hb2⟩
  have HS2 : Aside0 (ShAt w2 (fun g => g < w2.heap.size) b 960 s0) := ⟨hs2.narrow (fun g _ hl => hl)⟩
  have HB2 : Aside0 (Below w1.heap.size w1 w2) := ⟨hb2⟩
  clear hs2 hb2 HMD
  go_wp2_with fail
  refine (new_walk w2).mono ?_
  rintro e w3 ⟨b2, rfl, hs3, hb3⟩
  have HT3 : Aside0 (ShAt w3 (fun g => w2.heap.size ≤ g ∧ g < w3.heap.size) b2 0 sh0) := ⟨hs3.narrow (fun g hg hl => ⟨hg, hl⟩)⟩
  have HS3 := Aside0.mk (HS2.out.below hb3)
  have HB3 : Aside0 (Below w1.heap.size w1 w3) := ⟨HB2.out.trans (hb3.mono HB2.out.size)⟩
  have HZ3 : Aside0 (w2.heap.size ≤ w3.heap.size) := ⟨hb3.size⟩
  clear hs3 hb3 HS2
  go_wp2_with fail
  refine (HWK.out w3).mono ?_
  rintro e w4 ⟨rfl, hb4⟩
  have HT4 := Aside0.mk (HT3.out.below hb4)
  have HS4 := Aside0.mk (HS3.out.below hb4)
  have HB4 : Aside0 (Below w1.heap.size w1 w4) := ⟨HB3.out.trans (hb4.mono HB3.out.size)⟩
  have HZ4 : Aside0 (w3.heap.size ≤ w4.heap.size) := ⟨hb4.size⟩
  have HRC := Aside0.mk (records_walk HS4.out (by omega) HM0.out.kk)
  clear hb4 HT3 HS3
  go_wp2_with fail
  refine HRC.out.mono ?_
  rintro e w5 ⟨vL, rfl, hR5, hb5⟩
  obtain ⟨AL, cL, rfl⟩ := Kd.R_slice hR5
  have HT5 : Aside0 (ShAt w5 (fun g => (w2.heap.size ≤ g ∧ g < w3.heap.size) ∨ w5.heap.size ≤ g) b2 0 sh0) := ⟨(HT4.out.narrow (fun g hg _ => .inl hg)).below hb5⟩
  have HS5 := Aside0.mk (HS4.out.below hb5)
  have HB5 : Aside0 (Below w1.heap.size w1 w5) := ⟨HB4.out.trans (hb5.mono HB4.out.size)⟩
  have HZ5 : Aside0 (w4.heap.size ≤ w5.heap.size) := ⟨hb5.size⟩
  have HL5 : Aside0 (Kd.R k26 26 w5 0 (fun g => w4.heap.size ≤ g ∧ g < w5.heap.size) (.slice AL (recsV s0).length cL) (recsV s0)) := ⟨Kd.R_lower (Kd.R_mono (Kd.R_bound hR5) (fun k hk => ⟨hk.2.1, hk.2.2.1⟩)) (Nat.zero_le _)⟩
  clear hR5 hb5 HRC HT4 HS4
  generalize hL : recsV s0 = L at *
  have HLE := Aside0.mk hL
  clear hL
  have hl2 := HLN.out
  go_wp2_with fail
  go_loopw [33] (fun i wr => ∃ (k : Nat) (u : Sh), k ≤ L.length ∧ i = .int .i64 (k : Int) ∧ Aside0 (runs u (L.drop k) = some s0 ∧ u.E.length ≤ 1024) ∧ Aside0 (ShAt wr (fun g => (w2.heap.size ≤ g ∧ g < w3.heap.size) ∨ w5.heap.size ≤ g) b2 (16 * k) u) ∧ Aside0 (ShAt wr (fun g => g < w2.heap.size) b 960 s0) ∧
      Aside0 (Kd.R k26 26 wr 0 (fun g => w4.heap.size ≤ g ∧ g < w5.heap.size) (.slice AL L.length cL) L) ∧ Aside0 (Below w1.heap.size w1 wr ∧ w5.heap.size ≤ wr.heap.size)) (fun i _ => L.length - (intOf i).toNat)
  case atStart => exact ⟨0, sh0, Nat.zero_le _, rfl, ⟨HRUN.out, by simp [sh0]⟩, HT5, HS5, HL5, ⟨HB5.out, Nat.le_refl _⟩⟩
  case round =>
    clear HT5 HS5 HL5 HB5 HRUN
    obtain ⟨k, u, hk, rfl, HRU, HT, HS, HL, HB⟩ := hrel
    by_cases hlt : k < L.length
    · obtain ⟨A', c', he, hle', hC'⟩ := Kd.R_reads HL.out
      injection he with e1 e2 e3
      subst e1 e3
      clear e2
      obtain ⟨ad, cs, rfl, hlen, hK, hc0⟩ := Kd.C_get hC' (⟨0, 0, 0, 0, ⟨#[]⟩, ⟨#[]⟩, false, [], []⟩ : Rec) (k : Int) (by omega) (by omega)
      rw [Int.toNat_natCast] at hK hc0
      have hget : L.getD k (⟨0, 0, 0, 0, ⟨#[]⟩, ⟨#[]⟩, false, [], []⟩ : Rec) = L[k] := by simp [List.getElem?_eq_getElem hlt]
      rw [hget] at hK
      have hmem : L[k] ∈ L := List.getElem_mem _
      have hdrop : L.drop k = L[k] :: L.drop (k + 1) := List.drop_eq_getElem_cons hlt
      have hru := HRU.out.1
      rw [hdrop] at hru
      generalize L[k] = r at *
      have hK0 := hK
      obtain ⟨A7, c7, A8, c8, rfl, l7, g7, l8, g8⟩ := k26_open hK
      have hc : ∀ j u, [Value.int .i64 r.f0, .int .i64 r.f1, .int .i64 r.f2, .int .i64 r.f3, .string r.f4, .string r.f5, .bool r.f6, .slice A7 r.f7.length c7, .slice A8 r.f8.length c8][j]? = some u → wr.cell? (ad.add (k * 9 + j)) = some u := hc0
      have z0 : wr.cell? (ad.add (k * 9)) = some (.int .i64 r.f0) := hc 0 _ rfl
      have z1 : wr.cell? ⟨(ad.add (k * 9)).block, (ad.add (k * 9)).off + 1, none⟩ = some (.int .i64 r.f1) := by rw [← add_field _ _ 1 (by omega)]; exact hc 1 _ rfl
      have z2 : wr.cell? ⟨(ad.add (k * 9)).block, (ad.add (k * 9)).off + 2, none⟩ = some (.int .i64 r.f2) := by rw [← add_field _ _ 2 (by omega)]; exact hc 2 _ rfl
      have z3 : wr.cell? ⟨(ad.add (k * 9)).block, (ad.add (k * 9)).off + 3, none⟩ = some (.int .i64 r.f3) := by rw [← add_field _ _ 3 (by omega)]; exact hc 3 _ rfl
      have z4 : wr.cell? ⟨(ad.add (k * 9)).block, (ad.add (k * 9)).off + 4, none⟩ = some (.string r.f4) := by rw [← add_field _ _ 4 (by omega)]; exact hc 4 _ rfl
      have z5 : wr.cell? ⟨(ad.add (k * 9)).block, (ad.add (k * 9)).off + 5, none⟩ = some (.string r.f5) := by rw [← add_field _ _ 5 (by omega)]; exact hc 5 _ rfl
      have z6 : wr.cell? ⟨(ad.add (k * 9)).block, (ad.add (k * 9)).off + 6, none⟩ = some (.bool r.f6) := by rw [← add_field _ _ 6 (by omega)]; exact hc 6 _ rfl
      have z7 : wr.cell? ⟨(ad.add (k * 9)).block, (ad.add (k * 9)).off + 7, none⟩ = some (.slice A7 r.f7.length c7) := by rw [← add_field _ _ 7 (by omega)]; exact hc 7 _ rfl
      have z8 : wr.cell? ⟨(ad.add (k * 9)).block, (ad.add (k * 9)).off + 8, none⟩ = some (.slice A8 r.f8.length c8) := by rw [← add_field _ _ 8 (by omega)]; exact hc 8 _ rfl
      obtain ⟨hst1, hst2⟩ := runs_step hru
      obtain ⟨wz, hwz⟩ : ∃ wz, wz = wr.alloc (.cells #[.int .i64 r.f0, .int .i64 r.f1, .int .i64 r.f2, .int .i64 r.f3, .string r.f4, .string r.f5, .bool r.f6, .slice A7 r.f7.length c7, .slice A8 r.f8.length c8] 26) := ⟨_, rfl⟩
      have hbz : Below wr.heap.size wr wz := by rw [hwz]; exact below_alloc (Below.refl _ _) _
      have HBZ : Aside0 (Below w1.heap.size w1 wz ∧ w5.heap.size ≤ wz.heap.size) := ⟨HB.out.1.trans (hbz.mono HB.out.1.size), Nat.le_trans HB.out.2 hbz.size⟩
      have hap := apply_walk (HT.out.below hbz) HRU.out.2 (fun g hg => .inr (Nat.le_trans HBZ.out.2 hg)) (Nat.lt_of_le_of_lt (show 16 * k + 1024 ≤ 32001024 by have := HLN.out; omega) (by decide)) r _ (k26.K_below hbz hK0) (HSZ0.out r hmem)
      rw [hst1] at hap
      have HAP := Aside0.mk hap
      have HSN := Aside0.mk (And.intro hst2 (applyV_ends HRU.out.2 r))
      have HSZ := Aside0.mk (HS.out.below hbz)
      have HLZ := Aside0.mk (Kd.R_below HL.out hbz)
      have HWZ := Aside0.mk hwz
      have HZ0 : Aside0 (w1.heap.size ≤ w2.heap.size) := ⟨HB2.out.size⟩
      clear hwz hbz hap hmem hK0 hc hc0 hK l7 g7 l8 g8 hget hlen hdrop hru hst1 hst2 hC' hle' HRU HT HS HL HB
      generalize (applyV u r).2 = u2 at *
      go_wp2_with fail
      rw [← HWZ.out]
      refine HAP.out.mono ?_
      rintro e w6 ⟨rfl, ht6, hc6⟩
      have HT6 : Aside0 (ShAt w6 (fun g => (w2.heap.size ≤ g ∧ g < w3.heap.size) ∨ w5.heap.size ≤ g) b2 (16 * (k + 1)) u2) := ⟨ht6⟩
      have HS6 := Aside0.mk (HSZ.out.apart hc6 (fun g h1 h => by rcases h with h | h; omega; have := HZ3.out; have := HZ4.out; have := HZ5.out; omega))
      have HL6 : Aside0 (Kd.R k26 26 w6 0 (fun g => w4.heap.size ≤ g ∧ g < w5.heap.size) (.slice (some ad) L.length cL) L) := ⟨R_keep HLZ.out (fun g hg q _ cells hcc => hc6.block g (blk_lt hcc) (fun h => by have := HZ4.out; have := HZ5.out; rcases h with h | h <;> omega))⟩
      have HB6 : Aside0 (Below w1.heap.size w1 w6 ∧ w5.heap.size ≤ w6.heap.size) := ⟨hc6.below HBZ.out.1 HBZ.out.1.size (fun g h => by have := HZ0.out; have := HZ3.out; have := HZ4.out; have := HZ5.out; have := HBZ.out.2; rcases h with h | h <;> omega), Nat.le_trans HBZ.out.2 hc6.size⟩
      clear ht6 hc6 HAP z0 z1 z2 z3 z4 z5 z6 z7 z8
      go_wp2_with fail
      go_roundw
      case rel => exact ⟨k + 1, u2, by omega, by go_num, HSN, HT6, HS6, HL6, HB6⟩
      case measure => simp [intOf]; omega
    · obtain rfl : k = L.length := by omega
      have hus : u = s0 := by
        have h := HRU.out.1
        rw [List.drop_length] at h
        exact Option.some.inj h
      subst hus
      have HT1 := Aside0.mk (HT.out.tight)
      have HRC := Aside0.mk (records_walk HT1.out (by omega) HM0.out.kk)
      have HTW : Aside0 (Below w.heap.size w wr) := ⟨HB1.out.trans (HB.out.1.mono HB1.out.size)⟩
      clear HT HRU hlt
      rw [HLE.out] at HRC
      go_wp2_with fail
      refine HRC.out.mono ?_
      rintro e w6 ⟨v6, rfl, hR6, hb6⟩
      obtain ⟨A6, q6, rfl, hl6, hC6⟩ := Kd.R_reads hR6
      obtain ⟨P9, q9, he9, hl9, hC9⟩ := Kd.R_reads (Kd.R_below HL.out hb6)
      injection he9 with e1 e2 e3
      subst e1 e3
      clear e2
      have HSM := Aside0.mk (same_walk w6 A6 AL q6 cL L hC6 hl6 hC9 hl9 HSZ0.out)
      have HB6 : Aside0 (Below wr.heap.size wr w6) := ⟨hb6⟩
      clear hR6 hb6 hl6 hC6 hl9 hC9 HRC
      go_wp2_with fail
      refine HSM.out.mono ?_
      rintro e w7 ⟨rfl, hb7⟩
      have HB7 : Aside0 (Below wr.heap.size wr w7) := ⟨HB6.out.trans (hb7.mono HB6.out.size)⟩
      have HOP := Aside0.mk (open_walk (HT1.out.below HB7.out) (by omega))
      clear hb7 HSM HB6
      go_wp2_with fail
      refine HOP.out.mono ?_
      rintro e w8 ⟨v8, rfl, hR8, hb8⟩
      have HB8 : Aside0 (Below wr.heap.size wr w8) := ⟨HB7.out.trans (hb8.mono HB7.out.size)⟩
      have HR8 := Aside0.mk hR8
      have HOP := Aside0.mk (open_walk (HS.out.below HB8.out) (by omega))
      obtain ⟨A8, n8, q8, rfl⟩ : ∃ A n c, v8 = .slice A n c := by (obtain ⟨A, c, e⟩ := Kd.R_slice hR8); exact ⟨A, _, c, e⟩
      clear hb8 hR8 HB7
      go_wp2_with fail
      refine HOP.out.mono ?_
      rintro e w9 ⟨v9, rfl, hR9, hb9⟩
      have HB9 : Aside0 (Below wr.heap.size wr w9) := ⟨HB8.out.trans (hb9.mono HB8.out.size)⟩
      obtain ⟨A9, q9, rfl, hl9, hC9⟩ := Kd.R_reads hR9
      obtain ⟨P8, p8, he8, hl8, hC8⟩ := Kd.R_reads (Kd.R_below HR8.out hb9)
      injection he8 with e1 e2 e3
      subst e1 e2 e3
      have HSI := Aside0.mk (sameInts_walk w9 A8 A9 q8 q9 (openV u) hC8 hl8 hC9 hl9)
      clear hR9 hb9 hl9 hC9 hl8 hC8 HOP HR8 HB8
      go_wp2_with fail
      refine HSI.out.mono ?_
      rintro e w10 ⟨rfl, hb10⟩
      have HB10 : Aside0 (Below wr.heap.size wr w10) := ⟨HB9.out.trans (hb10.mono HB9.out.size)⟩
      have HW1 := Aside0.mk (swept_walk (HT1.out.below HB10.out))
      have HW2 := Aside0.mk (swept_walk (HS.out.below HB10.out))
      clear hb10 HSI HB9
      go_wp2_with fail
      refine HW1.out.mono ?_
      rintro e w11 ⟨rfl, rfl⟩
      go_wp2_with fail
      refine HW2.out.mono ?_
      rintro e w11 ⟨rfl, rfl⟩
      clear HW1 HW2
      go_wp2_with fail
      obtain ⟨W0, hW0⟩ : ∃ W0, W0 = wr := ⟨_, rfl⟩
      subst hW0
      have HB0 := Aside0.mk HB10.out
      have HTT := Aside0.mk HT1.out
      have HSS := Aside0.mk HS.out
      have HX0 := Aside0.mk (blk_below HX1.out HB.out.1)
      have HW0 := Aside0.mk HTW.out
      clear HB10 HT1 HS HL HB HTW HLN HSZ0 HLE HOK0 HM0 HWK HB2 HB3 HB4 HZ3 HZ4 HZ5 hl2 HX1
      go_loopw [10] (fun v10 wz => ∃ i : Nat, i ≤ keys.length ∧ i ≤ 8 ∧ v10 = .int .i64 (i : Int) ∧ Aside0 (Below W0.heap.size W0 wz)) (fun v10 _ => keys.length - (intOf v10).toNat)
      case atStart => exact ⟨0, Nat.zero_le _, Nat.zero_le _, rfl, HB0⟩
      case round =>
        clear HB0
        obtain ⟨i, hi, hi8, rfl, HB⟩ := hrel
        have x0 := blk_cell (blk_below HX0.out HB.out) 0
        by_cases hik : i < keys.length ∧ i < 8
        · obtain ⟨hik, hik8⟩ := hik
          go_wp2_with fail
          clear x0
          have e8i : decide ((i : Int) < 8) = true := decide_eq_true (by omega)
          simp only [e8i]
          clear e8i
          go_loopw [11] (fun v11 wz => ∃ j : Nat, j ≤ times.length ∧ j ≤ 8 ∧ v11 = .int .i64 (j : Int) ∧ Aside0 (Below W0.heap.size W0 wz)) (fun v11 _ => times.length - (intOf v11).toNat)
          case atStart => exact ⟨0, Nat.zero_le _, Nat.zero_le _, rfl, HB⟩
          case round =>
            clear HB
            obtain ⟨j, hj, hj8, rfl, HB⟩ := hrel
            have hxb := blk_below HX0.out HB.out
            have x0 := blk_cell hxb 0
            have x2 := blk_cell hxb 2
            by_cases hjt : j < times.length ∧ j < 8
            · obtain ⟨hjt, hjt8⟩ := hjt
              have hww : Below w.heap.size w wr := HW0.out.trans (HB.out.mono HW0.out.size)
              obtain ⟨adK, cs, rfl, hl9, hK, hc0⟩ := Kd.C_get (Kd.C_below HKC.out.1 hww) (⟨#[]⟩ : ByteArray) (i : Int) (by omega) (by omega)
              rw [Int.toNat_natCast] at hK hc0
              have hc : ∀ i2 u, cs[i2]? = some u → wr.cell? (adK.add (i * 1 + i2)) = some u := hc0
              obtain rfl := strK_open hK
              have z0 : wr.cell? (adK.add i) = some (.string (keys.getD i (⟨#[]⟩ : ByteArray))) := by have := hc 0 _ rfl; simpa using this
              have hkm : keys.getD i (⟨#[]⟩ : ByteArray) ∈ keys := by simp [List.getElem?_eq_getElem hik]
              have hks := HKC.out.2 _ hkm
              obtain ⟨adT, rfl, t0⟩ := Kd.at_int (Kd.C_below HTC.out hww) (j : Int) (by omega) (by omega)
              rw [Int.toNat_natCast] at t0
              generalize keys.getD i (⟨#[]⟩ : ByteArray) = kx at *
              generalize Go.Proofs.YtaldfbmjmpkmmaaGreatW.PrintWords.rd times (j : Int) = tx at *
              have HR1 : Aside0 (∀ W, Below wr.heap.size wr W → Calls Tryz.prog 16 #[.pointer (some ⟨b, 0, none⟩), .string kx, .int .i64 tx] W fun e w' => e = .returned (.tuple #[.int .i64 (readV u (kb kx) tx).1, .agg #[.int .i64 (readV u (kb kx) tx).2.f0, .string (readV u (kb kx) tx).2.f1, .bool (readV u (kb kx) tx).2.f2]]) ∧ Below W.heap.size W w') := ⟨fun W hW => read_walk (HSS.out.below (HB.out.trans (hW.mono HB.out.size))) kx hks tx⟩
              have HR2 : Aside0 (∀ W, Below wr.heap.size wr W → Calls Tryz.prog 16 #[.pointer (some ⟨b2, 0, none⟩), .string kx, .int .i64 tx] W fun e w' => e = .returned (.tuple #[.int .i64 (readV u (kb kx) tx).1, .agg #[.int .i64 (readV u (kb kx) tx).2.f0, .string (readV u (kb kx) tx).2.f1, .bool (readV u (kb kx) tx).2.f2]]) ∧ Below W.heap.size W w') := ⟨fun W hW => read_walk (HTT.out.below (HB.out.trans (hW.mono HB.out.size))) kx hks tx⟩
              have KEEP : Aside0 (∀ W, Below wr.heap.size wr W → W.cell? ⟨w.heap.size, 0, none⟩ = some (.slice (some adK) keys.length cK) ∧ W.cell? ⟨w.heap.size, 2, none⟩ = some (.slice (some adT) times.length cT) ∧ W.cell? (adK.add i) = some (.string kx) ∧ W.cell? (adT.add j) = some (.int .i64 tx)) := ⟨fun W hW => ⟨pw_cell_below hW x0, pw_cell_below hW x2, pw_cell_below hW z0, pw_cell_below hW t0⟩⟩
              generalize readV u (kb kx) tx = rv at *
              obtain ⟨cd, v0, v1, v2⟩ := rv
              simp only at HR1 HR2
              clear hww hc hc0 hK hl9 hkm hks hxb
              go_wp2_with fail
              have HI8 := Aside0.mk hik8
              have HJ8 := Aside0.mk hjt8
              have e8j : decide ((j : Int) < 8) = true := decide_eq_true (by omega)
              simp only [e8j]
              clear hik8 hjt8 e8j
              go_cut [12, 13] from 84 to 98 (fun va vb wd => ∃ g, va = .int .i64 cd ∧ vb = .pointer (some ⟨g, 0, none⟩) ∧ Aside0 (wd.heap[g]? = some (.cells #[.int .i64 v0, .string v1, .bool v2] 43 (0, 0)) ∧ Below wr.heap.size wr wd))
              case first =>
                go_region_held3 (fun w' => w'.cell? ⟨w.heap.size, 0, none⟩ = some (.slice (some adK) keys.length cK) ∧ w'.cell? ⟨w.heap.size, 2, none⟩ = some (.slice (some adT) times.length cT) ∧ w'.cell? (adK.add i) = some (.string kx) ∧ w'.cell? (adT.add j) = some (.int .i64 tx)) (exact KEEP.out _ (by repeat (first | exact HQ.out | exact Below.refl _ _ | apply below_drew1 | apply below_alloc | exact bel_set3 HQ.out (Nat.le_refl _) _ _ _ | exact bel_set3 HQ.out HQ.out.size _ _ _ | exact bel_set3 (below_alloc HQ.out _) HQ.out.size _ _ _)))
                  (first
                    | (go_simp; go_at_call 16; refine (HR1.out _ (by repeat (first | exact HQ.out | exact Below.refl _ _ | apply below_drew1 | apply below_alloc | exact bel_set3 HQ.out (Nat.le_refl _) _ _ _ | exact bel_set3 HQ.out HQ.out.size _ _ _ | exact bel_set3 (below_alloc HQ.out _) HQ.out.size _ _ _))).mono ?_; rintro e wq ⟨rfl, hq⟩; have HQ := Aside0.mk (bel_trans (a := wr) (by repeat (first | exact HQ.out | exact Below.refl _ _ | apply below_drew1 | apply below_alloc | exact bel_set3 HQ.out (Nat.le_refl _) _ _ _ | exact bel_set3 HQ.out HQ.out.size _ _ _ | exact bel_set3 (below_alloc HQ.out _) HQ.out.size _ _ _)) hq); (first | (have hgx := blk_below (show ((wr.drew).alloc (.cells #[.int .i64 0, .string ⟨#[]⟩, .bool false] 43)).heap[wr.heap.size]? = some (.cells #[.int .i64 0, .string ⟨#[]⟩, .bool false] 43 (0, 0)) from blk_new _ _) hq; have HGX := Aside0.mk hgx; have gx0 := blk_cell hgx 0; have gx1 := blk_cell hgx 1; have gx2 := blk_cell hgx 2; have fx0 := blk_frozen hgx 0; have fx1 := blk_frozen hgx 1; have fx2 := blk_frozen hgx 2; clear hgx hq) | clear hq)))
                all_goals (try go_wp2_with fail)
                all_goals go_meet
                all_goals (case rel => first | exact ⟨wq.heap.size, rfl, rfl, ⟨blk_new _ _, below_alloc HQ.out _⟩⟩ | exact ⟨wr.heap.size, rfl, rfl, ⟨blk_put (blk_put (blk_put HGX.out 0 _ rfl) 1 _ rfl) 2 _ rfl, bel_set3 HQ.out (Nat.le_refl _) _ _ _⟩⟩)
              case rest =>
                obtain ⟨g, rfl, rfl, HG⟩ := hcut
                have KEEP1 := Aside0.mk (fun W (hW : Below wc.heap.size wc W) => KEEP.out W (bel_trans HG.out.2 hW))
                have HR3 := Aside0.mk (fun W (hW : Below wc.heap.size wc W) => HR2.out W (bel_trans HG.out.2 hW))
                have HBC : Aside0 (Below W0.heap.size W0 wc) := ⟨HB.out.trans (HG.out.2.mono HB.out.size)⟩
                have HGC := Aside0.mk HG.out.1
                obtain ⟨W1, hW1⟩ : ∃ W1, W1 = wc := ⟨_, rfl⟩
                subst hW1
                clear KEEP HR1 HR2 HG HB x0 x2 z0 t0
                have KEEP := Aside0.mk KEEP1.out
                obtain ⟨x0, x2, z0, t0⟩ := KEEP.out W1 (Below.refl _ _)
                clear KEEP1
                go_wp2_with fail
                go_cut [14, 15] from 99 to 113 (fun va vb wd => ∃ g, va = .int .i64 cd ∧ vb = .pointer (some ⟨g, 0, none⟩) ∧ Aside0 (wd.heap[g]? = some (.cells #[.int .i64 v0, .string v1, .bool v2] 43 (0, 0)) ∧ Below W1.heap.size W1 wd))
                case first =>
                  go_region_held3 (fun w' => w'.cell? ⟨w.heap.size, 0, none⟩ = some (.slice (some adK) keys.length cK) ∧ w'.cell? ⟨w.heap.size, 2, none⟩ = some (.slice (some adT) times.length cT) ∧ w'.cell? (adK.add i) = some (.string kx) ∧ w'.cell? (adT.add j) = some (.int .i64 tx)) (exact KEEP.out _ (by repeat (first | exact HQ.out | exact Below.refl _ _ | apply below_drew1 | apply below_alloc | exact bel_set3 HQ.out (Nat.le_refl _) _ _ _ | exact bel_set3 HQ.out HQ.out.size _ _ _ | exact bel_set3 (below_alloc HQ.out _) HQ.out.size _ _ _)))
                    (first
                      | (go_simp; go_at_call 16; refine (HR3.out _ (by repeat (first | exact HQ.out | exact Below.refl _ _ | apply below_drew1 | apply below_alloc | exact bel_set3 HQ.out (Nat.le_refl _) _ _ _ | exact bel_set3 HQ.out HQ.out.size _ _ _ | exact bel_set3 (below_alloc HQ.out _) HQ.out.size _ _ _))).mono ?_; rintro e wq ⟨rfl, hq⟩; have HQ := Aside0.mk (bel_trans (a := W1) (by repeat (first | exact HQ.out | exact Below.refl _ _ | apply below_drew1 | apply below_alloc | exact bel_set3 HQ.out (Nat.le_refl _) _ _ _ | exact bel_set3 HQ.out HQ.out.size _ _ _ | exact bel_set3 (below_alloc HQ.out _) HQ.out.size _ _ _)) hq); (first | (have hgx := blk_below (show ((W1.drew).alloc (.cells #[.int .i64 0, .string ⟨#[]⟩, .bool false] 43)).heap[W1.heap.size]? = some (.cells #[.int .i64 0, .string ⟨#[]⟩, .bool false] 43 (0, 0)) from blk_new _ _) hq; have HGX := Aside0.mk hgx; have gx0 := blk_cell hgx 0; have gx1 := blk_cell hgx 1; have gx2 := blk_cell hgx 2; have fx0 := blk_frozen hgx 0; have fx1 := blk_frozen hgx 1; have fx2 := blk_frozen hgx 2; clear hgx hq) | clear hq)))
                  all_goals (try go_wp2_with fail)
                  all_goals go_meet
                  all_goals (case rel => first | exact ⟨wq.heap.size, rfl, rfl, ⟨blk_new _ _, below_alloc HQ.out _⟩⟩ | exact ⟨W1.heap.size, rfl, rfl, ⟨blk_put (blk_put (blk_put HGX.out 0 _ rfl) 1 _ rfl) 2 _ rfl, bel_set3 HQ.out (Nat.le_refl _) _ _ _⟩⟩)
                case rest =>
                  obtain ⟨g2, rfl, rfl, HG⟩ := hcut
                  have q0 := (blk_cell (blk_below HGC.out HG.out.2) 0).trans rfl
                  have q1 := (blk_cell (blk_below HGC.out HG.out.2) 1).trans rfl
                  have q2 := (blk_cell (blk_below HGC.out HG.out.2) 2).trans rfl
                  have r0 := (blk_cell HG.out.1 0).trans rfl
                  have r1 := (blk_cell HG.out.1 1).trans rfl
                  have r2 := (blk_cell HG.out.1 2).trans rfl
                  have HBE : Aside0 (Below W0.heap.size W0 wc) := ⟨HBC.out.trans (HG.out.2.mono HBC.out.size)⟩
                  clear HG HGC KEEP HR3 x0 x2 z0 t0
                  go_wp2_with fail
                  have hjt8 := HJ8.out
                  go_roundw
                  case rel => exact ⟨j + 1, by omega, by omega, by go_num, HBE⟩
                  case measure => simp [intOf]; omega
            · by_cases hj6 : j < times.length
              · have hj60 : ¬ j < 8 := fun h => hjt ⟨hj6, h⟩
                clear hjt
                go_wp2_with fail
                go_roundw
                case rel => exact ⟨i + 1, by omega, by omega, by go_num, HB⟩
                case measure => simp [intOf]; omega
              · clear hjt
                go_wp2_with fail
                go_roundw
                case rel => exact ⟨i + 1, by omega, by omega, by go_num, HB⟩
                case measure => simp [intOf]; omega
        · have HBW : Aside0 (Below w.heap.size w wr) := ⟨HW0.out.trans (HB.out.mono HW0.out.size)⟩
          by_cases hi6 : i < keys.length
          · have hi60 : ¬ i < 8 := fun h => hik ⟨hi6, h⟩
            clear hik
            go_wp2
            go_ret
            exact ⟨rfl, HBW.out⟩
          · clear hik
            go_wp2
            go_ret
            exact ⟨rfl, HBW.out⟩
end Go.Proofs.YtaldfbmjmpkmmaaGreat.PL
namespace Go.Proofs.YtaldfbmjmpkmmaaGreat.PL
open Go.RowKit Go.Proofs.YtaldfbmjmpkmmaaGreatW.PrintWords Go.Proofs.YtaldfbmjmpkmmaaGreat.Read
set_option linter.unusedVariables false
set_option maxRecDepth 100000
theorem openKeys : Opens Tryz.prog (Kd.slice 9 Kd.string) 23 (fun l => ∀ x, x ∈ l → x.size ≤ maxLen) :=
  opens_good (opens_slice (B := 16) Tryz.underlying23 (by kernel_rfl) (by kernel_rfl) (opens_string Tryz.underlying9 (by kernel_rfl))) (fun _ h x hx => Nat.le_trans (h.2 x hx) (by decide))
theorem openInts : Opens Tryz.prog (Kd.slice 3 (Kd.int .i64)) 35 (fun _ => True) :=
  opens_good (opens_slice (B := 8) Tryz.underlying35 (by kernel_rfl) (by kernel_rfl) openI) (fun _ _ => trivial)
theorem openAsk : Opens Tryz.prog (Kd.pair (Kd.slice 9 Kd.string) (Kd.pair (Kd.slice 3 (Kd.int .i64)) (Kd.slice 3 (Kd.int .i64)))) 37 (fun x => ∀ k, k ∈ x.1 → k.size ≤ maxLen) :=
  opens_good (opens_struct Tryz.underlying37 (by kernel_rfl) (parts_cons rfl openKeys (parts_cons rfl openInts (parts_one rfl openInts)))) (fun _ h => h.1)
theorem ask_value {W : World} {x : List ByteArray × List Int × List Int} {v : Value} (h : (Kd.pair (Kd.slice 9 Kd.string) (Kd.pair (Kd.slice 3 (Kd.int .i64)) (Kd.slice 3 (Kd.int .i64)))).K W x v.cells.toList) :
    ∃ AK cK AX cX AT cT, v = .agg #[.slice AK x.1.length cK, .slice AX x.2.1.length cX, .slice AT x.2.2.length cT] ∧ Kd.string.C W AK x.1.length x.1 ∧ (Kd.int .i64).C W AT x.2.2.length x.2.2 := by
  obtain ⟨c0, c1, e, ⟨AK, cK, rfl, h1, h2⟩, ⟨c2, c3, rfl, ⟨AX, cX, rfl, h3, h4⟩, ⟨AT, cT, rfl, h5, h6⟩⟩⟩ := h
  refine ⟨AK, cK, AX, cX, AT, cT, ?_, h2, h6⟩
  cases v <;> simp [Value.cells] at e
  rename_i cs
  congr 1
  exact Array.toList_inj.1 (by simpa using e)
theorem shelfAgain_walk (w : World) {l : List Rec} {A0 : Option Addr} {c0 : Nat} (hc0 : l.length ≤ c0) (hr0 : Kd.C k26 w A0 l.length l) (g0 : l.length * 120 ≤ 140737488351232 ∧ ∀ r, r ∈ l → okRec r) (x : List ByteArray × List Int × List Int) {AK : Option Addr} {cK : Nat} {AX : Option Addr} {cX : Nat} {AT : Option Addr} {cT : Nat} (hk : Kd.string.C w AK x.1.length x.1) (ht : (Kd.int .i64).C w AT x.2.2.length x.2.2) (gx : ∀ k, k ∈ x.1 → k.size ≤ maxLen) :
    Calls Tryz.prog 4 #[.slice A0 l.length c0, .agg #[.slice AK x.1.length cK, .slice AX x.2.1.length cX, .slice AT x.2.2.length cT]] w fun e w' => e = .returned (.bool true) ∧ Below w.heap.size w w' :=
  shelfAgain_core w hr0 (fun r hr => sizesOk_rec (g0.2 r hr)) x.1 hk gx x.2.2 ht
end Go.Proofs.YtaldfbmjmpkmmaaGreat.PL
