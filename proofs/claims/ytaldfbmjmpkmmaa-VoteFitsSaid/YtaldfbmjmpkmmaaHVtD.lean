/- VoteFits: the walk. -/
import Derived.Test.YtaldfbmjmpkmmaaM1cd48c
import Derived.Test.YtaldfbmjmpkmmaaM4d4fa0
namespace Go.Proofs.Ytaldfbmjmpkmmaa.PL
open Go.RowKit Go.Proofs.YtaldfbmjmpkmmaaW.PrintWords Go.Proofs.YtaldfbmjmpkmmaaW.PrintLast Go.Proofs.YtaldfbmjmpkmmaaW.PrintMore Go.Shelf Go.Maps Go.WideMaps Go.Proofs.Ytaldfbmjmpkmmaa.Mk
set_option linter.unusedVariables false
set_option linter.unusedSimpArgs false
set_option linter.unusedSectionVars false
attribute [local go_sem high] eqA29
set_option maxRecDepth 100000 in
set_option maxHeartbeats 16000000 in
theorem voteFits_core (w : World) {l : List Rec} {A0 : Option Addr} {c0 : Nat} (hr0 : Kd.C k35 w A0 l.length l) (g0 : ∀ r, r ∈ l → sizesOk r) (r : Rec) {A7 A8 : Option Addr} {c7 c8 : Nat} (l7 : r.f7.length ≤ c7) (g7 : Kd.C Kd.string w A7 r.f7.length r.f7) (l8 : r.f8.length ≤ c8) (g8 : Kd.C k56 w A8 r.f8.length r.f8) (gr : sizesOk r) (t : Int) :
    Calls Try.prog 4 #[.slice A0 l.length c0, .agg #[.int .i64 r.f0, .int .i64 r.f1, .int .i64 r.f2, .int .i64 r.f3, .string r.f4, .string r.f5, .bool r.f6, .slice A7 r.f7.length c7, .slice A8 r.f8.length c8], .int .i64 t] w fun e w' => e = .returned (.bool true) ∧ Below w.heap.size w w' := by
  obtain ⟨wy, hwy⟩ : ∃ wy, wy = w.alloc (.cells #[.int .i64 r.f0, .int .i64 r.f1, .int .i64 r.f2, .int .i64 r.f3, .string r.f4, .string r.f5, .bool r.f6, .slice A7 r.f7.length c7, .slice A8 r.f8.length c8] 35) := ⟨_, rfl⟩
  have hby : Below w.heap.size w wy := by rw [hwy]; exact below_alloc (Below.refl _ _) _
  have hyx : wy.heap[w.heap.size]? = some (.cells #[.int .i64 r.f0, .int .i64 r.f1, .int .i64 r.f2, .int .i64 r.f3, .string r.f4, .string r.f5, .bool r.f6, .slice A7 r.f7.length c7, .slice A8 r.f8.length c8] 35 (0, 0)) := by rw [hwy]; exact blk_new _ _
  have HWY := Aside0.mk hwy
  have HBY := Aside0.mk hby
  have HYX := Aside0.mk hyx
  have HMD := Aside0.mk (made19_walk wy A0 c0 l (Kd.C_below hr0 hby) g0)
  have HK : Aside0 (∀ W, Below w.heap.size w W → k35.K W r [.int .i64 r.f0, .int .i64 r.f1, .int .i64 r.f2, .int .i64 r.f3, .string r.f4, .string r.f5, .bool r.f6, .slice A7 r.f7.length c7, .slice A8 r.f8.length c8]) := ⟨fun W hW => k35_mk W r l7 (Kd.C_below g7 hW) l8 (Kd.C_below g8 hW)⟩
  have H7 := Aside0.mk g7
  have hm7 := Kd.C_max g7
  have HGR := Aside0.mk gr
  have HWS := Aside0.mk works19_walk
  have HEN := Aside0.mk (madeV_ends l)
  have HGD := Aside0.mk (madeV_ok l)
  clear hr0 g0 l7 g7 l8 g8 gr hwy hby hyx
  generalize madeV l = s at *
  have HFO := Aside0.mk (fun h => fits_ok (s := s) (r := r) h)
  have HFN := Aside0.mk (fun h0 h1 h2 => fits_no (s := s) (r := r) h0 h1 h2)
  have HFR := Aside0.mk (fun h (ht : r.f2 ≤ t) k hk => fits_read HGD.out (r := r) h ht (k := k) hk)
  have HVZ := Aside0.mk (fun h => vote_zero (s := s) (r := r) h)
  have HPL := Aside0.mk (fun h0 hz => prep_lists (r := r) h0 hz)
  go_enter Try.func4, Try.ntmps4
  go_wp2_with fail
  rw [← HWY.out]
  refine HMD.out.mono ?_
  rintro e w1 ⟨b, rb, rfl, hD⟩
  have HD := Aside0.mk hD
  have HB1 : Aside0 (Below w.heap.size w w1) := ⟨HBY.out.trans (hD.world.mono HBY.out.size)⟩
  clear hD HMD
  go_wp2_with fail
  refine (HWS.out w1).mono ?_
  rintro e w2 ⟨rfl, hb2⟩
  have HD2 := Aside0.mk (HD.out.below hb2)
  have HB2 : Aside0 (Below w.heap.size w w2) := ⟨HB1.out.trans (hb2.mono HB1.out.size)⟩
  have HX2 := Aside0.mk (blk_below HYX.out HD2.out.world)
  clear hb2 HD HB1
  obtain ⟨q0, q1, q2, q3, q4, q5, q6, q7, q8⟩ := rec_cells HX2.out
  obtain ⟨okp, hsh, -, hokp, -, -⟩ := HD2.out
  have HSH := Aside0.mk hsh
  have HOKP := Aside0.mk hokp
  have HVP := Aside0.mk (votep_walk hsh r _ (HK.out w2 HB2.out) HGR.out)
  clear hsh hokp HD2
  generalize voteV s r = e1 at *
  go_wp2_with fail
  refine HVP.out.mono ?_
  rintro e w3 ⟨rfl, hb3⟩
  have HB3 : Aside0 (Below w.heap.size w w3) := ⟨HB2.out.trans (hb3.mono HB2.out.size)⟩
  have HX3 := Aside0.mk (blk_below HX2.out hb3)
  have HS3 := Aside0.mk (HSH.out.below hb3)
  have HG3 : Aside0 (w2.heap.size ≤ w3.heap.size) := ⟨hb3.size⟩
  have HFK := Aside0.mk (fork_walk (HSH.out.below hb3))
  clear hb3 HVP q0 q1 q2 q3 q4 q5 q6 q7 q8 HX2 HSH
  go_wp2_with fail
  refine HFK.out.mono ?_
  rintro e w4 ⟨b2, bk2, bp2, ve2, fk2, fp2, rfl, hp2, hb2a, hb2b, hb2c, hb2d, hb4⟩
  have HB4 : Aside0 (Below w.heap.size w w4) := ⟨HB3.out.trans (hb4.mono HB3.out.size)⟩
  have HX4 := Aside0.mk (blk_below HX3.out hb4)
  have HS4 : Aside0 (ShAt w4 (fun g => okp g ∨ w4.heap.size ≤ g) b 960 s) := ⟨(HS3.out.below hb4).narrow (fun g hg _ => .inl hg)⟩
  have hlt3 : ∀ g, w3.heap.size ≤ g → g < w4.heap.size → ¬ (okp g ∨ w4.heap.size ≤ g) := fun g h1 h2 h => by
    rcases h with h | h
    · have := (HOKP.out g h).2
      have := HG3.out
      omega
    · omega
  have HMU : Aside0 (¬ (okp b2 ∨ w4.heap.size ≤ b2) ∧ ¬ (okp bk2 ∨ w4.heap.size ≤ bk2) ∧ ¬ (okp bp2 ∨ w4.heap.size ≤ bp2) ∧ ∀ g, ve2.ownBlock = some g → ¬ (okp g ∨ w4.heap.size ≤ g)) := ⟨hlt3 b2 hb2a (blk_lt hp2.box), hlt3 bk2 hb2b hp2.keys.lt, hlt3 bp2 hb2c hp2.preps.lt, fun g hg => by
    obtain ⟨h0, inner, ho, hr⟩ := hp2.ends
    exact hlt3 g (hb2d g hg) (own_lt ho g hg)⟩
  have HP2 := Aside0.mk hp2
  have HAP := Aside0.mk (apply_walk HS4.out HEN.out (fun g hg => .inr hg) (by decide) r _ (HK.out w4 HB4.out) HGR.out)
  clear hp2 hb2a hb2b hb2c hb2d hb4 hlt3 HFK HX3 HS3
  obtain ⟨q0, q1, q2, q3, q4, q5, q6, q7, q8⟩ := rec_cells HX4.out
  generalize hf : (applyV s r).1 = f1 at *
  clear hf
  go_wp2_with fail
  refine HAP.out.mono ?_
  rintro e w5 ⟨rfl, -, hc5⟩
  have HB5 : Aside0 (Below w.heap.size w w5) := ⟨hc5.below HB4.out HB4.out.size (fun g hg => by
    rcases hg with h | h
    · exact Nat.le_trans HBY.out.size (HOKP.out g h).1
    · exact Nat.le_trans HB4.out.size h)⟩
  have HX5 : Aside0 (w5.heap[w.heap.size]? = some (.cells #[.int .i64 r.f0, .int .i64 r.f1, .int .i64 r.f2, .int .i64 r.f3, .string r.f4, .string r.f5, .bool r.f6, .slice A7 r.f7.length c7, .slice A8 r.f8.length c8] 35 (0, 0))) := ⟨(hc5.block _ (blk_lt HX4.out) (fun h => by
    rcases h with h | h
    · have h1 := (HOKP.out _ h).1
      have h2 := blk_lt HYX.out
      omega
    · have := blk_lt HX4.out; omega)).trans HX4.out⟩
  have HP5 := Aside0.mk (HP2.out.shared hc5 HMU.out.1 HMU.out.2.1 HMU.out.2.2.1 HMU.out.2.2.2)
  clear hc5 HAP HP2 HMU HS4 q0 q1 q2 q3 q4 q5 q6 q7 q8 HX4
  obtain ⟨q0, q1, q2, q3, q4, q5, q6, q7, q8⟩ := rec_cells HX5.out
  by_cases h0 : e1 = 0
  · subst h0
    have HF1 := Aside0.mk (HFO.out rfl)
    have HZ := Aside0.mk (HVZ.out rfl)
    have HFR1 := Aside0.mk (fun ht k hk => HFR.out rfl ht k hk)
    clear HFO HFN HFR HVZ
    rcases HF1.out with rfl | rfl
    · have HL := Aside0.mk (HPL.out HZ.out.1 HZ.out.2.1).1
      clear HPL HZ HF1
      by_cases ht : t < r.f2
      · have d1 : decide (t < r.f2) = true := decide_eq_true ht
        clear ht
        go_wp2_with fail
        go_ret
        exact ⟨rfl, HB5.out⟩
      · have d1 : decide (t < r.f2) = false := decide_eq_false ht
        by_cases hu : 1125899906842624 < t
        · have d2 : decide (t > 1125899906842624) = true := decide_eq_true hu
          have d2b : decide (1125899906842624 < t) = true := decide_eq_true hu
          clear ht hu
          go_wp2_with fail
          go_ret
          exact ⟨rfl, HB5.out⟩
        · have d2 : decide (t > 1125899906842624) = false := decide_eq_false hu
          have d2b : decide (1125899906842624 < t) = false := decide_eq_false hu
          have HRE := Aside0.mk (fun k hk => HFR1.out (by omega) k hk)
          have HS5 : Aside0 (ShAt w5 (fun g => okp g ∨ w3.heap.size ≤ g) b2 960 s) := ⟨⟨_, _, _, _, _, HP5.out⟩⟩
          clear ht hu HFR1 HP5
          go_wp2_with fail
          clear q0 q1 q2 q3 q4 q5 q6 q7 q8
          go_loopw [65] (fun v wz => ∃ i : Nat, i ≤ r.f7.length ∧ v = .int .i64 (i : Int) ∧ Aside0 (Below w5.heap.size w5 wz)) (fun i _ => r.f7.length - (intOf i).toNat)
          case atStart => exact ⟨0, Nat.zero_le _, rfl, ⟨Below.refl _ _⟩⟩
          case round =>
            obtain ⟨i, hi, rfl, HB⟩ := hrel
            have HBW : Aside0 (Below w.heap.size w wr) := ⟨HB5.out.trans (HB.out.mono HB5.out.size)⟩
            by_cases hlt : i < r.f7.length
            · obtain ⟨ad, rfl, z0⟩ := strK_at (Kd.C_below H7.out HBW.out) i hlt
              have hks := Nat.le_trans (key_size (HL.out.key7 _ (List.getElem_mem hlt))) (show 32 ≤ maxLen by decide)
              have hre := HRE.out _ (List.getElem_mem hlt)
              have HX6 := Aside0.mk (blk_below HX5.out HB.out)
              obtain ⟨q0, q1, q2, q3, q4, q5, q6, q7, q8⟩ := rec_cells HX6.out
              generalize r.f7[i] = x at *
              have hrd := read_walk (HS5.out.below HB.out) x hks r.f2
              have HRT : Aside0 (∀ W, Below w5.heap.size w5 W → Calls Try.prog 12 #[.pointer (some ⟨b2, 0, none⟩), .string x, .int .i64 t] W fun e w' => e = .returned (.tuple #[.int .i64 (readV s (kb x) r.f2).1, .agg #[.int .i64 (readV s (kb x) r.f2).2.f0, .string (readV s (kb x) r.f2).2.f1, .bool (readV s (kb x) r.f2).2.f2]]) ∧ Below W.heap.size W w') := ⟨fun W hW => by
                have h := read_walk (HS5.out.below hW) x hks t
                rw [hre.1] at h
                exact h⟩
              obtain ⟨-, n3, n4⟩ := hre
              generalize readV s (kb x) r.f2 = rd at *
              obtain ⟨code, v0, v1, v2⟩ := rd
              try simp only at hrd HRT n3 n4
              have HRD := Aside0.mk hrd
              have d3 : (code == 3) = false := by simpa using n3
              have d4 : (code == 4) = false := by simpa using n4
              clear hrd n3 n4 hks
              go_wp2_with fail
              refine HRD.out.mono ?_
              rintro e w6 ⟨rfl, hb6⟩
              obtain ⟨w7, hw7⟩ : ∃ w7, w7 = w6.alloc (.cells #[.int .i64 v0, .string v1, .bool v2] 29) := ⟨_, rfl⟩
              have hb7 : Below w6.heap.size w6 w7 := by rw [hw7]; exact below_alloc (Below.refl _ _) _
              have hx7 : w7.heap[w6.heap.size]? = some (.cells #[.int .i64 v0, .string v1, .bool v2] 29 (0, 0)) := by rw [hw7]; exact blk_new _ _
              have HB7 : Aside0 (Below w5.heap.size w5 w7) := ⟨(HB.out.trans (hb6.mono HB.out.size)).trans (hb7.mono (HB.out.trans (hb6.mono HB.out.size)).size)⟩
              have HW7 := Aside0.mk hw7
              have HX7 := Aside0.mk hx7
              have HR2 := Aside0.mk (HRT.out w7 HB7.out)
              clear hw7 hx7 hb7 hb6 HRD HRT q0 q1 q2 q3 q4 q5 q6 q7 q8 z0
              go_wp2_with fail
              rw [← HW7.out]
              refine HR2.out.mono ?_
              rintro e w8 ⟨rfl, hb8⟩
              obtain ⟨w9, hw9⟩ : ∃ w9, w9 = w8.alloc (.cells #[.int .i64 v0, .string v1, .bool v2] 29) := ⟨_, rfl⟩
              have hb9 : Below w8.heap.size w8 w9 := by rw [hw9]; exact below_alloc (Below.refl _ _) _
              have HB9 : Aside0 (Below w5.heap.size w5 w9) := ⟨(HB7.out.trans (hb8.mono HB7.out.size)).trans (hb9.mono (HB7.out.trans (hb8.mono HB7.out.size)).size)⟩
              have HW9 := Aside0.mk hw9
              have hx8 := blk_below (blk_below HX7.out hb8) hb9
              have y0 := (blk_cell hx8 0).trans rfl
              have y1 := (blk_cell hx8 1).trans rfl
              have y2 := (blk_cell hx8 2).trans rfl
              rw [hw9] at y0 y1 y2
              clear hb8 hb9 hw9 hx8 HR2
              go_wp2_with fail
              go_roundw
              case rel => exact ⟨i + 1, by omega, by go_num, by rw [← HW9.out]; exact HB9⟩
              case measure => simp [intOf]; omega
            · obtain rfl : i = r.f7.length := by omega
              go_wp2_with fail
              go_ret
              exact ⟨rfl, HBW.out⟩
    · go_wp2_with fail
      go_ret
      exact ⟨rfl, HB5.out⟩
  · have d0 : (e1 == 0) = false := by simpa using h0
    by_cases h1 : e1 = 110
    · subst h1
      go_wp2_with fail
      go_ret
      exact ⟨rfl, HB5.out⟩
    · have d1 : (e1 == 110) = false := by simpa using h1
      by_cases h2 : e1 = 190
      · subst h2
        go_wp2_with fail
        go_ret
        exact ⟨rfl, HB5.out⟩
      · have d2 : (e1 == 190) = false := by simpa using h2
        have HN := Aside0.mk (HFN.out h0 h1 h2)
        clear h0 h1 h2 HFO HFN HFR HVZ
        by_cases hf0 : f1 = 0
        · have hk : r.f0 ≠ 1 := by
            rcases HN.out with h | h
            · exact absurd hf0 h
            · exact h
          have d3 : (r.f0 != 1) = true := by simpa using hk
          subst hf0
          clear hk HN
          go_wp2_with fail
          go_ret
          exact ⟨rfl, HB5.out⟩
        · have d3 : (f1 != 0) = true := by simpa using hf0
          clear hf0 HN
          go_wp2_with fail
          go_ret
          exact ⟨rfl, HB5.out⟩
theorem voteFits_walk (w : World) {l : List Rec} {A0 : Option Addr} {c0 : Nat} (hc0 : l.length ≤ c0) (hr0 : Kd.C k35 w A0 l.length l) (g0 : l.length * 120 ≤ 140737488351232 ∧ ∀ r, r ∈ l → okRec r) (r : Rec) {A7 : Option Addr} {c7 : Nat} {A8 : Option Addr} {c8 : Nat} (hl7 : r.f7.length ≤ c7) (h7 : Kd.string.C w A7 r.f7.length r.f7) (hl8 : r.f8.length ≤ c8) (h8 : k56.C w A8 r.f8.length r.f8) (gr : okRec r) (t : Int) :
    Calls Try.prog 4 #[.slice A0 l.length c0, .agg #[.int .i64 r.f0, .int .i64 r.f1, .int .i64 r.f2, .int .i64 r.f3, .string r.f4, .string r.f5, .bool r.f6, .slice A7 r.f7.length c7, .slice A8 r.f8.length c8], .int .i64 t] w fun e w' => e = .returned (.bool true) ∧ Below w.heap.size w w' :=
  voteFits_core w hr0 (fun r hr => sizesOk_rec (g0.2 r hr)) r hl7 h7 hl8 h8 (sizesOk_rec gr) t
end Go.Proofs.Ytaldfbmjmpkmmaa.PL
