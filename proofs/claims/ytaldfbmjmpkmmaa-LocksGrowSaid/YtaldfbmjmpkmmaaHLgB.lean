/- LocksGrow: the walk. -/
import Derived.Test.YtaldfbmjmpkmmaaHLgT
import Derived.Deep.RegionLaw
namespace Go.Proofs.Ytaldfbmjmpkmmaa.PL.Lk
open Go Go.Proofs.Ytaldfbmjmpkmmaa.PL Go.RowKit Go.Proofs.YtaldfbmjmpkmmaaW.PrintWords Go.Proofs.YtaldfbmjmpkmmaaW.PrintLast Go.Proofs.YtaldfbmjmpkmmaaW.PrintMore Go.Maps Mk
set_option linter.unusedVariables false
set_option linter.unusedSimpArgs false
set_option linter.unusedSectionVars false
theorem size_rec {r : S35} (h : okRec r) : sizesOk r := by
  unfold okRec at h
  unfold sizesOk
  omega
theorem admit_snd (l : List S35) : (admitV l).2 = wrongV l := by
  unfold admitV
  by_cases h : wrongV l = 0
  · rw [if_pos h, h]
  · rw [if_neg h]
theorem keys_is (A0 : Option Addr) (c0 : Nat) (l0 : List (S35)) (w : World) (hr0 : Kd.C k35 w A0 l0.length l0) (hc0 : l0.length ≤ c0) (hs : ∀ r, r ∈ l0 → sizesOk r) (hw : wrongV l0 = 0) :
    Calls Try.prog 28 #[.slice A0 l0.length c0] w fun e w' => ∃ A c, e = .returned (.tuple #[.slice A (bytesOfL (kl l0)).length c, .int .i64 0]) ∧ (bytesOfL (kl l0)).length ≤ c ∧ Kd.C Kd.string w' A (bytesOfL (kl l0)).length (bytesOfL (kl l0)) ∧ Below w.heap.size w w' := by
  refine (keys_walk A0 c0 l0 w hr0 hc0 hs).mono ?_
  rintro e w' ⟨v, rfl, hv, hb⟩
  rw [keys_zero l0 hw] at hv ⊢
  obtain ⟨A, c, rfl⟩ := Kd.R_slice hv
  exact ⟨A, c, rfl, (Kd.R_reads' hv).2.1, (Kd.R_reads' hv).2.2, hb⟩

set_option maxRecDepth 100000 in
set_option maxHeartbeats 16000000 in
theorem locksGrow_core (w : World) {l : List S35} {A0 : Option Addr} {c0 : Nat} (hc0 : l.length ≤ c0) (hr0 : Kd.C k35 w A0 l.length l) (g0 : ∀ r, r ∈ l → sizesOk r) (r : S35) (A7 : Option Addr) (c7 : Nat) (A8 : Option Addr) (c8 : Nat) (g7 : Kd.C Kd.string w A7 r.f7.length r.f7) (l7 : r.f7.length ≤ c7) (g8 : Kd.C k56 w A8 r.f8.length r.f8) (l8 : r.f8.length ≤ c8) (hs : sizesOk r) :
    Calls Try.prog 7 #[.slice A0 l.length c0, .agg #[.int .i64 r.f0, .int .i64 r.f1, .int .i64 r.f2, .int .i64 r.f3, .string r.f4, .string r.f5, .bool r.f6, .slice A7 r.f7.length c7, .slice A8 r.f8.length c8]] w fun e w' => e = .returned (.bool true) ∧ Below w.heap.size w w' := by
  obtain ⟨wy, hwy⟩ : ∃ wy, wy = w.alloc (.cells #[.int .i64 r.f0, .int .i64 r.f1, .int .i64 r.f2, .int .i64 r.f3, .string r.f4, .string r.f5, .bool r.f6, .slice A7 r.f7.length c7, .slice A8 r.f8.length c8] 35) := ⟨_, rfl⟩
  have hby : Below w.heap.size w wy := by rw [hwy]; exact below_alloc (Below.refl _ _) _
  have HX := Aside0.mk (show wy.heap[w.heap.size]? = some (.cells #[.int .i64 r.f0, .int .i64 r.f1, .int .i64 r.f2, .int .i64 r.f3, .string r.f4, .string r.f5, .bool r.f6, .slice A7 r.f7.length c7, .slice A8 r.f8.length c8] 35 (0, 0)) by rw [hwy]; exact blk_new _ _)
  have HBY := Aside0.mk hby
  have HR0 := Aside0.mk hr0
  have HC0 := Aside0.mk hc0
  have HS0 := Aside0.mk g0
  have HR7 := Aside0.mk g7
  have HR8 := Aside0.mk g8
  have HL7 := Aside0.mk l7
  have HL8 := Aside0.mk l8
  have HSZ := Aside0.mk hs
  have hmax := Kd.C_max hr0
  have h7m := Kd.C_max g7
  have h8m := Kd.C_max g8
  have HWY := Aside0.mk hwy
  have hu := Try.underlying35
  have HWS := Aside0.mk works_walk
  clear hr0 hc0 g0 g7 g8 l7 l8 hs hby hwy
  go_enter Try.func7, Try.ntmps7
  go_wp2_with fail
  rw [← HWY.out]
  refine (HWS.out wy).mono ?_
  rintro e w1 ⟨rfl, hb1⟩
  have HX1 := Aside0.mk (blk_below HX.out hb1)
  have HB1 : Aside0 (Below w.heap.size w w1) := ⟨HBY.out.trans (hb1.mono HBY.out.size)⟩
  clear hb1 HX HBY HWY HWS
  by_cases hn : 200 < l.length
  · have d1 : decide ((200 : Int) < (l.length : Int)) = true := decide_eq_true (by omega)
    have d2 : decide ((l.length : Int) > 200) = true := decide_eq_true (by omega)
    clear hn
    go_wp2_with fail
    go_ret
    exact ⟨rfl, HB1.out⟩
  have d1 : decide ((200 : Int) < (l.length : Int)) = false := decide_eq_false (by omega)
  have d2 : decide ((l.length : Int) > 200) = false := decide_eq_false (by omega)
  have HN200 : Aside0 (l.length ≤ 200) := ⟨by omega⟩
  have HAD := Aside0.mk (admit_walk A0 c0 l w1 (Kd.C_below HR0.out HB1.out) HC0.out HS0.out)
  clear hn
  go_wp2_with fail
  refine HAD.out.mono ?_
  rintro e wa ⟨v5, rfl, hv5, hba⟩
  obtain ⟨AA, cA, rfl⟩ := Kd.R_slice hv5
  have HV5 := Aside0.mk hv5
  have HBA : Aside0 (Below w.heap.size w wa) := ⟨HB1.out.trans (hba.mono HB1.out.size)⟩
  have HXA := Aside0.mk (blk_below HX1.out hba)
  have FL : Aside0 (Kd.F k35 wa (fun k => k < wa.heap.size) A0 l.length l) := ⟨Kd.C_F heapRg (Kd.C_below HR0.out HBA.out)⟩
  have FR : Aside0 (Kd.FK k35 wa (fun k => k < wa.heap.size) r [.int .i64 r.f0, .int .i64 r.f1, .int .i64 r.f2, .int .i64 r.f3, .string r.f4, .string r.f5, .bool r.f6, .slice A7 r.f7.length c7, .slice A8 r.f8.length c8]) := ⟨k35_mkF wa (fun k => k < wa.heap.size) r HL7.out (Kd.C_F Kd.heap_string (Kd.C_below HR7.out HBA.out)) HL8.out (Kd.C_F heapWg (Kd.C_below HR8.out HBA.out))⟩
  obtain ⟨q0, q1, q2, q3, q4, q5, q6, q7, q8⟩ := rec_cells HXA.out
  obtain ⟨p0, p1, p2, p3, p4, p5, p6, p7, p8⟩ := rec_cells (blk_alloc HXA.out (.cells #[] 35))
  have HLN : Aside0 ((l ++ [r]).length = l.length + 1) := ⟨by simp⟩
  have HADM : Aside0 (∀ W A c, Kd.C k35 W A (l ++ [r]).length (l ++ [r]) → l.length + 1 ≤ c → Calls Try.prog 27 #[.slice A (l.length + 1) c] W fun e w' => ∃ A c, e = .returned (.tuple #[.slice A (admitV (l ++ [r])).1.length c, .int .i64 (admitV (l ++ [r])).2]) ∧ Kd.R (Kd.int .i64) 3 w' W.heap.size (fun _ => True) (.slice A (admitV (l ++ [r])).1.length c) (admitV (l ++ [r])).1 ∧ Below W.heap.size W w') := ⟨fun W A c hC hc => by
    have hl : (l ++ [r]).length = l.length + 1 := by simp
    have h := admit_walk A c (l ++ [r]) W hC (by rw [hl]; exact hc) (fun q hq => by rcases List.mem_append.1 hq with hq | hq; exact HS0.out q hq; rw [List.mem_singleton.1 hq]; exact HSZ.out)
    rw [hl] at h
    refine h.mono ?_
    rintro e w' ⟨v, rfl, hv, hb⟩
    obtain ⟨A, c, rfl⟩ := Kd.R_slice hv
    exact ⟨A, c, rfl, hv, hb⟩⟩
  clear hba hv5 HAD HX1 HB1
  go_upto_region 6 with (fail)
  go_cut [7, 8] (fun va vb wd => ∃ A c, va = .slice A (admitV (l ++ [r])).1.length c ∧ vb = .int .i64 (admitV (l ++ [r])).2 ∧ Aside0 (Kd.R (Kd.int .i64) 3 wd wa.heap.size (fun _ => True) (.slice A (admitV (l ++ [r])).1.length c) (admitV (l ++ [r])).1) ∧ Aside0 (Below wa.heap.size wa wd))
  case first =>
    go_region_law (first
      | (refine Kd.N_append_rows_step k35 (w0 := wa) wa.heap.size (by rfl) (.tmp 31) (.tmp 32) 22 35 (.agg #[.int .i64 0, .int .i64 0, .int .i64 0, .int .i64 0, .string ⟨#[]⟩, .string ⟨#[]⟩, .bool false, .slice none 0 0, .slice none 0 0]) 120 rfl Try.underlying22 infoRg rfl (by decide) (by decide) (.slice (some ⟨wa.heap.size, 0, none⟩) 0 0) [] l A0 l.length c0 (fun _ => True) (fun k => k < wa.heap.size) rfl rfl (by repeat (with_reducible first | exact emptyN' _ _ _ _ _ (by simp) (by first | (simp; done) | (simp; omega)) | refine Kd.N_drew ?_ | refine Kd.N_alloc ?_ _)) (Kd.F_below FL.out (by repeat (with_reducible first | exact Below.refl _ _ | exact HB1.out | exact HB2.out | apply below_drew1 | apply below_alloc))) (fun k hk => ⟨trivial, by simp [Value.ownBlock]; omega⟩) (fun _ _ => trivial) (by repeat (with_reducible first | exact Below.refl _ _ | exact HB1.out | exact HB2.out | apply below_drew1 | apply below_alloc)) (by first | (simp; done) | (simp; omega)) (by have := HN200.out; simp; omega) ?_; intro v1 w1 hn1 hb1 hg1 hat1; rw [List.nil_append] at hn1; obtain ⟨A3, c3, rfl⟩ := Kd.N_slice hn1; have HN1 := Aside0.mk hn1; have HB1 := Aside0.mk hb1; have HAT1 := Aside0.mk hat1; obtain ⟨u0, u1, u2, u3, u4, u5, u6, u7, u8⟩ := rec_cells (blk_below HXA.out hb1); (first | (have HG1 := Aside0.mk (blk_grown (g := wa.heap.size + 1) (o := .cells #[.int .i64 r.f0, .int .i64 r.f1, .int .i64 r.f2, .int .i64 r.f3, .string r.f4, .string r.f5, .bool r.f6, .slice A7 r.f7.length c7, .slice A8 r.f8.length c8] 35 (0, 0)) (by first | exact blk_drew (blk_newI (by simp)) | exact blk_newI (by simp)) hg1 (by simp [Value.ownBlock]))) | (have HG1 := Aside0.mk (blk_grown (g := wa.heap.size) (o := .cells #[.int .i64 r.f0, .int .i64 r.f1, .int .i64 r.f2, .int .i64 r.f3, .string r.f4, .string r.f5, .bool r.f6, .slice A7 r.f7.length c7, .slice A8 r.f8.length c8] 35 (0, 0)) (by first | exact blk_drew (blk_alloc (blk_new _ _) _) | exact blk_alloc (blk_new _ _) _) hg1 (by simp [Value.ownBlock]))) | skip); clear hn1 hb1 hg1 hat1)
      | (refine Kd.N_append_rows_step k35 (w0 := wa) wa.heap.size (by rfl) (.tmp 31) (.tmp 32) 22 35 (.agg #[.int .i64 0, .int .i64 0, .int .i64 0, .int .i64 0, .string ⟨#[]⟩, .string ⟨#[]⟩, .bool false, .slice none 0 0, .slice none 0 0]) 120 rfl Try.underlying22 infoRg rfl (by decide) (by decide) (.slice (some ⟨(wa.heap.size + 1), 0, none⟩) 0 0) [] l A0 l.length c0 (fun _ => True) (fun k => k < wa.heap.size) rfl rfl (by repeat (with_reducible first | exact emptyN' _ _ _ _ _ (by simp) (by first | (simp; done) | (simp; omega)) | refine Kd.N_drew ?_ | refine Kd.N_alloc ?_ _)) (Kd.F_below FL.out (by repeat (with_reducible first | exact Below.refl _ _ | exact HB1.out | exact HB2.out | apply below_drew1 | apply below_alloc))) (fun k hk => ⟨trivial, by simp [Value.ownBlock]; omega⟩) (fun _ _ => trivial) (by repeat (with_reducible first | exact Below.refl _ _ | exact HB1.out | exact HB2.out | apply below_drew1 | apply below_alloc)) (by first | (simp; done) | (simp; omega)) (by have := HN200.out; simp; omega) ?_; intro v1 w1 hn1 hb1 hg1 hat1; rw [List.nil_append] at hn1; obtain ⟨A3, c3, rfl⟩ := Kd.N_slice hn1; have HN1 := Aside0.mk hn1; have HB1 := Aside0.mk hb1; have HAT1 := Aside0.mk hat1; obtain ⟨u0, u1, u2, u3, u4, u5, u6, u7, u8⟩ := rec_cells (blk_below HXA.out hb1); (first | (have HG1 := Aside0.mk (blk_grown (g := wa.heap.size + 1) (o := .cells #[.int .i64 r.f0, .int .i64 r.f1, .int .i64 r.f2, .int .i64 r.f3, .string r.f4, .string r.f5, .bool r.f6, .slice A7 r.f7.length c7, .slice A8 r.f8.length c8] 35 (0, 0)) (by first | exact blk_drew (blk_newI (by simp)) | exact blk_newI (by simp)) hg1 (by simp [Value.ownBlock]))) | (have HG1 := Aside0.mk (blk_grown (g := wa.heap.size) (o := .cells #[.int .i64 r.f0, .int .i64 r.f1, .int .i64 r.f2, .int .i64 r.f3, .string r.f4, .string r.f5, .bool r.f6, .slice A7 r.f7.length c7, .slice A8 r.f8.length c8] 35 (0, 0)) (by first | exact blk_drew (blk_alloc (blk_new _ _) _) | exact blk_alloc (blk_new _ _) _) hg1 (by simp [Value.ownBlock]))) | skip); clear hn1 hb1 hg1 hat1)
      | (refine Kd.N_append_rows_step k35 (w0 := wa) wa.heap.size (by rfl) (.tmp 33) (.tmp 35) 22 35 (.agg #[.int .i64 0, .int .i64 0, .int .i64 0, .int .i64 0, .string ⟨#[]⟩, .string ⟨#[]⟩, .bool false, .slice none 0 0, .slice none 0 0]) 120 rfl Try.underlying22 infoRg rfl (by decide) (by decide) (.slice A3 l.length c3) l [r] (some ⟨(wa.heap.size + 1), 0, none⟩) 1 1 (fun _ => True) (fun k => k < wa.heap.size ∨ k = (wa.heap.size + 1)) rfl rfl (by repeat (with_reducible first | exact HN1.out | refine Kd.N_drew ?_ | refine Kd.N_alloc ?_ _)) (F_one (cs := #[.int .i64 r.f0, .int .i64 r.f1, .int .i64 r.f2, .int .i64 r.f3, .string r.f4, .string r.f5, .bool r.f6, .slice A7 r.f7.length c7, .slice A8 r.f8.length c8]) (e := 35) (by first | exact HG1.out | exact blk_drew HG1.out) (Kd.FK_mono (Kd.FK_step FR.out (fun k hk hlt => (by repeat (with_reducible first | exact Below.refl _ _ | exact HB1.out | exact HB2.out | apply below_drew1 | apply below_alloc) : Below wa.heap.size wa _).block k hlt)) (fun k hk => .inl hk)) (.inr rfl)) (fun k hk => ⟨trivial, by rcases hk with hk | rfl; exact fun e => absurd (Kd.N_base HN1.out k e.symm) (by omega); exact own_apart (g0 := wa.heap.size) HAT1.out rfl (by omega) (by first | (simp; done) | (simp; omega))⟩) (fun _ _ => trivial) (by repeat (with_reducible first | exact Below.refl _ _ | exact HB1.out | exact HB2.out | apply below_drew1 | apply below_alloc)) (by have := HB1.out.size; first | omega | (simp; omega)) (by have := HN200.out; simp; omega) ?_; intro v2 w2 hn2 hb2 hg2 hat2; obtain ⟨A5, c5, rfl⟩ := Kd.N_slice hn2; rw [HLN.out]; rw [HLN.out] at hn2; have HN2 := Aside0.mk hn2; have HB2 := Aside0.mk hb2; clear hn2 hb2 hg2 hat2)
      | (refine Kd.N_append_rows_step k35 (w0 := wa) wa.heap.size (by rfl) (.tmp 33) (.tmp 35) 22 35 (.agg #[.int .i64 0, .int .i64 0, .int .i64 0, .int .i64 0, .string ⟨#[]⟩, .string ⟨#[]⟩, .bool false, .slice none 0 0, .slice none 0 0]) 120 rfl Try.underlying22 infoRg rfl (by decide) (by decide) (.slice A3 l.length c3) l [r] (some ⟨wa.heap.size, 0, none⟩) 1 1 (fun _ => True) (fun k => k < wa.heap.size ∨ k = wa.heap.size) rfl rfl (by repeat (with_reducible first | exact HN1.out | refine Kd.N_drew ?_ | refine Kd.N_alloc ?_ _)) (F_one (cs := #[.int .i64 r.f0, .int .i64 r.f1, .int .i64 r.f2, .int .i64 r.f3, .string r.f4, .string r.f5, .bool r.f6, .slice A7 r.f7.length c7, .slice A8 r.f8.length c8]) (e := 35) (by first | exact HG1.out | exact blk_drew HG1.out) (Kd.FK_mono (Kd.FK_step FR.out (fun k hk hlt => (by repeat (with_reducible first | exact Below.refl _ _ | exact HB1.out | exact HB2.out | apply below_drew1 | apply below_alloc) : Below wa.heap.size wa _).block k hlt)) (fun k hk => .inl hk)) (.inr rfl)) (fun k hk => ⟨trivial, by rcases hk with hk | rfl; exact fun e => absurd (Kd.N_base HN1.out k e.symm) (by omega); exact own_apart (g0 := wa.heap.size + 1) HAT1.out rfl (by omega) (by first | (simp; done) | (simp; omega))⟩) (fun _ _ => trivial) (by repeat (with_reducible first | exact Below.refl _ _ | exact HB1.out | exact HB2.out | apply below_drew1 | apply below_alloc)) (by have := HB1.out.size; first | omega | (simp; omega)) (by have := HN200.out; simp; omega) ?_; intro v2 w2 hn2 hb2 hg2 hat2; obtain ⟨A5, c5, rfl⟩ := Kd.N_slice hn2; rw [HLN.out]; rw [HLN.out] at hn2; have HN2 := Aside0.mk hn2; have HB2 := Aside0.mk hb2; clear hn2 hb2 hg2 hat2)
      | (refine Kd.N_append_rows_step k35 (w0 := wa) wa.heap.size (by rfl) (.tmp 33) (.tmp 35) 22 35 (.agg #[.int .i64 0, .int .i64 0, .int .i64 0, .int .i64 0, .string ⟨#[]⟩, .string ⟨#[]⟩, .bool false, .slice none 0 0, .slice none 0 0]) 120 rfl Try.underlying22 infoRg rfl (by decide) (by decide) (.slice A3 l.length c3) l [r] (some ⟨w1.heap.size, 0, none⟩) 1 1 (fun _ => True) (fun k => k < wa.heap.size ∨ k = w1.heap.size) rfl rfl (by repeat (with_reducible first | exact HN1.out | refine Kd.N_drew ?_ | refine Kd.N_alloc ?_ _)) (F_one (cs := #[.int .i64 r.f0, .int .i64 r.f1, .int .i64 r.f2, .int .i64 r.f3, .string r.f4, .string r.f5, .bool r.f6, .slice A7 r.f7.length c7, .slice A8 r.f8.length c8]) (e := 35) (by (with_reducible repeat (first | refine blk_drew ?_)); exact blk_newI rfl) (Kd.FK_mono (Kd.FK_step FR.out (fun k hk hlt => (by repeat (with_reducible first | exact Below.refl _ _ | exact HB1.out | exact HB2.out | apply below_drew1 | apply below_alloc) : Below wa.heap.size wa _).block k hlt)) (fun k hk => .inl hk)) (.inr rfl)) (fun k hk => ⟨trivial, by rcases hk with hk | rfl; exact fun e => absurd (Kd.N_base HN1.out k e.symm) (by omega); exact fun e => absurd (N_own_lt HN1.out e.symm) (by omega)⟩) (fun _ _ => trivial) (by repeat (with_reducible first | exact Below.refl _ _ | exact HB1.out | exact HB2.out | apply below_drew1 | apply below_alloc)) (by have := HB1.out.size; first | omega | (simp; omega)) (by have := HN200.out; simp; omega) ?_; intro v2 w2 hn2 hb2 hg2 hat2; obtain ⟨A5, c5, rfl⟩ := Kd.N_slice hn2; rw [HLN.out]; rw [HLN.out] at hn2; have HN2 := Aside0.mk hn2; have HB2 := Aside0.mk hb2; clear hn2 hb2 hg2 hat2)
      | (go_simp; go_at_call 27; refine (HADM.out _ A5 c5 (Kd.N_reads' (by repeat (with_reducible first | exact HN2.out | refine Kd.N_drew ?_ | refine Kd.N_alloc ?_ _))).2.2 (Kd.N_reads' HN2.out).2.1).mono ?_; rintro e w3 ⟨A6, c6, rfl, hv6, hb6⟩; have HV6 := Aside0.mk hv6; have HB6 := Aside0.mk hb6; clear hv6 hb6))
    all_goals (try go_wp2_with fail)
    all_goals go_meet
    all_goals (case rel => exact ⟨A6, c6, rfl, rfl, ⟨Kd.R_lower HV6.out HB2.out.size⟩, ⟨HB2.out.trans (HB6.out.mono HB2.out.size)⟩⟩)
  case rest =>
    obtain ⟨AB, cB, rfl, rfl, HVB, HBC⟩ := hcut
    obtain ⟨wb, hwb⟩ : ∃ wb, wb = wc := ⟨_, rfl⟩
    subst hwb
    have HBB : Aside0 (Below w.heap.size w wb) := ⟨HBA.out.trans (HBC.out.mono HBA.out.size)⟩
    have HXB := Aside0.mk (blk_below HXA.out HBC.out)
    have HVA := Aside0.mk (Kd.R_below HV5.out HBC.out)
    clear HADM FL FR HV5 HXA HBA HBC q0 q1 q2 q3 q4 q5 q6 q7 q8 p0 p1 p2 p3 p4 p5 p6 p7 p8
    rw [admit_snd, admit_snd]
    by_cases h1 : wrongV l = 0
    · by_cases h2 : wrongV (l ++ [r]) = 0
      · rw [h1, h2]
        rw [admit_zero l h1] at HVA ⊢
        rw [admit_zero _ h2] at HVB ⊢
        try simp only at HVA HVB ⊢
        have HK1 := Aside0.mk (keys_is A0 c0 l wb (Kd.C_below HR0.out HBB.out) HC0.out HS0.out h1)
        have H1 := Aside0.mk h1
        have H2 := Aside0.mk h2
        clear h1 h2
        go_wp2_with fail
        refine HK1.out.mono ?_
        rintro e wd ⟨AX, cX, rfl, jX, JX, hbd⟩
        have HXD := Aside0.mk (blk_below HXB.out hbd)
        have HBD : Aside0 (Below w.heap.size w wd) := ⟨HBB.out.trans (hbd.mono HBB.out.size)⟩
        have HVAD := Aside0.mk (Kd.R_below HVA.out hbd)
        have HVBD := Aside0.mk (Kd.R_below HVB.out hbd)
        have HJX := Aside0.mk jX
        have HCX := Aside0.mk JX
        clear hbd jX JX HK1 HVA HVB HXB HBB
        obtain ⟨we, hwe⟩ : ∃ we, we = wd.alloc (.cells #[.int .i64 r.f0, .int .i64 r.f1, .int .i64 r.f2, .int .i64 r.f3, .string r.f4, .string r.f5, .bool r.f6, .slice A7 r.f7.length c7, .slice A8 r.f8.length c8] 35) := ⟨_, rfl⟩
        have hbe : Below wd.heap.size wd we := by rw [hwe]; exact below_alloc (Below.refl _ _) _
        have hle : we.heap[wd.heap.size]? = some (.cells #[.int .i64 r.f0, .int .i64 r.f1, .int .i64 r.f2, .int .i64 r.f3, .string r.f4, .string r.f5, .bool r.f6, .slice A7 r.f7.length c7, .slice A8 r.f8.length c8] 35 (0, 0)) := by rw [hwe]; exact blk_new _ _
        have HBE : Aside0 (Below w.heap.size w we) := ⟨HBD.out.trans (hbe.mono HBD.out.size)⟩
        have HK2 : Aside0 (Calls Try.prog 28 #[.slice (some ⟨wd.heap.size, 0, none⟩) 1 1] we fun e w' => ∃ A c, e = .returned (.tuple #[.slice A (bytesOfL (kl [r])).length c, .int .i64 0]) ∧ (bytesOfL (kl [r])).length ≤ c ∧ Kd.C Kd.string w' A (bytesOfL (kl [r])).length (bytesOfL (kl [r])) ∧ Below we.heap.size we w') := ⟨keys_is (some ⟨wd.heap.size, 0, none⟩) 1 [r] we (C_one1 hle (k35_mk we r HL7.out (Kd.C_below HR7.out HBE.out) HL8.out (Kd.C_below HR8.out HBE.out))) (Nat.le_refl _) (fun q hq => by rw [List.mem_singleton.1 hq]; exact HSZ.out) (wrong_one l r H2.out)⟩
        have HXE := Aside0.mk (blk_below HXD.out hbe)
        have HVAE := Aside0.mk (Kd.R_below HVAD.out hbe)
        have HVBE := Aside0.mk (Kd.R_below HVBD.out hbe)
        have HCXE := Aside0.mk (Kd.C_below HCX.out hbe)
        have HWE := Aside0.mk hwe
        obtain ⟨q0, q1, q2, q3, q4, q5, q6, q7, q8⟩ := rec_cells HXD.out
        clear hwe hbe hle HXD HVAD HVBD HCX HBD
        go_wp2_with fail
        rw [← HWE.out]
        refine HK2.out.mono ?_
        rintro e wk ⟨AY, cY, rfl, jY, JY, hbk⟩
        have HXK := Aside0.mk (blk_below HXE.out hbk)
        have HBK : Aside0 (Below w.heap.size w wk) := ⟨HBE.out.trans (hbk.mono HBE.out.size)⟩
        have HVAK := Aside0.mk (Kd.R_below HVAE.out hbk)
        have HVBK := Aside0.mk (Kd.R_below HVBE.out hbk)
        have HCXK := Aside0.mk (Kd.C_below HCXE.out hbk)
        have HJY := Aside0.mk jY
        have HCYK := Aside0.mk JY
        have FLK : Aside0 (Kd.F k35 wk (fun k => k < wk.heap.size) A0 l.length l) := ⟨Kd.C_F heapRg (Kd.C_below HR0.out HBK.out)⟩
        have FRK : Aside0 (Kd.FK k35 wk (fun k => k < wk.heap.size) r [.int .i64 r.f0, .int .i64 r.f1, .int .i64 r.f2, .int .i64 r.f3, .string r.f4, .string r.f5, .bool r.f6, .slice A7 r.f7.length c7, .slice A8 r.f8.length c8]) := ⟨k35_mkF wk (fun k => k < wk.heap.size) r HL7.out (Kd.C_F Kd.heap_string (Kd.C_below HR7.out HBK.out)) HL8.out (Kd.C_F heapWg (Kd.C_below HR8.out HBK.out))⟩
        have HKEY : Aside0 (∀ W A c, Kd.C k35 W A (l ++ [r]).length (l ++ [r]) → l.length + 1 ≤ c → Calls Try.prog 28 #[.slice A (l.length + 1) c] W fun e w' => ∃ A c, e = .returned (.tuple #[.slice A (bytesOfL (kl (l ++ [r]))).length c, .int .i64 0]) ∧ (bytesOfL (kl (l ++ [r]))).length ≤ c ∧ Kd.C Kd.string w' A (bytesOfL (kl (l ++ [r]))).length (bytesOfL (kl (l ++ [r]))) ∧ Below W.heap.size W w') := ⟨fun W A c hC hc => by
          have h := keys_is A c (l ++ [r]) W hC (by rw [HLN.out]; exact hc) (fun q hq => by rcases List.mem_append.1 hq with hq | hq; exact HS0.out q hq; rw [List.mem_singleton.1 hq]; exact HSZ.out) H2.out
          rw [HLN.out] at h
          exact h⟩
        clear q0 q1 q2 q3 q4 q5 q6 q7 q8 hbk jY JY HK2 HXE HBE HVAE HVBE HCXE HWE
        obtain ⟨q0, q1, q2, q3, q4, q5, q6, q7, q8⟩ := rec_cells HXK.out
        obtain ⟨p0, p1, p2, p3, p4, p5, p6, p7, p8⟩ := rec_cells (blk_alloc HXK.out (.cells #[] 35))
        go_upto_region 11 with (fail)
        go_cut [13, 14] (fun va vb wd => ∃ A c, va = .slice A (bytesOfL (kl (l ++ [r]))).length c ∧ vb = .int .i64 0 ∧ Aside0 ((bytesOfL (kl (l ++ [r]))).length ≤ c) ∧ Aside0 (Kd.C Kd.string wd A (bytesOfL (kl (l ++ [r]))).length (bytesOfL (kl (l ++ [r])))) ∧ Aside0 (Below wk.heap.size wk wd))
        case first =>
          go_region_law (first
            | (refine Kd.N_append_rows_step k35 (w0 := wk) wk.heap.size (by rfl) (.tmp 65) (.tmp 66) 22 35 (.agg #[.int .i64 0, .int .i64 0, .int .i64 0, .int .i64 0, .string ⟨#[]⟩, .string ⟨#[]⟩, .bool false, .slice none 0 0, .slice none 0 0]) 120 rfl Try.underlying22 infoRg rfl (by decide) (by decide) (.slice (some ⟨wk.heap.size, 0, none⟩) 0 0) [] l A0 l.length c0 (fun _ => True) (fun k => k < wk.heap.size) rfl rfl (by repeat (with_reducible first | exact emptyN' _ _ _ _ _ (by simp) (by first | (simp; done) | (simp; omega)) | refine Kd.N_drew ?_ | refine Kd.N_alloc ?_ _)) (Kd.F_below FLK.out (by repeat (with_reducible first | exact Below.refl _ _ | exact HB1.out | exact HB2.out | apply below_drew1 | apply below_alloc))) (fun k hk => ⟨trivial, by simp [Value.ownBlock]; omega⟩) (fun _ _ => trivial) (by repeat (with_reducible first | exact Below.refl _ _ | exact HB1.out | exact HB2.out | apply below_drew1 | apply below_alloc)) (by first | (simp; done) | (simp; omega)) (by have := HN200.out; simp; omega) ?_; intro v1 w1 hn1 hb1 hg1 hat1; rw [List.nil_append] at hn1; obtain ⟨A3, c3, rfl⟩ := Kd.N_slice hn1; have HN1 := Aside0.mk hn1; have HB1 := Aside0.mk hb1; have HAT1 := Aside0.mk hat1; obtain ⟨u0, u1, u2, u3, u4, u5, u6, u7, u8⟩ := rec_cells (blk_below HXK.out hb1); (first | (have HG1 := Aside0.mk (blk_grown (g := wk.heap.size + 1) (o := .cells #[.int .i64 r.f0, .int .i64 r.f1, .int .i64 r.f2, .int .i64 r.f3, .string r.f4, .string r.f5, .bool r.f6, .slice A7 r.f7.length c7, .slice A8 r.f8.length c8] 35 (0, 0)) (by first | exact blk_drew (blk_newI (by simp)) | exact blk_newI (by simp)) hg1 (by simp [Value.ownBlock]))) | (have HG1 := Aside0.mk (blk_grown (g := wk.heap.size) (o := .cells #[.int .i64 r.f0, .int .i64 r.f1, .int .i64 r.f2, .int .i64 r.f3, .string r.f4, .string r.f5, .bool r.f6, .slice A7 r.f7.length c7, .slice A8 r.f8.length c8] 35 (0, 0)) (by first | exact blk_drew (blk_alloc (blk_new _ _) _) | exact blk_alloc (blk_new _ _) _) hg1 (by simp [Value.ownBlock]))) | skip); clear hn1 hb1 hg1 hat1)
            | (refine Kd.N_append_rows_step k35 (w0 := wk) wk.heap.size (by rfl) (.tmp 65) (.tmp 66) 22 35 (.agg #[.int .i64 0, .int .i64 0, .int .i64 0, .int .i64 0, .string ⟨#[]⟩, .string ⟨#[]⟩, .bool false, .slice none 0 0, .slice none 0 0]) 120 rfl Try.underlying22 infoRg rfl (by decide) (by decide) (.slice (some ⟨(wk.heap.size + 1), 0, none⟩) 0 0) [] l A0 l.length c0 (fun _ => True) (fun k => k < wk.heap.size) rfl rfl (by repeat (with_reducible first | exact emptyN' _ _ _ _ _ (by simp) (by first | (simp; done) | (simp; omega)) | refine Kd.N_drew ?_ | refine Kd.N_alloc ?_ _)) (Kd.F_below FLK.out (by repeat (with_reducible first | exact Below.refl _ _ | exact HB1.out | exact HB2.out | apply below_drew1 | apply below_alloc))) (fun k hk => ⟨trivial, by simp [Value.ownBlock]; omega⟩) (fun _ _ => trivial) (by repeat (with_reducible first | exact Below.refl _ _ | exact HB1.out | exact HB2.out | apply below_drew1 | apply below_alloc)) (by first | (simp; done) | (simp; omega)) (by have := HN200.out; simp; omega) ?_; intro v1 w1 hn1 hb1 hg1 hat1; rw [List.nil_append] at hn1; obtain ⟨A3, c3, rfl⟩ := Kd.N_slice hn1; have HN1 := Aside0.mk hn1; have HB1 := Aside0.mk hb1; have HAT1 := Aside0.mk hat1; obtain ⟨u0, u1, u2, u3, u4, u5, u6, u7, u8⟩ := rec_cells (blk_below HXK.out hb1); (first | (have HG1 := Aside0.mk (blk_grown (g := wk.heap.size + 1) (o := .cells #[.int .i64 r.f0, .int .i64 r.f1, .int .i64 r.f2, .int .i64 r.f3, .string r.f4, .string r.f5, .bool r.f6, .slice A7 r.f7.length c7, .slice A8 r.f8.length c8] 35 (0, 0)) (by first | exact blk_drew (blk_newI (by simp)) | exact blk_newI (by simp)) hg1 (by simp [Value.ownBlock]))) | (have HG1 := Aside0.mk (blk_grown (g := wk.heap.size) (o := .cells #[.int .i64 r.f0, .int .i64 r.f1, .int .i64 r.f2, .int .i64 r.f3, .string r.f4, .string r.f5, .bool r.f6, .slice A7 r.f7.length c7, .slice A8 r.f8.length c8] 35 (0, 0)) (by first | exact blk_drew (blk_alloc (blk_new _ _) _) | exact blk_alloc (blk_new _ _) _) hg1 (by simp [Value.ownBlock]))) | skip); clear hn1 hb1 hg1 hat1)
            | (refine Kd.N_append_rows_step k35 (w0 := wk) wk.heap.size (by rfl) (.tmp 67) (.tmp 69) 22 35 (.agg #[.int .i64 0, .int .i64 0, .int .i64 0, .int .i64 0, .string ⟨#[]⟩, .string ⟨#[]⟩, .bool false, .slice none 0 0, .slice none 0 0]) 120 rfl Try.underlying22 infoRg rfl (by decide) (by decide) (.slice A3 l.length c3) l [r] (some ⟨(wk.heap.size + 1), 0, none⟩) 1 1 (fun _ => True) (fun k => k < wk.heap.size ∨ k = (wk.heap.size + 1)) rfl rfl (by repeat (with_reducible first | exact HN1.out | refine Kd.N_drew ?_ | refine Kd.N_alloc ?_ _)) (F_one (cs := #[.int .i64 r.f0, .int .i64 r.f1, .int .i64 r.f2, .int .i64 r.f3, .string r.f4, .string r.f5, .bool r.f6, .slice A7 r.f7.length c7, .slice A8 r.f8.length c8]) (e := 35) (by first | exact HG1.out | exact blk_drew HG1.out) (Kd.FK_mono (Kd.FK_step FRK.out (fun k hk hlt => (by repeat (with_reducible first | exact Below.refl _ _ | exact HB1.out | exact HB2.out | apply below_drew1 | apply below_alloc) : Below wk.heap.size wk _).block k hlt)) (fun k hk => .inl hk)) (.inr rfl)) (fun k hk => ⟨trivial, by rcases hk with hk | rfl; exact fun e => absurd (Kd.N_base HN1.out k e.symm) (by omega); exact own_apart (g0 := wk.heap.size) HAT1.out rfl (by omega) (by first | (simp; done) | (simp; omega))⟩) (fun _ _ => trivial) (by repeat (with_reducible first | exact Below.refl _ _ | exact HB1.out | exact HB2.out | apply below_drew1 | apply below_alloc)) (by have := HB1.out.size; first | omega | (simp; omega)) (by have := HN200.out; simp; omega) ?_; intro v2 w2 hn2 hb2 hg2 hat2; obtain ⟨A5, c5, rfl⟩ := Kd.N_slice hn2; rw [HLN.out]; rw [HLN.out] at hn2; have HN2 := Aside0.mk hn2; have HB2 := Aside0.mk hb2; clear hn2 hb2 hg2 hat2)
            | (refine Kd.N_append_rows_step k35 (w0 := wk) wk.heap.size (by rfl) (.tmp 67) (.tmp 69) 22 35 (.agg #[.int .i64 0, .int .i64 0, .int .i64 0, .int .i64 0, .string ⟨#[]⟩, .string ⟨#[]⟩, .bool false, .slice none 0 0, .slice none 0 0]) 120 rfl Try.underlying22 infoRg rfl (by decide) (by decide) (.slice A3 l.length c3) l [r] (some ⟨wk.heap.size, 0, none⟩) 1 1 (fun _ => True) (fun k => k < wk.heap.size ∨ k = wk.heap.size) rfl rfl (by repeat (with_reducible first | exact HN1.out | refine Kd.N_drew ?_ | refine Kd.N_alloc ?_ _)) (F_one (cs := #[.int .i64 r.f0, .int .i64 r.f1, .int .i64 r.f2, .int .i64 r.f3, .string r.f4, .string r.f5, .bool r.f6, .slice A7 r.f7.length c7, .slice A8 r.f8.length c8]) (e := 35) (by first | exact HG1.out | exact blk_drew HG1.out) (Kd.FK_mono (Kd.FK_step FRK.out (fun k hk hlt => (by repeat (with_reducible first | exact Below.refl _ _ | exact HB1.out | exact HB2.out | apply below_drew1 | apply below_alloc) : Below wk.heap.size wk _).block k hlt)) (fun k hk => .inl hk)) (.inr rfl)) (fun k hk => ⟨trivial, by rcases hk with hk | rfl; exact fun e => absurd (Kd.N_base HN1.out k e.symm) (by omega); exact own_apart (g0 := wk.heap.size + 1) HAT1.out rfl (by omega) (by first | (simp; done) | (simp; omega))⟩) (fun _ _ => trivial) (by repeat (with_reducible first | exact Below.refl _ _ | exact HB1.out | exact HB2.out | apply below_drew1 | apply below_alloc)) (by have := HB1.out.size; first | omega | (simp; omega)) (by have := HN200.out; simp; omega) ?_; intro v2 w2 hn2 hb2 hg2 hat2; obtain ⟨A5, c5, rfl⟩ := Kd.N_slice hn2; rw [HLN.out]; rw [HLN.out] at hn2; have HN2 := Aside0.mk hn2; have HB2 := Aside0.mk hb2; clear hn2 hb2 hg2 hat2)
            | (refine Kd.N_append_rows_step k35 (w0 := wk) wk.heap.size (by rfl) (.tmp 67) (.tmp 69) 22 35 (.agg #[.int .i64 0, .int .i64 0, .int .i64 0, .int .i64 0, .string ⟨#[]⟩, .string ⟨#[]⟩, .bool false, .slice none 0 0, .slice none 0 0]) 120 rfl Try.underlying22 infoRg rfl (by decide) (by decide) (.slice A3 l.length c3) l [r] (some ⟨w1.heap.size, 0, none⟩) 1 1 (fun _ => True) (fun k => k < wk.heap.size ∨ k = w1.heap.size) rfl rfl (by repeat (with_reducible first | exact HN1.out | refine Kd.N_drew ?_ | refine Kd.N_alloc ?_ _)) (F_one (cs := #[.int .i64 r.f0, .int .i64 r.f1, .int .i64 r.f2, .int .i64 r.f3, .string r.f4, .string r.f5, .bool r.f6, .slice A7 r.f7.length c7, .slice A8 r.f8.length c8]) (e := 35) (by (with_reducible repeat (first | refine blk_drew ?_)); exact blk_newI rfl) (Kd.FK_mono (Kd.FK_step FRK.out (fun k hk hlt => (by repeat (with_reducible first | exact Below.refl _ _ | exact HB1.out | exact HB2.out | apply below_drew1 | apply below_alloc) : Below wk.heap.size wk _).block k hlt)) (fun k hk => .inl hk)) (.inr rfl)) (fun k hk => ⟨trivial, by rcases hk with hk | rfl; exact fun e => absurd (Kd.N_base HN1.out k e.symm) (by omega); exact fun e => absurd (N_own_lt HN1.out e.symm) (by omega)⟩) (fun _ _ => trivial) (by repeat (with_reducible first | exact Below.refl _ _ | exact HB1.out | exact HB2.out | apply below_drew1 | apply below_alloc)) (by have := HB1.out.size; first | omega | (simp; omega)) (by have := HN200.out; simp; omega) ?_; intro v2 w2 hn2 hb2 hg2 hat2; obtain ⟨A5, c5, rfl⟩ := Kd.N_slice hn2; rw [HLN.out]; rw [HLN.out] at hn2; have HN2 := Aside0.mk hn2; have HB2 := Aside0.mk hb2; clear hn2 hb2 hg2 hat2)
            | (go_simp; go_at_call 28; refine (HKEY.out _ A5 c5 (Kd.N_reads' (by repeat (with_reducible first | exact HN2.out | refine Kd.N_drew ?_ | refine Kd.N_alloc ?_ _))).2.2 (Kd.N_reads' HN2.out).2.1).mono ?_; rintro e w3 ⟨A6, c6, rfl, j6, J6, hb6⟩; have HJ6 := Aside0.mk j6; have HC6 := Aside0.mk J6; have HB6 := Aside0.mk hb6; clear j6 J6 hb6))
          all_goals (try go_wp2_with fail)
          all_goals go_meet
          all_goals (case rel => exact ⟨A6, c6, rfl, rfl, HJ6, HC6, ⟨HB2.out.trans (HB6.out.mono HB2.out.size)⟩⟩)
        case rest =>
          obtain ⟨AZ, cZ, rfl, rfl, HJZ, HCZ, HBC⟩ := hcut
          obtain ⟨wn, hwn⟩ : ∃ wn, wn = wc := ⟨_, rfl⟩
          subst hwn
          have HBN : Aside0 (Below w.heap.size w wn) := ⟨HBK.out.trans (HBC.out.mono HBK.out.size)⟩
          have HVAN := Aside0.mk (Kd.R_below HVAK.out HBC.out)
          have HVBN := Aside0.mk (Kd.R_below HVBK.out HBC.out)
          have FX : Aside0 (Kd.F Kd.string wn (fun k => k < wn.heap.size) AX (bytesOfL (kl l)).length (bytesOfL (kl l))) := ⟨Kd.C_F Kd.heap_string (Kd.C_below HCXK.out HBC.out)⟩
          have FY : Aside0 (Kd.F Kd.string wn (fun k => k < wn.heap.size) AY (bytesOfL (kl [r])).length (bytesOfL (kl [r]))) := ⟨Kd.C_F Kd.heap_string (Kd.C_below HCYK.out HBC.out)⟩
          have hw1 := wrong_one l r H2.out
          have HLX : Aside0 ((bytesOfL (kl l)).length ≤ 100000 ∧ (bytesOfL (kl [r])).length ≤ 100000 ∧ (bytesOfL (kl (l ++ [r]))).length ≤ 100000) := ⟨by unfold bytesOfL; rw [List.length_map, List.length_map, List.length_map]; exact ⟨kl_len l H1.out, kl_len [r] hw1, kl_len _ H2.out⟩⟩
          have HSX : Aside0 (∀ s ∈ bytesOfL (kl l) ++ bytesOfL (kl [r]), s.size ≤ maxLen) := ⟨fun s hs => by rcases List.mem_append.1 hs with h | h; exact key_small l H1.out s h; exact key_small [r] hw1 s h⟩
          have HSY : Aside0 (∀ s ∈ bytesOfL (kl (l ++ [r])), s.size ≤ maxLen) := ⟨fun s hs => key_small _ H2.out s hs⟩
          have hsx : strs (bytesOfL (kl l) ++ bytesOfL (kl [r])) = kl l ++ kl [r] := by rw [strs_app, strs_bytes, strs_bytes]
          have HMEM : Aside0 (∀ s ∈ bytesOfL (kl (l ++ [r])), s.data.toList ∈ strs (bytesOfL (kl l) ++ bytesOfL (kl [r]))) := ⟨fun s hs => by
            rw [hsx, ← mem_uniq, kl_grow, ← strs_bytes (kl (l ++ [r]))]
            exact List.mem_map.2 ⟨s, hs, rfl⟩⟩
          have HLENM : Aside0 (((uniq (strs (bytesOfL (kl l) ++ bytesOfL (kl [r])))).map litOf).length = (bytesOfL (kl (l ++ [r]))).length) := ⟨by
            rw [hsx, kl_grow, List.length_map]
            unfold bytesOfL
            rw [List.length_map]⟩
          have HAB := Aside0.mk (admit_grow l r)
          clear hsx hw1 HBK HBC HXK HVAK HVBK HCXK HCYK FLK FRK HKEY q0 q1 q2 q3 q4 q5 q6 q7 q8 p0 p1 p2 p3 p4 p5 p6 p7 p8 HJX HJY HJZ H1 H2 HR0 HC0 HS0 HR7 HR8 HL7 HL8 HSZ hmax h7m h8m hu HN200
          generalize bytesOfL (kl l) = X at *
          generalize bytesOfL (kl [r]) = Y at *
          generalize bytesOfL (kl (l ++ [r])) = Z at *
          generalize admitTo l l.length = AL at *
          rw [HLN.out] at HVBN HAB
          (try rw [HLN.out])
          generalize admitTo (l ++ [r]) (l.length + 1) = BL at *
          have hmm := @run_makeMap Try.prog
          go_wp2_with (first
            | (at_builtin; refine Kd.N_append_rows Kd.string (w0 := (wn.alloc (.map #[] 0))) (wn.alloc (.map #[] 0)).heap.size rfl (.tmp 75) (.tmp 76) 32 9 (.string ⟨#[]⟩) 16 rfl Try.underlying32 info9 rfl (by decide) (by decide) (.slice (some ⟨wn.heap.size + 1, 0, none⟩) 0 0) [] X AX X.length cX (fun k => k ≠ wn.heap.size) (fun k => k < wn.heap.size) rfl rfl (emptyNo Kd.string 9 (wn.alloc (.map #[] 0)) (wn.alloc (.map #[] 0)).heap.size (wn.heap.size + 1) _ (by simp) (Nat.le_refl _) (by omega)) (Kd.F_below FX.out (below_alloc (below_alloc (Below.refl _ _) _) _)) (fun k hk => ⟨by omega, by simp [Value.ownBlock]; omega⟩) (fun k hk => by simp at hk; omega) (below_alloc (Below.refl _ _) _) (by simp) (by have := HLX.out; simp; omega) ?_; intro v1 w1 hn1 hb1 hg1 hat1; rw [List.nil_append] at hn1; obtain ⟨A3, c3, rfl⟩ := Kd.N_slice hn1; have HN1 := Aside0.mk hn1; have HB1 := Aside0.mk hb1; clear hn1 hb1 hg1 hat1)
            | (at_builtin; refine Kd.N_append_rows Kd.string (w0 := (wn.alloc (.map #[] 0))) (wn.alloc (.map #[] 0)).heap.size rfl (.tmp 77) (.tmp 78) 32 9 (.string ⟨#[]⟩) 16 rfl Try.underlying32 info9 rfl (by decide) (by decide) (.slice A3 X.length c3) X Y AY Y.length cY (fun k => k ≠ wn.heap.size) (fun k => k < wn.heap.size) rfl rfl HN1.out (Kd.F_below FY.out ((below_alloc (Below.refl _ _) _).trans (HB1.out.mono (by simp)))) (fun k hk => ⟨by omega, fun e => absurd (Kd.N_base HN1.out k e.symm) (by simp; omega)⟩) (fun k hk => by have := HB1.out.size; simp at this; omega) HB1.out HB1.out.size (by have := HLX.out; omega) ?_; intro v2 w2 hn2 hb2 hg2 hat2; obtain ⟨A5, c5, rfl⟩ := Kd.N_slice hn2; have HN2 := Aside0.mk hn2; have HB2 := Aside0.mk hb2; have HLL : Aside0 ((X ++ Y).length ≤ 200000) := ⟨by have := HLX.out; rw [List.length_append]; omega⟩; clear hn2 hb2 hg2 hat2 HN1 HB1 FX FY; generalize X ++ Y = L at *))
          have HM0 : Aside0 (∃ n, n ≤ 0 ∧ MapL Try.prog 9 w2 wn.heap.size n (setF (strs (L.take 0)))) := ⟨0, Nat.le_refl _, by
            rw [show strs (L.take 0) = [] from rfl, setF_nil]
            exact (MapL.made Try.prog 9 wn).below HB2.out⟩
          have HF0 : Aside0 (Kd.F Kd.string w2 (fun k => k ≠ wn.heap.size) A5 L.length L) := ⟨N_Fg HN2.out⟩
          have HBW0 : Aside0 (Below wn.heap.size wn w2) := ⟨(below_alloc (Below.refl _ _) _).trans (HB2.out.mono (by simp))⟩
          clear HN2 HB2 HLX hmm
          go_loopw [81] (fun v wz => ∃ i : Nat, i ≤ L.length ∧ v = .int .i64 (i : Int) ∧ Aside0 (∃ n, n ≤ i ∧ MapL Try.prog 9 wz wn.heap.size n (setF (strs (L.take i)))) ∧ Aside0 (Kd.F Kd.string wz (fun k => k ≠ wn.heap.size) A5 L.length L) ∧ Aside0 (Below wn.heap.size wn wz)) (fun i _ => L.length - (intOf i).toNat)
          case atStart => exact ⟨0, Nat.zero_le _, rfl, HM0, HF0, HBW0⟩
          case round =>
            clear HM0 HF0 HBW0
            obtain ⟨i, hi, rfl, HM, HF, HB⟩ := hrel
            have hll := HLL.out
            by_cases hlt : i < L.length
            · obtain ⟨ad, rfl, z0⟩ := strAt (Kd.F_now HF.out) i hlt
              have HKY := Aside0.mk (key_lit (HSX.out _ (List.getElem_mem hlt)))
              have HST : Aside0 (lput (setF (strs (L.take i))) (litOf L[i].data.toList) (.bool true) = setF (strs (L.take (i + 1)))) := ⟨by rw [setF_put, strs_take L i hlt]⟩
              generalize L[i] = s at z0 HKY HST
              obtain ⟨n, hn, hm⟩ := HM.out
              have HMM := Aside0.mk hm
              have HNB : Aside0 (n < maxLen) := ⟨by have := HLL.out; unfold maxLen; omega⟩
              clear hm HM
              go_wp2_with (at_mapUpdate; refine MapL.store HMM.out keyedG rfl _ _ _ 64 4 rfl Try.underlying64 HNB.out rfl rfl HKY.out (.bool true) rfl ?_; intro w9 hm9 hg9; rw [HST.out] at hm9; have HM9 := Aside0.mk hm9; have HF9 : Aside0 (Kd.F Kd.string w9 (fun k => k ≠ wn.heap.size) (some ad) L.length L) := ⟨Kd.F_step HF.out (fun k hk hlt => hg9.block k hlt (fun e => hk (by injection e)))⟩; have HB9 : Aside0 (Below wn.heap.size wn w9) := ⟨HB.out.grown hg9 HB.out.size (fun j hj => by cases hj; exact Nat.le_refl _)⟩; clear hm9 hg9 z0)
              go_roundw
              case rel => exact ⟨i + 1, by omega, by go_num, ⟨n + 1, by omega, HM9.out⟩, HF9, HB9⟩
              case measure => simp [intOf]; omega
            · obtain rfl : i = L.length := by omega
              obtain ⟨n, hn, hm⟩ := HM.out
              rw [List.take_length] at hm
              have HMM := Aside0.mk hm
              obtain ⟨wq, hwq⟩ : ∃ wq, wq = wr := ⟨_, rfl⟩
              subst hwq
              have HZ := Aside0.mk (Kd.C_below HCZ.out HB.out)
              have hzm := Kd.C_max HZ.out
              have HBQ : Aside0 (Below w.heap.size w wq) := ⟨HBN.out.trans (HB.out.mono HBN.out.size)⟩
              have HVAQ := Aside0.mk (Kd.R_below HVAN.out HB.out)
              have HVBQ := Aside0.mk (Kd.R_below HVBN.out HB.out)
              clear hm HM hn HF HB HBN HVAN HVBN HCZ HSX
              go_wp2_with fail
              go_loopw [90] (fun v wz => ∃ i : Nat, i ≤ Z.length ∧ v = .int .i64 (i : Int) ∧ wz = wq) (fun i _ => Z.length - (intOf i).toNat)
              case atStart => exact ⟨0, Nat.zero_le _, rfl, rfl⟩
              case round =>
                obtain ⟨i, hi, rfl, rfl⟩ := hrel
                by_cases hlt : i < Z.length
                · obtain ⟨ad, rfl, z0⟩ := strAt HZ.out i hlt
                  have HKY := Aside0.mk (key_lit (HSY.out _ (List.getElem_mem hlt)))
                  have HST : Aside0 (setF (strs L) (litOf Z[i].data.toList) = some (.bool true)) := ⟨setF_has _ _ (HMEM.out _ (List.getElem_mem hlt))⟩
                  generalize Z[i] = s at z0 HKY HST
                  go_wp2_with (at_lookup; refine MapL.at_ HMM.out keyedG rfl _ _ 64 4 rfl Try.underlying64 (zeroBg _) rfl rfl HKY.out ?_; rw [HST.out])
                  go_roundw
                  case rel => exact ⟨i + 1, by omega, by go_num, by first | rfl | trivial⟩
                  case measure => simp [intOf]; omega
                · obtain rfl : i = Z.length := by omega
                  obtain ⟨rest, hab⟩ := HAB.out
                  have hle : AL.length ≤ BL.length := by rw [hab, List.length_append]; omega
                  have HCA := (Kd.R_reads' HVAQ.out).2.2
                  have HCB0 := (Kd.R_reads' HVBQ.out).2.2
                  have hcb := (Kd.R_reads' HVBQ.out).2.1
                  have HCB : Kd.C (Kd.int .i64) wr AB AL.length AL := by
                    have h := Kd.C_take (m := AL.length) HCB0 hle
                    rw [show BL.take AL.length = AL by rw [hab, List.take_left']; rfl] at h
                    exact h
                  have HSI := Aside0.mk (sameInts_eq wr AB AA cB cA AL HCB HCA)
                  obtain ⟨i0, hi0, _, hsz, _⟩ := info_parts info3A
                  have hcut := cut_to (P := Try.prog) 59 3 .i64 Try.underlying59 hi0 AB BL.length cB (AL.length : Int) (by omega) (by omega) hcb
                  rw [Int.toNat_natCast] at hcut
                  have d1 : decide ((AL.length : Int) ≤ (BL.length : Int)) = true := decide_eq_true (by omega)
                  have d2 : decide ((BL.length : Int) ≥ (AL.length : Int)) = true := decide_eq_true (by omega)
                  clear hab HCA HCB0 HCB hcb hi0 hsz
                  go_wp2_with (refine unguardG (by rfl) ?_; refine MapL.len HMM.out keyedG rfl _ 64 4 rfl Try.underlying64 rfl ((uniq (strs L)).map litOf) (setF_nodup _) (setF_iff _) ?_; rw [HLENM.out])
                  refine HSI.out.mono ?_
                  rintro e wl ⟨rfl, hbl⟩
                  have HBL : Aside0 (Below w.heap.size w wl) := ⟨HBQ.out.trans (hbl.mono HBQ.out.size)⟩
                  clear hbl HSI
                  go_wp2_with fail
                  go_ret
                  exact ⟨rfl, HBL.out⟩
      · have e1 : (wrongV (l ++ [r]) != 0) = true := by simpa using h2
        rw [h1]
        have e2 : ((0 : Int) == wrongV (l ++ [r])) = false := by simpa using fun h => h2 h.symm
        clear h1 h2
        generalize wrongV (l ++ [r]) = wv at *
        go_wp2_with fail
        go_ret
        exact ⟨rfl, HBB.out⟩
    · rw [wrong_grow l r HN200.out h1]
      have e1 : (wrongV l != 0) = true := by simpa using h1
      have e2 : (wrongV l == wrongV l) = true := by simp
      clear h1
      generalize wrongV l = wv at *
      go_wp2_with fail
      go_ret
      exact ⟨rfl, HBB.out⟩
theorem locksGrow_walk (w : World) {l : List S35} {A0 : Option Addr} {c0 : Nat} (hc0 : l.length ≤ c0) (hr0 : Kd.C k35 w A0 l.length l) (g0 : l.length * 120 ≤ 140737488351232 ∧ ∀ r, r ∈ l → okRec r) (r : S35) {A7 : Option Addr} {c7 : Nat} {A8 : Option Addr} {c8 : Nat} (l7 : r.f7.length ≤ c7) (g7 : Kd.C Kd.string w A7 r.f7.length r.f7) (l8 : r.f8.length ≤ c8) (g8 : Kd.C k56 w A8 r.f8.length r.f8) (gr : okRec r) :
    Calls Try.prog 7 #[.slice A0 l.length c0, .agg #[.int .i64 r.f0, .int .i64 r.f1, .int .i64 r.f2, .int .i64 r.f3, .string r.f4, .string r.f5, .bool r.f6, .slice A7 r.f7.length c7, .slice A8 r.f8.length c8]] w fun e w' => e = .returned (.bool true) ∧ Below w.heap.size w w' :=
  locksGrow_core w hc0 hr0 (fun r hr => size_rec (g0.2 r hr)) r A7 c7 A8 c8 g7 l7 g8 l8 (size_rec gr)
end Go.Proofs.Ytaldfbmjmpkmmaa.PL.Lk
