/- LocksShelf: the walk. -/
import Derived.Test.YtaldfbmjmpkmmaaMdce0c3
import Derived.Test.YtaldfbmjmpkmmaaM01f55c
import Derived.Test.YtaldfbmjmpkmmaaHShW
namespace Go.Proofs.Ytaldfbmjmpkmmaa.PL
open Go.Proofs.Ytaldfbmjmpkmmaa.PL.Lk
open Go.RowKit Go.Proofs.YtaldfbmjmpkmmaaW.PrintWords Go.Proofs.YtaldfbmjmpkmmaaW.PrintLast Go.Proofs.YtaldfbmjmpkmmaaW.PrintMore Go.Shelf Go.Maps Go.WideMaps Go.Proofs.Ytaldfbmjmpkmmaa.Mk
set_option linter.unusedVariables false
set_option linter.unusedSimpArgs false
/-- The transactions that were seen: those of the first k. -/
def seenF (l : List Rec) (k : Nat) (f : Lit → Option Value) : Prop := (∀ t : Int, (∃ j : Nat, j < k ∧ (rd_T35 l (j : Int)).f1 = t) → f (ik t) = some (.bool true)) ∧ (∀ t : Int, (¬ ∃ j : Nat, j < k ∧ (rd_T35 l (j : Int)).f1 = t) → f (ik t) = none)
theorem txn_range (l : List Rec) (hw : wrongV l = 0) (k : Nat) (hk : k < l.length) : -9223372036854775808 ≤ (rd_T35 l (k : Int)).f1 ∧ (rd_T35 l (k : Int)).f1 ≤ 9223372036854775807 := by
  have hp := (wrong_zero l hw).2 (rd_T35 l (k : Int)) (by rw [rd25_nat l k hk]; exact List.getElem_mem _)
  simp only [prepB, Bool.and_eq_true, beq_iff_eq] at hp
  have h1 := (okR_all (r := rd_T35 l (k : Int)) hp.2).1
  omega
theorem seen_next {l : List Rec} {k : Nat} {f : Lit → Option Value} (h : seenF l k f) : seenF l (k + 1) (lput f (ik (rd_T35 l (k : Int)).f1) (.bool true)) := by
  refine ⟨fun t ⟨j, hj, e⟩ => ?_, fun t hn => ?_⟩
  · unfold lput
    split
    · rfl
    · rename_i hs
      by_cases hjk : j = k
      · subst hjk
        rw [e] at hs
        exact absurd (by simp [ik, Lit.sameKey]) hs
      · exact h.1 t ⟨j, by omega, e⟩
  · unfold lput
    split
    · rename_i hs
      have h2 := WideAt.sameKey_eq hs
      exact absurd ⟨k, by omega, by unfold ik at h2; injection h2 with _ e; exact e.symm⟩ hn
    · exact h.2 t (fun ⟨j, hj, e⟩ => hn ⟨j, by omega, e⟩)
theorem zeroB (w : World) : (zeroValue 4).run Try.prog w = .ok (.bool false) w := by kernel_rfl
set_option maxRecDepth 100000 in
set_option maxHeartbeats 16000000 in
theorem locksShelf_core (w : World) {l : List Rec} {A0 : Option Addr} {c0 : Nat} (hc0 : l.length ≤ c0) (hr0 : Kd.C k35 w A0 l.length l) (g0 : ∀ r, r ∈ l → sizesOk r) :
    Calls Try.prog 9 #[.slice A0 l.length c0] w fun e w' => e = .returned (.bool true) ∧ Below w.heap.size w w' := by
  have hmax := Kd.C_max hr0
  have HR := Aside0.mk hr0
  have HG := Aside0.mk g0
  have HLW := Aside0.mk (Lk.works_walk w)
  have HAD := Aside0.mk (fun (w2 : World) (hb : Below w.heap.size w w2) => admit_walk A0 c0 l w2 (Kd.C_below hr0 hb) hc0 g0)
  have hmm := @run_makeMap Try.prog
  clear hr0 g0
  go_enter Try.func9, Try.ntmps9
  go_wp2_with fail
  refine HLW.out.mono ?_
  rintro e w1 ⟨rfl, hb1⟩
  have HB1 := Aside0.mk hb1
  have HAD1 := Aside0.mk (HAD.out w1 hb1)
  clear hb1 HLW HAD
  go_wp2_with fail
  refine HAD1.out.mono ?_
  rintro e w2 ⟨vI, rfl, hRI, hb2⟩
  have HB2 : Aside0 (Below w.heap.size w w2) := ⟨HB1.out.trans (hb2.mono HB1.out.size)⟩
  obtain ⟨AI, cI, rfl⟩ := Kd.R_slice hRI
  have HRI := Aside0.mk (Kd.R_lower hRI (Nat.zero_le _))
  clear hRI hb2 HAD1 HB1
  by_cases hw0 : wrongV l = 0
  · have hav : admitV l = (admitTo l l.length, 0) := by unfold admitV; rw [if_pos hw0]
    rw [hav] at HRI ⊢
    have hle := admitTo_len l l.length
    have hl256 := (wrong_zero l hw0).1
    go_wp2_with fail
    obtain ⟨w3, hw3⟩ : ∃ w3, w3 = w2.alloc (.map #[] 0) := ⟨_, rfl⟩
    have hb3 : Below w2.heap.size w2 w3 := by rw [hw3]; exact below_alloc (Below.refl _ _) _
    have HM3 : Aside0 (MapL Try.prog 3 w3 w2.heap.size 0 (fun _ => none)) := ⟨by rw [hw3]; exact MapL.made Try.prog 3 w2⟩
    have HB3 : Aside0 (Below w.heap.size w w3) := ⟨HB2.out.trans (hb3.mono HB2.out.size)⟩
    have HR3 : Aside0 (Kd.R (Kd.int .i64) 3 w3 0 (fun _ => True) (.slice AI (admitTo l l.length).length cI) (admitTo l l.length)) := ⟨Kd.R_below HRI.out hb3⟩
    rw [← hw3]
    have HSZ : Aside0 (w.heap.size ≤ w2.heap.size) := ⟨HB2.out.size⟩
    clear hw3 hb3 HRI HB2
    go_loopw [25] (fun v wz => ∃ (k n : Nat) (f : Lit → Option Value), k ≤ l.length ∧ n ≤ k ∧ v = .int .i64 (k : Int) ∧ Aside0 (MapL Try.prog 3 wz w2.heap.size n f) ∧ Aside0 (seenF l k f) ∧ Aside0 (∀ j : Nat, j < k → ∀ i : Nat, i < j → (rd_T35 l (i : Int)).f1 ≠ (rd_T35 l (j : Int)).f1) ∧ Aside0 (Below w.heap.size w wz) ∧ Aside0 (Kd.R (Kd.int .i64) 3 wz 0 (fun _ => True) (.slice AI (admitTo l l.length).length cI) (admitTo l l.length))) (fun i _ => l.length - (intOf i).toNat)
    case atStart => exact ⟨0, 0, _, Nat.zero_le _, Nat.le_refl _, rfl, HM3, ⟨⟨fun t ⟨j, hj, _⟩ => absurd hj (by omega), fun t _ => rfl⟩⟩, ⟨fun j hj => absurd hj (by omega)⟩, HB3, HR3⟩
    case round =>
      clear HM3 HB3 HR3
      obtain ⟨k, n, f, hk, hn, rfl, HM, HSE, HDI, HB, HRI⟩ := hrel
      by_cases hlt : k < l.length
      · obtain ⟨ad, cs, rfl, hlen, hK, hc0⟩ := Kd.C_get (Kd.C_below HR.out HB.out) (⟨0, 0, 0, 0, ⟨#[]⟩, ⟨#[]⟩, false, [], []⟩ : Rec) (k : Int) (by omega) (by omega)
        rw [Int.toNat_natCast] at hK hc0
        have hget : l.getD k (⟨0, 0, 0, 0, ⟨#[]⟩, ⟨#[]⟩, false, [], []⟩ : Rec) = rd_T35 l (k : Int) := by rw [rd25_nat l k hlt]; simp [List.getElem?_eq_getElem hlt]
        rw [hget] at hK
        have HSN := Aside0.mk (seen_next HSE.out (k := k))
        have HTR := Aside0.mk (txn_range l hw0 k hlt)
        have HSA := HSE.out
        generalize hr : rd_T35 l (k : Int) = r at *
        obtain ⟨A7, c7, A8, c8, rfl, l7, g7, l8, g8⟩ := k35_open hK
        have hc : ∀ j u, [Value.int .i64 r.f0, .int .i64 r.f1, .int .i64 r.f2, .int .i64 r.f3, .string r.f4, .string r.f5, .bool r.f6, .slice A7 r.f7.length c7, .slice A8 r.f8.length c8][j]? = some u → wr.cell? (ad.add (k * 9 + j)) = some u := hc0
        have z0 : wr.cell? (ad.add (k * 9)) = some (.int .i64 r.f0) := hc 0 _ rfl
        have z1 : wr.cell? ⟨(ad.add (k * 9)).block, (ad.add (k * 9)).off + 1, none⟩ = some (.int .i64 r.f1) := by rw [← add_field _ _ 1 (by omega)]; exact hc 1 _ rfl
        have z2 : wr.cell? ⟨(ad.add (k * 9)).block, (ad.add (k * 9)).off + 2, none⟩ = some (.int .i64 r.f2) := by rw [← add_field _ _ 2 (by omega)]; exact hc 2 _ rfl
        have z3 : wr.cell? ⟨(ad.add (k * 9)).block, (ad.add (k * 9)).off + 3, none⟩ = some (.int .i64 r.f3) := by rw [← add_field _ _ 3 (by omega)]; exact hc 3 _ rfl
        have z4 : wr.cell? ⟨(ad.add (k * 9)).block, (ad.add (k * 9)).off + 4, none⟩ = some (.string r.f4) := by rw [← add_field _ _ 4 (by omega)]; exact hc 4 _ rfl
        have z5 : wr.cell? ⟨(ad.add (k * 9)).block, (ad.add (k * 9)).off + 5, none⟩ = some (.string r.f5) := by rw [← add_field _ _ 5 (by omega)]; exact hc 5 _ rfl
        have z6 : wr.cell? ⟨(ad.add (k * 9)).block, (ad.add (k * 9)).off + 6, none⟩ = some (.bool r.f6) := by rw [← add_field _ _ 6 (by omega)]; exact hc 6 _ rfl
        have z7 : wr.cell? ⟨(ad.add (k * 9)).block, (ad.add (k * 9)).off + 7, none⟩ = some (.slice A7 r.f7.length c7) := by rw [← add_field _ _ 7 (by omega)]; exact hc 7 _ rfl
        have z8 : wr.cell? ⟨(ad.add (k * 9)).block, (ad.add (k * 9)).off + 8, none⟩ = some (.slice A8 r.f8.length c8) := by rw [← add_field _ _ 8 (by omega)]; exact hc 8 _ rfl
        clear hc hc0 hK l7 g7 l8 g8 hget hlen
        have HR0 := Aside0.mk hr
        clear hr
        obtain ⟨wz, hwz⟩ : ∃ wz, wz = wr.alloc (.cells #[.int .i64 r.f0, .int .i64 r.f1, .int .i64 r.f2, .int .i64 r.f3, .string r.f4, .string r.f5, .bool r.f6, .slice A7 r.f7.length c7, .slice A8 r.f8.length c8] 35) := ⟨_, rfl⟩
        have hbz : Below wr.heap.size wr wz := by rw [hwz]; exact below_alloc (Below.refl _ _) _
        have HMZ := Aside0.mk (HM.out.below hbz)
        have HBZ : Aside0 (Below w.heap.size w wz) := ⟨HB.out.trans (hbz.mono HB.out.size)⟩
        have HRZ := Aside0.mk (Kd.R_below HRI.out hbz)
        have HWZ := Aside0.mk hwz
        have HNB : Aside0 (n < maxLen) := ⟨Nat.lt_of_le_of_lt (show n ≤ 256 by omega) (by decide)⟩
        clear hwz hbz HM HRI HB
        by_cases hse : ∃ j : Nat, j < k ∧ (rd_T35 l (j : Int)).f1 = r.f1
        · have HV : Aside0 ((f (ik r.f1)).getD (.bool false) = .bool true) := ⟨by rw [HSE.out.1 _ hse]; rfl⟩
          clear hse
          go_wp2_with (at_lookup; rw [← HWZ.out]; refine MapL.at_ HMZ.out keyedI rfl _ _ 71 4 rfl Try.underlying71 (zeroB _) rfl rfl (key_ik HTR.out) ?_; rw [HV.out, HWZ.out])
          go_ret
          exact ⟨rfl, by rw [← HWZ.out]; exact HBZ.out⟩
        · have HV : Aside0 ((f (ik r.f1)).getD (.bool false) = .bool false) := ⟨by rw [HSE.out.2 _ hse]; rfl⟩
          have HDN : Aside0 (∀ j : Nat, j < k + 1 → ∀ i : Nat, i < j → (rd_T35 l (i : Int)).f1 ≠ (rd_T35 l (j : Int)).f1) := ⟨fun j hj i hi => by
            by_cases hjk : j = k
            · subst hjk
              rw [HR0.out]
              exact fun e => hse ⟨i, hi, e⟩
            · exact HDI.out j (by omega) i hi⟩
          clear hse
          go_wp2_with (first
            | (at_lookup; rw [← HWZ.out]; refine MapL.at_ HMZ.out keyedI rfl _ _ 71 4 rfl Try.underlying71 (zeroB _) rfl rfl (key_ik HTR.out) ?_; rw [HV.out, HWZ.out])
            | (at_mapUpdate; rw [← HWZ.out]; refine MapL.store HMZ.out keyedI rfl _ _ _ 71 4 rfl Try.underlying71 HNB.out rfl rfl (key_ik HTR.out) (.bool true) rfl ?_; intro w9 hm9 hg9; have HM9 := Aside0.mk hm9; have HG9 := Aside0.mk hg9; clear hm9 hg9))
          go_roundw
          case rel => exact ⟨k + 1, n + 1, _, by omega, by omega, by go_num, HM9, HSN, HDN, ⟨(Chg.of_grown (ok := fun g => w.heap.size ≤ g) HG9.out HSZ.out).below HBZ.out HBZ.out.size (fun g hg => hg)⟩, ⟨R_map HRZ.out HG9.out (fun _ _ => HMZ.out.not_cells)⟩⟩
          case measure => simp [intOf]; omega
      · obtain rfl : k = l.length := by omega
        obtain ⟨wo, hwo⟩ : ∃ wo, wo = wr := ⟨_, rfl⟩
        subst hwo
        have HNW := Aside0.mk (new_walk wo)
        clear HSE hlt
        go_wp2_with fail
        refine HNW.out.mono ?_
        rintro e w4 ⟨b, rfl, hs4, hb4⟩
        have HBO : Aside0 (Below w.heap.size w wo) := ⟨HB.out⟩
        have HB4 : Aside0 (Below wo.heap.size wo w4) := ⟨hb4⟩
        have HS4 : Aside0 (ShAt w4 (fun g => wo.heap.size ≤ g) b 0 sh0) := ⟨hs4⟩
        have HAI : Aside0 (Kd.C (Kd.int .i64) wo AI (admitTo l l.length).length (admitTo l l.length)) := ⟨by
          obtain ⟨A, c, he, hle2, hC⟩ := Kd.R_reads HRI.out
          injection he with e1 e2 e3
          subst e1
          exact hC⟩
        clear hs4 hb4 HNW HM HRI HB
        go_wp2_with fail
        go_loopw [9, 40] (fun v9 v40 wz => ∃ (k : Nat) (s : Sh), k ≤ l.length ∧ v9 = .int .i64 ((admitTo l k).length : Int) ∧ v40 = .int .i64 (k : Int) ∧ Aside0 (Just s (someTo l k) ∧ s.E.length ≤ 1024) ∧ Aside0 (ShAt wz (fun g => wo.heap.size ≤ g) b (16 * k) s) ∧ Aside0 (Below wo.heap.size wo wz)) (fun _ i _ => l.length - (intOf i).toNat)
        case atStart => exact ⟨0, sh0, Nat.zero_le _, rfl, rfl, ⟨Just.none, by simp [sh0]⟩, HS4, HB4⟩
        case round =>
          clear HS4 HB4
          obtain ⟨k, s, hk, rfl, rfl, HJ, HS, HBW⟩ := hrel
          have HBA : Aside0 (Below w.heap.size w wr) := ⟨HBO.out.trans (HBW.out.mono HBO.out.size)⟩
          by_cases hlt : k < l.length
          · obtain ⟨ad, cs, rfl, hlen, hK, hc0⟩ := Kd.C_get (Kd.C_below HR.out HBA.out) (⟨0, 0, 0, 0, ⟨#[]⟩, ⟨#[]⟩, false, [], []⟩ : Rec) (k : Int) (by omega) (by omega)
            rw [Int.toNat_natCast] at hK hc0
            have hget : l.getD k (⟨0, 0, 0, 0, ⟨#[]⟩, ⟨#[]⟩, false, [], []⟩ : Rec) = rd_T35 l (k : Int) := by rw [rd25_nat l k hlt]; simp [List.getElem?_eq_getElem hlt]
            rw [hget] at hK
            have hmem : rd_T35 l (k : Int) ∈ l := by rw [rd25_nat l k hlt]; exact List.getElem_mem _
            have HST := Aside0.mk (lk_step l hw0 k hlt (fun j hj => HDI.out k hlt j hj) HJ.out.1)
            have HAT := Aside0.mk (admit_at l l.length k hlt)
            have HSU := Aside0.mk (admit_succ l k)
            have HGR := Aside0.mk (HG.out _ hmem)
            have HEN := Aside0.mk (applyV_ends HJ.out.2 (rd_T35 l (k : Int)))
            clear hmem
            generalize hr : rd_T35 l (k : Int) = r at *
            have hK0 := hK
            obtain ⟨A7, c7, A8, c8, rfl, l7, g7, l8, g8⟩ := k35_open hK
            have hc : ∀ j u, [Value.int .i64 r.f0, .int .i64 r.f1, .int .i64 r.f2, .int .i64 r.f3, .string r.f4, .string r.f5, .bool r.f6, .slice A7 r.f7.length c7, .slice A8 r.f8.length c8][j]? = some u → wr.cell? (ad.add (k * 9 + j)) = some u := hc0
            have z0 : wr.cell? (ad.add (k * 9)) = some (.int .i64 r.f0) := hc 0 _ rfl
            have z1 : wr.cell? ⟨(ad.add (k * 9)).block, (ad.add (k * 9)).off + 1, none⟩ = some (.int .i64 r.f1) := by rw [← add_field _ _ 1 (by omega)]; exact hc 1 _ rfl
            have z2 : wr.cell? ⟨(ad.add (k * 9)).block, (ad.add (k * 9)).off + 2, none⟩ = some (.int .i64 r.f2) := by rw [← add_field _ _ 2 (by omega)]; exact hc 2 _ rfl
            have z3 : wr.cell? ⟨(ad.add (k * 9)).block, (ad.add (k * 9)).off + 3, none⟩ = some (.int .i64 r.f3) := by rw [← add_field _ _ 3 (by omega)]; exact hc 3 _ rfl
            have z4 : wr.cell? ⟨(ad.add (k * 9)).block, (ad.add (k * 9)).off + 4, none⟩ = some (.string r.f4) := by rw [← add_field _ _ 4 (by omega)]; exact hc 4 _ rfl
            have z5 : wr.cell? ⟨(ad.add (k * 9)).block, (ad.add (k * 9)).off + 5, none⟩ = some (.string r.f5) := by rw [← add_field _ _ 5 (by omega)]; exact hc 5 _ rfl
            have z6 : wr.cell? ⟨(ad.add (k * 9)).block, (ad.add (k * 9)).off + 6, none⟩ = some (.bool r.f6) := by rw [← add_field _ _ 6 (by omega)]; exact hc 6 _ rfl
            have z7 : wr.cell? ⟨(ad.add (k * 9)).block, (ad.add (k * 9)).off + 7, none⟩ = some (.slice A7 r.f7.length c7) := by rw [← add_field _ _ 7 (by omega)]; exact hc 7 _ rfl
            have z8 : wr.cell? ⟨(ad.add (k * 9)).block, (ad.add (k * 9)).off + 8, none⟩ = some (.slice A8 r.f8.length c8) := by rw [← add_field _ _ 8 (by omega)]; exact hc 8 _ rfl
            clear hr hc hc0 hK l7 g7 l8 g8 hget hlen
            obtain ⟨wz, hwz⟩ : ∃ wz, wz = wr.alloc (.cells #[.int .i64 r.f0, .int .i64 r.f1, .int .i64 r.f2, .int .i64 r.f3, .string r.f4, .string r.f5, .bool r.f6, .slice A7 r.f7.length c7, .slice A8 r.f8.length c8] 35) := ⟨_, rfl⟩
            have hbz : Below wr.heap.size wr wz := by rw [hwz]; exact below_alloc (Below.refl _ _) _
            have HSZ := Aside0.mk (HS.out.below hbz)
            have HBZ : Aside0 (Below wo.heap.size wo wz) := ⟨HBW.out.trans (hbz.mono HBW.out.size)⟩
            have HWZ := Aside0.mk hwz
            have hok : ∀ g, wz.heap.size ≤ g → wo.heap.size ≤ g := fun g hg => Nat.le_trans HBZ.out.size hg
            have hap := apply_walk HSZ.out HJ.out.2 hok (Nat.lt_of_le_of_lt (show 16 * k + 1024 ≤ 8192 by omega) (by decide)) r _ (k35.K_below hbz hK0) HGR.out
            have HAP := Aside0.mk hap
            have hCI := Kd.C_below HAI.out HBW.out
            clear hwz hbz hok hap hK0 HSZ HS
            cases hcl : clashes (someTo l k) r with
            | false =>
              obtain ⟨h1, h2⟩ := HAT.out.1 hcl
              obtain ⟨he, hj⟩ := HST.out.2 hcl
              have HN1 : Aside0 ((admitTo l (k + 1)).length = (admitTo l k).length + 1) := ⟨by rw [HSU.out, if_neg (by rw [hcl]; decide)]; simp⟩
              have HJN := Aside0.mk hj
              rw [he] at HAP
              obtain ⟨ad2, cs2, rfl, hlen2, hK2, hc2⟩ := Kd.C_get hCI (0 : Int) ((admitTo l k).length : Int) (by omega) (by omega)
              rw [Int.toNat_natCast] at hK2 hc2
              have hg2 : (admitTo l l.length).getD (admitTo l k).length 0 = (k : Int) := by rw [List.getD_eq_getElem?_getD, h2]; rfl
              rw [hg2] at hK2
              obtain rfl : cs2 = [.int .i64 (k : Int)] := hK2
              have x2 : wr.cell? (ad2.add (admitTo l k).length) = some (.int .i64 (k : Int)) := by have := hc2 0 _ rfl; simpa [Kd.int, Kd.scalar] using this
              have x3 : wz.cell? (ad2.add (admitTo l k).length) = some (.int .i64 (k : Int)) := by rw [HWZ.out]; exact pw_cell_below (below_alloc (Below.refl _ _) _) x2
              rw [HWZ.out] at x3
              have d1 : decide (((admitTo l k).length : Int) < ((admitTo l l.length).length : Int)) = true := decide_eq_true (by omega)
              clear h2 he hj hcl HAT HST HSU hCI hlen2 hc2 hg2
              go_wp2_with fail
              rw [← HWZ.out]
              refine HAP.out.mono ?_
              rintro e w6 ⟨rfl, hs6, hc6⟩
              have HS6 := Aside0.mk hs6
              have HB6 : Aside0 (Below wo.heap.size wo w6) := ⟨hc6.below HBZ.out HBZ.out.size (fun g hg => hg)⟩
              clear hs6 hc6 HAP
              go_wp2_with fail
              go_roundw
              case rel => exact ⟨k + 1, _, by omega, by first | (rw [HN1.out]; done) | (rw [HN1.out]; go_num), by go_num, ⟨HJN.out, HEN.out⟩, HS6, HB6⟩
              case measure => simp [intOf]; omega
            | true =>
              obtain ⟨he, hj⟩ := HST.out.1 hcl
              have HN1 : Aside0 ((admitTo l (k + 1)).length = (admitTo l k).length) := ⟨by rw [HSU.out, if_pos hcl]⟩
              have HJN := Aside0.mk hj
              have HEN : Aside0 (s.E.length ≤ 1024) := ⟨HJ.out.2⟩
              rw [he] at HAP
              by_cases h1 : (admitTo l k).length < (admitTo l l.length).length
              · obtain ⟨ad2, cs2, rfl, hlen2, hK2, hc2⟩ := Kd.C_get hCI (0 : Int) ((admitTo l k).length : Int) (by omega) (by omega)
                rw [Int.toNat_natCast] at hK2 hc2
                obtain ⟨y, hy⟩ : ∃ y, (admitTo l l.length)[(admitTo l k).length]? = some y := ⟨_, List.getElem?_eq_getElem h1⟩
                have hg2 : (admitTo l l.length).getD (admitTo l k).length 0 = y := by rw [List.getD_eq_getElem?_getD, hy]; rfl
                have hne := HAT.out.2 hcl y hy
                rw [hg2] at hK2
                obtain rfl : cs2 = [.int .i64 y] := hK2
                have x2 : wr.cell? (ad2.add (admitTo l k).length) = some (.int .i64 y) := by have := hc2 0 _ rfl; simpa [Kd.int, Kd.scalar] using this
                have x3 : wz.cell? (ad2.add (admitTo l k).length) = some (.int .i64 y) := by rw [HWZ.out]; exact pw_cell_below (below_alloc (Below.refl _ _) _) x2
                rw [HWZ.out] at x3
                have d1 : decide (((admitTo l k).length : Int) < ((admitTo l l.length).length : Int)) = true := decide_eq_true (by omega)
                have d2 : (y == (k : Int)) = false := by simpa using hne
                clear he hj hcl HAT HST HSU hCI hlen2 hc2 hg2 hne hy
                go_wp2_with fail
                rw [← HWZ.out]
                refine HAP.out.mono ?_
                rintro e w6 ⟨rfl, hs6, hc6⟩
                have HS6 := Aside0.mk hs6
                have HB6 : Aside0 (Below wo.heap.size wo w6) := ⟨hc6.below HBZ.out HBZ.out.size (fun g hg => hg)⟩
                clear hs6 hc6 HAP
                go_wp2_with fail
                go_roundw
                case rel => exact ⟨k + 1, _, by omega, by first | (rw [HN1.out]; done) | (rw [HN1.out]; go_num), by go_num, ⟨HJN.out, HEN.out⟩, HS6, HB6⟩
                case measure => simp [intOf]; omega
              · have d1 : decide (((admitTo l k).length : Int) < ((admitTo l l.length).length : Int)) = false := decide_eq_false (by omega)
                clear he hj hcl HAT HST HSU hCI
                go_wp2_with fail
                rw [← HWZ.out]
                refine HAP.out.mono ?_
                rintro e w6 ⟨rfl, hs6, hc6⟩
                have HS6 := Aside0.mk hs6
                have HB6 : Aside0 (Below wo.heap.size wo w6) := ⟨hc6.below HBZ.out HBZ.out.size (fun g hg => hg)⟩
                clear hs6 hc6 HAP
                go_wp2_with fail
                go_roundw
                case rel => exact ⟨k + 1, _, by omega, by first | (rw [HN1.out]; done) | (rw [HN1.out]; go_num), by go_num, ⟨HJN.out, HEN.out⟩, HS6, HB6⟩
                case measure => simp [intOf]; omega
          · obtain rfl : k = l.length := by omega
            have HOP := Aside0.mk (open_walk HS.out (by omega))
            have hPl : (openV s).length = (admitTo l l.length).length := by
              unfold openV
              rw [List.length_map, HJ.out.1.len, some_len]
            have HPL := Aside0.mk hPl
            clear hPl
            go_wp2_with fail
            refine HOP.out.mono ?_
            rintro e w7 ⟨v, rfl, hR, hb7⟩
            obtain ⟨AV, cV, rfl⟩ := Kd.R_slice hR
            rw [HPL.out]
            have HB7 : Aside0 (Below w.heap.size w w7) := ⟨HBA.out.trans (hb7.mono HBA.out.size)⟩
            clear hR hb7 HOP HPL
            go_wp2_with fail
            go_ret
            exact ⟨by simp, HB7.out⟩
  · have hav : admitV l = ([], wrongV l) := by unfold admitV; rw [if_neg hw0]
    rw [hav] at HRI ⊢
    go_wp2_with fail
    go_ret
    exact ⟨rfl, HB2.out⟩
theorem locksShelf_walk (w : World) {l : List Rec} {A0 : Option Addr} {c0 : Nat} (hc0 : l.length ≤ c0) (hr0 : Kd.C k35 w A0 l.length l) (g0 : l.length * 120 ≤ 140737488351232 ∧ ∀ r, r ∈ l → okRec r) :
    Calls Try.prog 9 #[.slice A0 l.length c0] w fun e w' => e = .returned (.bool true) ∧ Below w.heap.size w w' :=
  locksShelf_core w hc0 hr0 (fun r hr => sizesOk_rec (g0.2 r hr))
end Go.Proofs.Ytaldfbmjmpkmmaa.PL
