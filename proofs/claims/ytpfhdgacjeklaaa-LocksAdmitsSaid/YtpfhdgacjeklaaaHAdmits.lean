/- LocksAdmits: the walk. -/
import Derived.Test.YtpfhdgacjeklaaaHQuiet
import Derived.Test.YtpfhdgacjeklaaaHRaw
namespace Go.Proofs.Ytpfhdgacjeklaaa.PLocks
open Go.RowKit Go.Proofs.YtpfhdgacjeklaaaW.PrintWords Go.Proofs.YtpfhdgacjeklaaaW.PrintLast Go.Proofs.YtpfhdgacjeklaaaW.PrintMore Go.Maps Mk
set_option linter.unusedVariables false
set_option linter.unusedSimpArgs false

theorem sizesOk_rec {r : S25} (h : okRec r) : sizesOk r := by
  unfold okRec at h
  unfold sizesOk
  omega
set_option maxRecDepth 100000 in
set_option maxHeartbeats 4000000 in
theorem locksAdmits_walk (w : World) {l0 : List S25} {A0 : Option Addr} {c0 : Nat} (hr0 : Kd.C k25 w A0 l0.length l0) (hc0 : l0.length ≤ c0) (g0 : l0.length * 120 ≤ 140737488351232 ∧ ∀ r, r ∈ l0 → okRec r) :
    Calls Try.prog 5 #[.slice A0 l0.length c0] w fun e w' => e = .returned (.bool true) ∧ Below w.heap.size w w' := by
  have hmax := Kd.C_max hr0
  have HR := Aside0.mk hr0
  have HC := Aside0.mk hc0
  have HS : Aside0 (∀ r, r ∈ l0 → sizesOk r) := ⟨fun r hr => sizesOk_rec (g0.2 r hr)⟩
  clear hr0 hc0 g0
  have hu25 := Try.underlying25
  go_enter Try.func5, Try.ntmps5
  go_wp2_with fail
  refine (works_walk w).mono ?_
  rintro e w1 ⟨rfl, hb1⟩
  have HB1 := Aside0.mk hb1
  clear hb1
  go_wp2_with fail
  refine (admit_walk A0 c0 l0 w1 (Kd.C_below HR.out HB1.out) HC.out HS.out).mono ?_
  rintro e w2 ⟨v0, rfl, ho, hb2⟩
  have HB2 : Aside0 (Below w.heap.size w w2) := ⟨HB1.out.trans (hb2.mono HB1.out.size)⟩
  obtain ⟨A3, c3, rfl, hlc3, hC3⟩ := Kd.R_reads ho
  have HC3 := Aside0.mk hC3
  have hm3 := Kd.C_max hC3
  clear hb2 ho HB1 hlc3 hC3
  by_cases hv : wrongV l0 = 0
  · have HV := Aside0.mk (wrong_zero l0 hv)
    have ha : admitV l0 = (admitTo l0 l0.length, 0) := by unfold admitV; rw [if_pos hv]
    rw [ha] at HC3 hm3 ⊢
    clear hv ha
    go_wp2_with fail
    go_loopw [27, 6, 5] (fun i nx v wr => ∃ (k : Nat) (qs : List QR), k ≤ l0.length ∧ i = .int .i64 k ∧ nx = .int .i64 ((admitTo l0 k).length : Nat) ∧ Aside0 (Kd.R kq 25 wr w2.heap.size (fun _ => True) v qs) ∧
        Aside0 (qs.map (·.r) = someTo l0 k ∧ ∀ q, q ∈ qs → q.Holds w2) ∧ Aside0 (Below w2.heap.size w2 wr))
      (fun i _ _ _ => l0.length - (intOf i).toNat)
    case atStart => exact ⟨0, [], Nat.zero_le _, rfl, rfl, ⟨Kd.R_nil _ _ _ _ _⟩, ⟨rfl, fun q hq => by cases hq⟩, ⟨Below.refl _ _⟩⟩
    case round =>
      obtain ⟨k, qs, hk, rfl, rfl, HO, HQ, HB⟩ := hrel
      have hlen1 := admitTo_len l0 k
      by_cases hlt : k < l0.length
      · obtain ⟨ad, B7, d7, B8, d8, rfl, q0, q1, q2, q3, q4, q5, q6, q7, q8, g7c, g7, g8c, g8⟩ := at_T25 (Kd.C_below HR.out HB2.out) (k : Int) (by omega) (by omega)
        rw [Int.toNat_natCast] at q0 q1 q2 q3 q4 q5 q6 q7 q8
        obtain ⟨x, hx⟩ : ∃ x, x = rd_T25 l0 (k : Int) := ⟨_, rfl⟩
        rw [← hx] at q0 q1 q2 q3 q4 q5 q6 q7 q8 g7c g7 g8c g8
        have q0 := pw_cell_below HB.out q0
        have q1 := pw_cell_below HB.out q1
        have q2 := pw_cell_below HB.out q2
        have q3 := pw_cell_below HB.out q3
        have q4 := pw_cell_below HB.out q4
        have q5 := pw_cell_below HB.out q5
        have q6 := pw_cell_below HB.out q6
        have q7 := pw_cell_below HB.out q7
        have q8 := pw_cell_below HB.out q8
        have HG := Aside0.mk (And.intro g7c (And.intro g7 (And.intro g8c g8)))
        have hat := admit_at l0 l0.length k hlt
        have hsc := admit_succ l0 k
        have hss := some_succ l0 k
        rw [← hx] at hat hsc hss
        have hxl : x ∈ l0 := by rw [hx, rd25_nat l0 k hlt]; exact List.getElem_mem _
        have HXL := Aside0.mk hxl
        have HSL : Aside0 (∀ y, y ∈ someTo l0 k → y ∈ l0) := ⟨fun y hy => some_mem l0 k hk y hy⟩
        have hsl := some_len l0 k
        have hl256 := HV.out.1
        clear hx g7c g7 g8c g8 hxl
        cases hcl : clashes (someTo l0 k) x with
        | false =>
          obtain ⟨hlt2, hget⟩ := hat.1 hcl
          rw [hcl, if_neg (by decide)] at hsc hss
          obtain ⟨ad3, rfl, hc⟩ := Kd.at_int HC3.out ((admitTo l0 k).length : Int) (by omega) (by omega)
          rw [Int.toNat_natCast] at hc
          have hrd : rd (admitTo l0 l0.length) ((admitTo l0 k).length : Int) = (k : Int) := by unfold rd; simp [hget]
          rw [hrd] at hc
          have hc := pw_cell_below (below_alloc HB.out (.cells #[.int .i64 x.f0, .int .i64 x.f1, .int .i64 x.f2, .int .i64 x.f3, .string x.f4, .string x.f5, .bool x.f6, .slice B7 x.f7.length d7, .slice B8 x.f8.length d8] 25)) hc
          have HSC := Aside0.mk (And.intro hsc hss)
          have hlen2 : (admitTo l0 (k + 1)).length = (admitTo l0 k).length + 1 := by rw [hsc]; simp
          clear hat hget hrd hsc hss hcl
          generalize hnx : (admitTo l0 k).length = nx at *
          generalize hnl : (admitTo l0 l0.length).length = nl at *
          obtain ⟨A5, c5, rfl, hlc, hC5⟩ := Kd.R_reads HO.out
          clear hC5 hlc
          have hql : qs.length = nx := by have := congrArg List.length HQ.out.1; rw [List.length_map] at this; omega
          go_wp2_with (first
            | (at_builtin
               refine Kd.R_append kq (w0 := w2) (W := wr.alloc (.cells #[.int .i64 x.f0, .int .i64 x.f1, .int .i64 x.f2, .int .i64 x.f3, .string x.f4, .string x.f5, .bool x.f6, .slice B7 x.f7.length d7, .slice B8 x.f8.length d8] 25)) w2.heap.size rfl (.tmp 44) (.tmp 46) 31 25 _ 120 rfl Try.underlying31 info25 rfl (by decide) (by omega) _ qs ⟨x, B7, d7, B8, d8⟩ (QR.cells ⟨x, B7, d7, B8, d8⟩) (fun _ => True) (fun _ => False) rfl (by rw [show (wr.alloc (.cells #[.int .i64 x.f0, .int .i64 x.f1, .int .i64 x.f2, .int .i64 x.f3, .string x.f4, .string x.f5, .bool x.f6, .slice B7 x.f7.length d7, .slice B8 x.f8.length d8] 25)).heap.size = wr.heap.size + 1 from by simp]; rfl) (kq_M _ _ _ _) (fun _ hk => hk.elim) (fun j hj => trivial) (Kd.R_alloc HO.out _) (below_alloc HB.out _) (below_alloc HB.out _).size (by omega) ?_
               intro v1 w4 ho hb hg hat
               have HO3 := Aside0.mk ho
               have HB4 := Aside0.mk hb
               clear ho hb hg hat))
          go_roundw
          case rel =>
            refine ⟨k + 1, qs ++ [⟨x, B7, d7, B8, d8⟩], by omega, by go_num, by rw [hlen2]; go_num, HO3, ⟨?_, ?_⟩, HB4⟩
            · rw [List.map_append, HQ.out.1, HSC.out.2]; rfl
            · intro q hq
              rcases List.mem_append.1 hq with hq | hq
              · exact HQ.out.2 q hq
              · rw [List.mem_singleton.1 hq]; exact HG.out
          case measure => simp [intOf]; omega
        | true =>
          rw [hcl, if_pos rfl] at hsc hss
          have HSC := Aside0.mk (And.intro hsc hss)
          have hlen2 : (admitTo l0 (k + 1)).length = (admitTo l0 k).length := by rw [hsc]
          have hne := hat.2 hcl
          have HCL := Aside0.mk hcl
          clear hat hsc hss hcl
          obtain ⟨A5, c5, rfl, hlc, hC5⟩ := Kd.R_reads HO.out
          have HC5 : Aside0 (k25.C wr A5 qs.length (someTo l0 k)) := ⟨by rw [← HQ.out.1]; exact kq_C hC5 (fun q hq => (HQ.out.2 q hq).below (HB.out.mono (Nat.le_refl _)))⟩
          have HLC := Aside0.mk hlc
          have hql : qs.length = (someTo l0 k).length := by have := congrArg List.length HQ.out.1; rw [List.length_map] at this; exact this
          have HXB := below_alloc HB.out (.cells #[.int .i64 x.f0, .int .i64 x.f1, .int .i64 x.f2, .int .i64 x.f3, .string x.f4, .string x.f5, .bool x.f6, .slice B7 x.f7.length d7, .slice B8 x.f8.length d8] 25)
          have HX2 := Aside0.mk HXB
          have hbv : blockV (someTo l0 k) x = (blockTo (someTo l0 k) x (someTo l0 k).length, 0) := by
            unfold blockV
            rw [if_pos (wrong_none _ (by omega) (fun y hy => HV.out.2 y (HSL.out y hy))), if_pos (wrong_none [x] (by simp) (fun y hy => by rw [List.mem_singleton.1 hy]; exact HV.out.2 x HXL.out))]
          have hbw := block_walk A5 c5 (someTo l0 k) x B7 d7 B8 d8 (wr.alloc (.cells #[.int .i64 x.f0, .int .i64 x.f1, .int .i64 x.f2, .int .i64 x.f3, .string x.f4, .string x.f5, .bool x.f6, .slice B7 x.f7.length d7, .slice B8 x.f8.length d8] 25)) (Kd.C_alloc (by rw [← hql]; exact HC5.out) _) (by rw [← hql]; exact hlc) (fun y hy => HS.out y (HSL.out y hy))
            (Kd.C_below HG.out.2.1 HXB) HG.out.1 (Kd.C_below HG.out.2.2.2 HXB) HG.out.2.2.1 (HS.out x HXL.out)
          rw [hbv, hsl] at hbw
          have hne2 : blockTo (someTo l0 k) x (someTo l0 k).length ≠ [] := block_some _ _ HCL.out
          rw [hsl] at hne2
          have HBW := Aside0.mk hbw
          clear hbv hbw HXB hlc hC5
          generalize blockTo (someTo l0 k) x (admitTo l0 k).length = bl at *
          have HBN := Aside0.mk hne2
          clear hne2
          by_cases hlt2 : (admitTo l0 k).length < (admitTo l0 l0.length).length
          · obtain ⟨ad3, rfl, hc⟩ := Kd.at_int HC3.out ((admitTo l0 k).length : Int) (by omega) (by omega)
            rw [Int.toNat_natCast] at hc
            have hrd : rd (admitTo l0 l0.length) ((admitTo l0 k).length : Int) ≠ (k : Int) := by
              unfold rd
              rw [Int.toNat_natCast, List.getD_eq_getElem?_getD, List.getElem?_eq_getElem hlt2]
              exact hne _ (List.getElem?_eq_getElem hlt2)
            generalize rd (admitTo l0 l0.length) ((admitTo l0 k).length : Int) = y at *
            have hc := pw_cell_below HX2.out hc
            clear hne
            generalize hnx : (admitTo l0 k).length = nx at *
            generalize hnl : (admitTo l0 l0.length).length = nl at *
            go_wp2_with fail
            refine HBW.out.mono ?_
            rintro e w5 ⟨vb, rfl, hob, hb5⟩
            obtain ⟨A9, c9, rfl, hlc9, hC9⟩ := Kd.R_reads hob
            have hm9 := Kd.C_max hC9
            have hbl : bl.length ≠ 0 := by
              intro h0
              exact HBN.out (List.length_eq_zero_iff.1 h0)
            have HO5 := Aside0.mk (Kd.R_below (Kd.R_alloc HO.out _) hb5)
            have HB5 : Aside0 (Below w2.heap.size w2 w5) := ⟨HX2.out.trans (hb5.mono HX2.out.size)⟩
            clear hob hC9 hlc9 hb5 HO HB HX2 HBW HBN HC5
            generalize bl.length = nb at *
            go_wp2
            go_roundw
            case rel => exact ⟨k + 1, qs, by omega, by go_num, by rw [hlen2], ⟨by rw [show nx = qs.length by omega]; exact HO5.out⟩, ⟨by rw [HSC.out.2]; exact HQ.out.1, HQ.out.2⟩, HB5⟩
            case measure => simp [intOf]; omega
          · clear hne
            generalize hnx : (admitTo l0 k).length = nx at *
            generalize hnl : (admitTo l0 l0.length).length = nl at *
            go_wp2_with fail
            refine HBW.out.mono ?_
            rintro e w5 ⟨vb, rfl, hob, hb5⟩
            obtain ⟨A9, c9, rfl, hlc9, hC9⟩ := Kd.R_reads hob
            have hm9 := Kd.C_max hC9
            have hbl : bl.length ≠ 0 := by
              intro h0
              exact HBN.out (List.length_eq_zero_iff.1 h0)
            have HO5 := Aside0.mk (Kd.R_below (Kd.R_alloc HO.out _) hb5)
            have HB5 : Aside0 (Below w2.heap.size w2 w5) := ⟨HX2.out.trans (hb5.mono HX2.out.size)⟩
            clear hob hC9 hlc9 hb5 HO HB HX2 HBW HBN HC5
            generalize bl.length = nb at *
            go_wp2
            go_roundw
            case rel => exact ⟨k + 1, qs, by omega, by go_num, by rw [hlen2], ⟨by rw [show nx = qs.length by omega]; exact HO5.out⟩, ⟨by rw [HSC.out.2]; exact HQ.out.1, HQ.out.2⟩, HB5⟩
            case measure => simp [intOf]; omega
      · obtain rfl : k = l0.length := by omega
        obtain ⟨A5, c5, rfl, hlc, hC5⟩ := Kd.R_reads HO.out
        have hl256 := HV.out.1
        have hsl := some_len l0 l0.length
        have hql : qs.length = (someTo l0 l0.length).length := by have := congrArg List.length HQ.out.1; rw [List.length_map] at this; exact this
        have hC6 : k25.C wr A5 (someTo l0 l0.length).length (someTo l0 l0.length) := by rw [← hql, ← HQ.out.1]; exact kq_C hC5 (fun q hq => (HQ.out.2 q hq).below (HB.out.mono (Nat.le_refl _)))
        have HSL : ∀ y, y ∈ someTo l0 l0.length → y ∈ l0 := fun y hy => some_mem l0 _ (Nat.le_refl _) y hy
        have hqw := quiet_walk A5 c5 (someTo l0 l0.length) wr hC6 (by omega) (fun y hy => HS.out y (HSL y hy))
        rw [calm_quiet (someTo l0 l0.length) (by omega) (fun y hy => HV.out.2 y (HSL y hy)) (some_calm l0 _), hsl] at hqw
        have HQW := Aside0.mk hqw
        rw [hsl] at hql
        clear hqw hC6 hC5 hlc HSL hsl
        generalize hnl : (admitTo l0 l0.length).length = nl at *
        go_wp2_with fail
        refine HQW.out.mono ?_
        rintro e w5 ⟨rfl, hb5⟩
        have HB5 : Aside0 (Below w.heap.size w w5) := ⟨(HB2.out.trans (HB.out.mono HB2.out.size)).trans (hb5.mono (Nat.le_trans HB2.out.size HB.out.size))⟩
        clear hb5 HQW
        go_wp2
        go_ret
        exact ⟨by simp, HB5.out⟩
  · have ha : admitV l0 = ([], wrongV l0) := by unfold admitV; rw [if_neg hv]
    rw [ha] at HC3 hm3 ⊢
    clear ha
    generalize wrongV l0 = v at *
    go_wp2
    go_ret
    exact ⟨rfl, HB2.out⟩
end Go.Proofs.Ytpfhdgacjeklaaa.PLocks
