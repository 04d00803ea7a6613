/- SectorFuses: the law's walk. -/
import Derived.Test.YteibcojjbcihbaaHWorksD
namespace Go.Proofs.Yteibcojjbcihbaa.Sec
open Go.RowKit Go.Proofs.YteibcojjbcihbaaW.PrintWords Go.Proofs.YteibcojjbcihbaaW.PrintLast Go.Proofs.YteibcojjbcihbaaW.PrintMore Go.Maps Go.Proofs.Yteibcojjbcihbaa.Mk
open Go.Proofs.Yteibcojjbcihbaa.Txn (unguard blk_newI)
set_option linter.unusedVariables false
set_option linter.unusedSimpArgs false
theorem at_boolK {w : World} {A : Option Addr} {n : Nat} {xs : List Bool} (h : Kd.bool.C w A n xs) (i : Int) (h0 : 0 ≤ i) (h1 : i < n) : ∃ ad, A = some ad ∧ w.cell? (ad.add i.toNat) = some (.bool (rdOf false xs i)) :=
  ReadsOf.at_ (Kd.reads_of_C (enc := Value.bool) (d := false) (h1 := fun _ => rfl) h) i h0 h1
set_option maxRecDepth 100000 in
theorem amongN_walk (w : World) (x : Int) (m : Int) (hm : 0 < m ∧ m ≤ 1000000) : Calls Try.prog 11 #[.int .i64 x, .int .i64 m] w fun e w' => e = .returned (.int .i64 ((x.tmod m + m).tmod m)) ∧ Below w.heap.size w w' := by
  have e : wrap64 (x.tmod m + m) = x.tmod m + m := by
    have h1 := Int.tmod_lt_of_pos x hm.1
    have h2 := Int.lt_tmod_of_pos x hm.1
    unfold wrap64
    omega
  have HE := Aside0.mk e
  have hm0 : (m == 0) = false := by simp; omega
  rw [← e]
  clear e
  go_enter Try.func11, Try.ntmps11
  go_wp2
  go_ret
  exact ⟨by rw [HE.out]; rfl, Below.refl _ _⟩
theorem among_range (x m : Int) (hm : 0 < m) : 0 ≤ (x.tmod m + m).tmod m ∧ (x.tmod m + m).tmod m < m := by
  have h1 := Int.tmod_lt_of_pos x hm
  have h2 := Int.lt_tmod_of_pos x hm
  exact ⟨Int.tmod_nonneg m (by omega), Int.tmod_lt_of_pos _ hm⟩
section
variable {w : World} {b g m N sz : Nat} {S : List (List UInt8)} {f : Cache} {fuse : Int} {down : Bool}
set_option maxRecDepth 100000 in
theorem flush_down (h : DevAt w b g m N sz S f fuse true) : Calls Try.prog 28 #[.pointer (some ⟨b, 0, none⟩)] w fun e w' => e = .returned (.int .i64 90) ∧ w' = w := by
  obtain ⟨c0, c1, c2, c3⟩ := h.cells
  clear h
  go_enter Try.func28, Try.ntmps28
  go_wp2
  go_ret
  exact ⟨rfl, rfl⟩
set_option maxRecDepth 100000 in
theorem flush_burnt (h : DevAt w b g m N sz S f fuse false) (hb : (burned fuse false).2 = true) : Calls Try.prog 28 #[.pointer (some ⟨b, 0, none⟩)] w fun e w' => e = .returned (.int .i64 90) ∧ Chg w w' b g m ∧ DevAt w' b g m N sz S f (burned fuse false).1 true := by
  obtain ⟨c0, c1, c2, c3⟩ := h.cells
  have H := Aside0.mk (burn_walk h)
  rw [hb] at H
  clear h
  generalize (burned fuse false).1 = fu at *
  go_enter Try.func28, Try.ntmps28
  go_wp2_with fail
  refine H.out.mono ?_
  rintro e w1 ⟨rfl, hg1, h1⟩
  have H1 := Aside0.mk (And.intro hg1 h1)
  clear hg1 h1 c0 c1 c2 c3
  go_wp2
  go_ret
  exact ⟨rfl, Chg.of H1.out.1 (fun k e => .inl (by injection e with e; exact e.symm)), H1.out.2⟩
end
theorem flushed_len (S : List (List UInt8)) (f : Cache) : (flushed S f).length = S.length := by unfold flushed; exact List.length_mapIdx
set_option maxRecDepth 100000 in
set_option maxHeartbeats 4000000 in
theorem sectorFuses_walk (w : World) (n0 : Int) (A : Option Addr) (c : Nat) (fl : List Bool) (hc : fl.length ≤ c) (hr : Kd.C Kd.bool w A fl.length fl) (wipe : Bool) :
    Calls Try.prog 8 #[.int .i64 n0, .slice A fl.length c, .bool wipe] w fun e w' => e = .returned (.bool true) ∧ Below w.heap.size w w' := by
  have HR := Aside0.mk hr
  have hfm := Kd.C_max hr
  clear hr hc
  go_enter Try.func8, Try.ntmps8
  go_wp2_with fail
  refine (newD_walk w 4 (by decide) (by decide)).mono ?_
  rintro e w1 ⟨hb, b, g, m, hb1, hb2, hb3, rfl, hd⟩
  have HL := Aside0.mk (And.intro hb1 (And.intro hb2 hb3))
  have HB1 := Aside0.mk hb
  have H1 := Aside0.mk hd
  clear hb hb1 hb2 hb3 hd
  go_wp2_with fail
  refine (worksD_walk w1).mono ?_
  rintro e w2 ⟨rfl, hb⟩
  have H2 := Aside0.mk (H1.out.below hb)
  have HB2 : Aside0 (Below w.heap.size w w2) := ⟨HB1.out.trans (hb.mono HB1.out.size)⟩
  clear hb H1 HB1
  go_wp2_with fail
  refine (amongN_walk w2 n0 30 (by decide)).mono ?_
  rintro e w3 ⟨rfl, hb⟩
  have H3 := Aside0.mk (H2.out.below hb)
  have HB3 : Aside0 (Below w.heap.size w w3) := ⟨HB2.out.trans (hb.mono HB2.out.size)⟩
  clear hb H2 HB2
  have hran := among_range n0 30 (by decide)
  generalize (n0.tmod 30 + 30).tmod 30 = q at *
  obtain ⟨n, hn⟩ : ∃ n : Nat, 1 + q = (n : Int) := ⟨(1 + q).toNat, by omega⟩
  obtain rfl : q = (n : Int) - 1 := by omega
  have hn1 : 1 ≤ n := by omega
  have hn2 : n ≤ 30 := by omega
  clear hran hn
  go_wp2_with fail
  simp only [show (1 : Int) + ((n : Int) - 1) = (n : Int) from by omega]
  have hw := fuse_walk H3.out (n : Int)
  rw [show fuseV false (n : Int) = 0 from by unfold fuseV; rw [if_neg (by decide), if_neg (by omega)], if_pos rfl] at hw
  refine hw.mono ?_
  rintro e w4 ⟨rfl, hg, hd⟩
  have H4 := Aside0.mk hd
  have HB4 : Aside0 (Below w.heap.size w w4) := ⟨HB3.out.grown hg HB3.out.size (fun j hj => by cases hj; exact HL.out.1)⟩
  clear hg hd hw H3 HB3
  go_wp2
  go_loopg [9] (n + 3) (fun kq v9 wr => ∃ (k N sz : Nat) (S : List (List UInt8)) (f : Cache) (fu : Int) (dn : Bool), v9 = .int .i64 k ∧ 1 ≤ k ∧ k ≤ n + 3 ∧ k + kq = n + 4 ∧ N ≤ k ∧ ((k ≤ n ∧ fu = n - (k - 1 : Int) ∧ dn = false) ∨ (n < k ∧ dn = true)) ∧ Aside0 (S.length = 4) ∧ Aside0 (DevAt wr b g m N sz S f fu dn) ∧ Aside0 (Below w.heap.size w wr))
  case atStart => exact ⟨1, 0, 0, _, _, (n : Int), false, rfl, by omega, by omega, by omega, by omega, .inl ⟨by omega, by omega, rfl⟩, ⟨by simp⟩, H4, HB4⟩
  case round =>
    clear H4 HB4
    obtain ⟨k, N, sz, S, f, fu, dn, rfl, hk1, hk2, hkq, hNk, hcs, HS, H, HB⟩ := hrel
    by_cases hlt : k ≤ n + 2
    · have hcase : (k < n ∧ fu = n - (k - 1 : Int) ∧ dn = false) ∨ (k = n ∧ fu = 1 ∧ dn = false) ∨ (n < k ∧ dn = true) := by
        rcases hcs with ⟨h1, h2, h3⟩ | h
        · rcases Nat.lt_or_ge k n with h4 | h4
          · exact .inl ⟨h4, h2, h3⟩
          · exact .inr (.inl ⟨by omega, by omega, h3⟩)
        · exact .inr (.inr h)
      clear hcs
      obtain ⟨tst, htst⟩ : ∃ b, b = (if k < fl.length then rdOf false fl (k : Int) else false) := ⟨_, rfl⟩
      have HT := Aside0.mk htst
      clear htst
      go_upto_region 11 with (fail)
      go_cut [53] (fun v53 wc => v53 = .bool tst ∧ wc = wr)
      case first =>
        by_cases hkf : k < fl.length
        · obtain ⟨ad, rfl, qb⟩ := at_boolK (Kd.C_below HR.out HB.out) (k : Int) (by omega) (by omega)
          rw [Int.toNat_natCast] at qb
          rw [if_pos hkf] at HT
          generalize rdOf false fl (k : Int) = bv at *
          cases bv <;> (go_wp2; go_meet; case rel => exact ⟨by rw [HT.out], rfl⟩)
        · rw [if_neg hkf] at HT
          go_wp2
          go_meet
          case rel => exact ⟨by rw [HT.out], rfl⟩
      case rest =>
        obtain ⟨rfl, rfl⟩ := hcut
        clear HT
        cases tst with
        | true =>
          rcases hcase with hA | hA | hA
          · obtain ⟨hA, hfu, hdn⟩ := hA
            subst hdn
            have hbd : burned fu false = (fu - 1, fu - 1 == 0) := by unfold burned; rw [if_pos (by omega)]
            have hb0 : (fu - 1 == 0) = false := by simp; omega
            rw [hb0] at hbd
            go_wp2_with fail
            have hw := flush_good H.out (by rw [hbd])
            rw [hbd] at hw
            refine hw.mono ?_
            rintro e w5 ⟨rfl, hc, hd⟩
            have HD := Aside0.mk hd
            have HB5 : Aside0 (Below w.heap.size w w5) := ⟨hc.below HB.out HB.out.size HL.out.1 HL.out.2.1 HL.out.2.2⟩
            clear hc hd hw hbd hb0
            go_wp2
            go_roundg (gk - 1)
            case measure => omega
            case rel => exact ⟨k + 1, 0, 0, flushed S f, _, fu - 1, false, by go_num, by omega, by omega, by omega, by omega, .inl ⟨by omega, by omega, rfl⟩, ⟨by rw [flushed_len]; exact HS.out⟩, HD, HB5⟩
          · obtain ⟨hA, hfu, hdn⟩ := hA
            subst hdn
            subst hA
            have hbd : burned fu false = (fu - 1, fu - 1 == 0) := by unfold burned; rw [if_pos (by omega)]
            have hb0 : (fu - 1 == 0) = true := by simp; omega
            rw [hb0] at hbd
            go_wp2_with fail
            have hw := flush_burnt H.out (by rw [hbd])
            rw [hbd] at hw
            refine hw.mono ?_
            rintro e w5 ⟨rfl, hc, hd⟩
            have HD := Aside0.mk hd
            have HB5 : Aside0 (Below w.heap.size w w5) := ⟨hc.below HB.out HB.out.size HL.out.1 HL.out.2.1 HL.out.2.2⟩
            clear hc hd hw hbd hb0
            go_wp2
            go_roundg (gk - 1)
            case measure => omega
            case rel => exact ⟨k + 1, N, sz, S, f, fu - 1, true, by go_num, by omega, by omega, by omega, by omega, .inr ⟨by omega, rfl⟩, ⟨HS.out⟩, HD, HB5⟩
          · obtain ⟨hA, hdn⟩ := hA
            subst hdn
            go_wp2_with fail
            refine (flush_down H.out).mono ?_
            rintro e w5 ⟨rfl, rfl⟩
            have hc : Chg w5 w5 b g m := Chg.of_below (Below.refl _ _)
            have hd := H.out
            have HD := Aside0.mk hd
            have HB5 : Aside0 (Below w.heap.size w w5) := ⟨hc.below HB.out HB.out.size HL.out.1 HL.out.2.1 HL.out.2.2⟩
            clear hc hd
            go_wp2
            go_roundg (gk - 1)
            case measure => omega
            case rel => exact ⟨k + 1, N, sz, S, f, fu, true, by go_num, by omega, by omega, by omega, by omega, .inr ⟨by omega, rfl⟩, ⟨HS.out⟩, HD, HB5⟩
        | false =>
          rcases hcase with hA | hA | hA
          · obtain ⟨hA, hfu, hdn⟩ := hA
            subst hdn
            have hbd : burned fu false = (fu - 1, fu - 1 == 0) := by unfold burned; rw [if_pos (by omega)]
            have hb0 : (fu - 1 == 0) = false := by simp; omega
            rw [hb0] at hbd
            have hk4 : ((k : Int).tmod 4) = ((k % 4 : Nat) : Int) := by rw [Int.tmod_eq_emod_of_nonneg (by omega)]; omega
            go_wp2_with fail
            refine (fit_walk _ _).mono ?_
            rintro e w4 ⟨rfl, hb⟩
            have H4 := Aside0.mk (H.out.below hb)
            have HB4 : Aside0 (Below w.heap.size w w4) := ⟨HB.out.trans (hb.mono HB.out.size)⟩
            clear hb
            go_wp2_with fail
            have hw := writeD_walk H4.out ((k : Int).tmod 4) (fitV ⟨#[120]⟩) (by unfold maxLen; omega)
            have hdw : devWrong S.length false ((k : Int).tmod 4) = 0 := by unfold devWrong; rw [HS.out, if_neg (by decide), if_neg (by omega)]
            have hwv : writeD S.length fu false ((k : Int).tmod 4) (fitV ⟨#[120]⟩) = 0 := by unfold writeD; rw [if_pos hdw, if_pos (fit_size _), hbd]; rfl
            have hwb : writeB S.length false ((k : Int).tmod 4) (fitV ⟨#[120]⟩) = true := by unfold writeB; rw [hdw, fit_size]; rfl
            rw [hwv, hwb, hbd, if_pos rfl, if_pos rfl, if_pos rfl, if_pos rfl] at hw
            refine hw.mono ?_
            rintro e w5 ⟨rfl, hc, hd⟩
            have HD := Aside0.mk hd
            have HB5 : Aside0 (Below w.heap.size w w5) := ⟨hc.below HB4.out HB4.out.size HL.out.1 HL.out.2.1 HL.out.2.2⟩
            clear hc hd hw hbd hb0 hwv hwb hdw
            go_wp2
            go_roundg (gk - 1)
            case measure => omega
            case rel => exact ⟨k + 1, N + 1, _, S, _, fu - 1, false, by go_num, by omega, by omega, by omega, by omega, .inl ⟨by omega, by omega, rfl⟩, ⟨HS.out⟩, HD, HB5⟩
          · obtain ⟨hA, hfu, hdn⟩ := hA
            subst hdn
            subst hA
            have hbd : burned fu false = (fu - 1, fu - 1 == 0) := by unfold burned; rw [if_pos (by omega)]
            have hb0 : (fu - 1 == 0) = true := by simp; omega
            rw [hb0] at hbd
            have hk4 : ((k : Int).tmod 4) = ((k % 4 : Nat) : Int) := by rw [Int.tmod_eq_emod_of_nonneg (by omega)]; omega
            go_wp2_with fail
            refine (fit_walk _ _).mono ?_
            rintro e w4 ⟨rfl, hb⟩
            have H4 := Aside0.mk (H.out.below hb)
            have HB4 : Aside0 (Below w.heap.size w w4) := ⟨HB.out.trans (hb.mono HB.out.size)⟩
            clear hb
            go_wp2_with fail
            have hw := writeD_walk H4.out ((k : Int).tmod 4) (fitV ⟨#[120]⟩) (by unfold maxLen; omega)
            have hdw : devWrong S.length false ((k : Int).tmod 4) = 0 := by unfold devWrong; rw [HS.out, if_neg (by decide), if_neg (by omega)]
            have hwv : writeD S.length fu false ((k : Int).tmod 4) (fitV ⟨#[120]⟩) = 90 := by unfold writeD; rw [if_pos hdw, if_pos (fit_size _), hbd]; rfl
            have hwb : writeB S.length false ((k : Int).tmod 4) (fitV ⟨#[120]⟩) = true := by unfold writeB; rw [hdw, fit_size]; rfl
            rw [hwv, hwb, hbd, if_neg (by decide), if_neg (by decide), if_pos rfl, if_pos rfl] at hw
            refine hw.mono ?_
            rintro e w5 ⟨rfl, hc, hd⟩
            have HD := Aside0.mk hd
            have HB5 : Aside0 (Below w.heap.size w w5) := ⟨hc.below HB4.out HB4.out.size HL.out.1 HL.out.2.1 HL.out.2.2⟩
            clear hc hd hw hbd hb0 hwv hwb hdw
            go_wp2
            go_roundg (gk - 1)
            case measure => omega
            case rel => exact ⟨k + 1, N + 1, _, S, _, fu - 1, true, by go_num, by omega, by omega, by omega, by omega, .inr ⟨by omega, rfl⟩, ⟨HS.out⟩, HD, HB5⟩
          · obtain ⟨hA, hdn⟩ := hA
            subst hdn
            have hk4 : ((k : Int).tmod 4) = ((k % 4 : Nat) : Int) := by rw [Int.tmod_eq_emod_of_nonneg (by omega)]; omega
            go_wp2_with fail
            refine (fit_walk _ _).mono ?_
            rintro e w4 ⟨rfl, hb⟩
            have H4 := Aside0.mk (H.out.below hb)
            have HB4 : Aside0 (Below w.heap.size w w4) := ⟨HB.out.trans (hb.mono HB.out.size)⟩
            clear hb
            go_wp2_with fail
            have hw := writeD_walk H4.out ((k : Int).tmod 4) (fitV ⟨#[120]⟩) (by unfold maxLen; omega)
            have hdw : devWrong S.length true ((k : Int).tmod 4) = 90 := by unfold devWrong; rw [if_pos rfl]
            have hwv : writeD S.length fu true ((k : Int).tmod 4) (fitV ⟨#[120]⟩) = 90 := by unfold writeD; rw [hdw, if_neg (by decide)]
            have hwb : writeB S.length true ((k : Int).tmod 4) (fitV ⟨#[120]⟩) = false := by unfold writeB; rw [hdw]; simp
            rw [hwv, hwb, if_neg (by decide), if_neg (by decide), if_neg (by decide), if_neg (by decide)] at hw
            refine hw.mono ?_
            rintro e w5 ⟨rfl, hc, hd⟩
            have HD := Aside0.mk hd
            have HB5 : Aside0 (Below w.heap.size w w5) := ⟨hc.below HB4.out HB4.out.size HL.out.1 HL.out.2.1 HL.out.2.2⟩
            clear hc hd hw hwv hwb hdw
            go_wp2
            go_roundg (gk - 1)
            case measure => omega
            case rel => exact ⟨k + 1, N + 1, _, S, _, fu, true, by go_num, by omega, by omega, by omega, by omega, .inr ⟨by omega, rfl⟩, ⟨HS.out⟩, HD, HB5⟩
    · have hdn : dn = true := by
        rcases hcs with h | h
        · omega
        · exact h.2
      subst hdn
      clear hcs
      have hdw : ∀ (T : List (List UInt8)) (i : Int), devWrong T.length true i = 90 := fun T i => by unfold devWrong; rw [if_pos rfl]
      have hrd : readD S f true 0 = (⟨#[]⟩, 90) := by unfold readD; rw [hdw, if_neg (by decide)]
      go_wp2_with fail
      have hr := readD_walk H.out 0
      rw [hrd] at hr
      refine hr.mono ?_
      rintro e w5 ⟨rfl, hb⟩
      have H5 := Aside0.mk (H.out.below hb)
      have HB5 : Aside0 (Below w.heap.size w w5) := ⟨HB.out.trans (hb.mono HB.out.size)⟩
      clear hb hr hrd hdw H HB
      go_wp2_with fail
      have hf := fuse_walk H5.out 0
      rw [show fuseV true 0 = 90 from rfl, if_neg (by decide)] at hf
      refine hf.mono ?_
      rintro e w6 ⟨rfl, hg, hd⟩
      have H6 := Aside0.mk hd
      have HB6 : Aside0 (Below w.heap.size w w6) := ⟨HB5.out.grown hg HB5.out.size (fun j hj => by cases hj; exact HL.out.1)⟩
      clear hg hd hf H5 HB5
      cases wipe with
      | true =>
        go_wp2_with fail
        refine (wipe_walk H6.out).mono ?_
        rintro e w7 ⟨rfl, hc, hd⟩
        rw [HS.out] at hd
        have H7 := Aside0.mk hd
        have HB7 : Aside0 (Below w.heap.size w w7) := ⟨hc.below HB6.out HB6.out.size HL.out.1 HL.out.2.1 HL.out.2.2⟩
        clear hc hd H6 HB6
        obtain ⟨X, hX⟩ : ∃ X, X = fitV ⟨#[]⟩ := ⟨_, rfl⟩
        have hr := readD_walk H7.out 1
        rw [show readD (List.replicate 4 (zeros 64)) (fun _ => none) false 1 = (fitV ⟨#[]⟩, 0) from by decide, ← hX] at hr
        have hft := fun w => fit_walk w ⟨#[]⟩
        rw [← hX] at hft
        have HR1 := Aside0.mk hr
        have HFT := Aside0.mk hft
        clear hr hft hX
        go_wp2_with fail
        refine HR1.out.mono ?_
        rintro e w8 ⟨rfl, hb⟩
        have H8 := Aside0.mk (H7.out.below hb)
        have HB8 : Aside0 (Below w.heap.size w w8) := ⟨HB7.out.trans (hb.mono HB7.out.size)⟩
        clear hb H7 HB7
        go_wp2_with fail
        refine (HFT.out _).mono ?_
        rintro e w9 ⟨rfl, hb⟩
        have H9 := Aside0.mk (H8.out.below hb)
        have HB9 : Aside0 (Below w.heap.size w w9) := ⟨HB8.out.trans (hb.mono HB8.out.size)⟩
        clear hb H8 HB8
        go_wp2_with fail
        refine (dirty_walk H9.out).mono ?_
        rintro e w10 ⟨rfl, hb⟩
        have HB10 : Aside0 (Below w.heap.size w w10) := ⟨HB9.out.trans (hb.mono HB9.out.size)⟩
        clear hb H9 HB9
        go_wp2
        go_ret
        exact ⟨rfl, HB10.out⟩
      | false =>
        go_wp2_with fail
        refine (crash_walk H6.out (by omega) none 0 [] (fun w' _ => Kd.C_nil _ _)).mono ?_
        rintro e w7 ⟨rfl, hc, ks, hks, hkl, hd⟩
        have hlen : (torn S f ks [] ks.length).length = 4 := by rw [torn_len]; exact HS.out
        generalize torn S f ks [] ks.length = T at *
        have H7 := Aside0.mk hd
        have HB7 : Aside0 (Below w.heap.size w w7) := ⟨hc.below HB6.out HB6.out.size HL.out.1 HL.out.2.1 HL.out.2.2⟩
        have hrd : readD T (fun _ => none) false 0 = (⟨(T.getD (0 : Int).toNat []).toArray⟩, 0) := by
          unfold readD devWrong
          rw [hlen]
          rfl
        generalize (⟨(T.getD (0 : Int).toNat []).toArray⟩ : ByteArray) = X at *
        have hr := readD_walk H7.out 0
        rw [hrd] at hr
        have HR1 := Aside0.mk hr
        clear hc hks hkl hd H6 HB6 hr hrd hlen
        go_wp2_with fail
        refine HR1.out.mono ?_
        rintro e w8 ⟨rfl, hb⟩
        have H8 := Aside0.mk (H7.out.below hb)
        have HB8 : Aside0 (Below w.heap.size w w8) := ⟨HB7.out.trans (hb.mono HB7.out.size)⟩
        clear hb H7 HB7
        go_wp2_with fail
        refine (dirty_walk H8.out).mono ?_
        rintro e w10 ⟨rfl, hb⟩
        have HB10 : Aside0 (Below w.heap.size w w10) := ⟨HB8.out.trans (hb.mono HB8.out.size)⟩
        clear hb H8 HB8
        go_wp2
        go_ret
        exact ⟨rfl, HB10.out⟩
end Go.Proofs.Yteibcojjbcihbaa.Sec
