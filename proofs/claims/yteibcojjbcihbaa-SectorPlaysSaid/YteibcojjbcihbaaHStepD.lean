/- SectorPlays: step: a call, of both devices. -/
import Derived.Test.YteibcojjbcihbaaHDuo
namespace Go.Proofs.Yteibcojjbcihbaa.Sec
open Go.RowKit Go.Proofs.YteibcojjbcihbaaW.PrintWords Go.Proofs.YteibcojjbcihbaaW.PrintLast Go.Proofs.YteibcojjbcihbaaW.PrintMore Go.Maps Go.Proofs.Yteibcojjbcihbaa.Mk
open Go.Proofs.Yteibcojjbcihbaa.Txn (unguard blk_newI)
open Go.Lib (byteCells byteCells_length byteCells_append byteCells_one)
set_option linter.unusedVariables false
set_option linter.unusedSimpArgs false

theorem Chg.cell {w w' : World} {b g m : Nat} (h : Chg w w' b g m) (q i : Nat) (hl : q < w.heap.size) (h1 : q ≠ b) (h2 : q ≠ g) (h3 : q ≠ m) : w'.cell? ⟨q, i, none⟩ = w.cell? ⟨q, i, none⟩ := World.cell?_of_block (h.block q hl h1 h2 h3)
theorem rows_kept {w w1 : World} {base n c : Nat} {ok : Nat → Prop} {A : Option Addr} {xs : List Int} (h : Kd.R (Kd.int .i64) 3 w base ok (.slice A n c) xs) (hm : ∀ k, ok k → k < w.heap.size → w1.heap[k]? = w.heap[k]?) : Kd.C (Kd.int .i64) w1 A xs.length xs := by
  obtain ⟨A2, c2, e, _, hC⟩ := Kd.R_reads (Kd.R_step h hm)
  injection e with e1 _ _
  rw [e1]
  exact hC
theorem info3c : (Try.prog.info? 3).map (fun i => (i.zero, i.size, i.bytes)) = some (some (.int .i64 0), 1, 8) := by kernel_rfl
section
variable {w : World} {b g m N sz r g1 g2 c1 c2 : Nat} {sl1 sl2 : List Value} {S : List (List UInt8)} {f : Cache} {fuse : Int} {down : Bool}
theorem DuoAt.below {w' : World} (h : DuoAt w b g m N sz r g1 g2 c1 c2 sl1 sl2 S f fuse down) (hb : Below w.heap.size w w') : DuoAt w' b g m N sz r g1 g2 c1 c2 sl1 sl2 S f fuse down := ⟨h.dev.below hb, h.ref.below hb⟩
/-- What a step leaves. -/
def Left (base : Nat) (w w' : World) (b g m N r g1 g2 c1 c2 : Nat) (sl1 sl2 : List Value) (S : List (List UInt8)) : Prop :=
  Below base w w' ∧ ∃ (N' sz' : Nat) (S' : List (List UInt8)) (f' : Cache) (fuse' : Int) (down' : Bool), N' ≤ N + 1 ∧ S'.length = S.length ∧ DuoAt w' b g m N' sz' r g1 g2 c1 c2 sl1 sl2 S' f' fuse' down'
set_option maxRecDepth 100000 in
set_option maxHeartbeats 4000000 in
theorem stepD_walk {base : Nat} (h : DuoAt w b g m N sz r g1 g2 c1 c2 sl1 sl2 S f fuse down) (hN : N + 1 ≤ 1000) (hbs : base ≤ b ∧ base ≤ g ∧ base ≤ m ∧ base ≤ r ∧ base ≤ g1 ∧ base ≤ g2 ∧ base ≤ w.heap.size)
    (kind n : Int) (text : ByteArray) (raw : Bool) (A : Option Addr) (c : Nat) (picks : List Int) (hlp : picks.length * 8 ≤ 140737488351232) (hp : ∀ w', Below base w w' → Kd.C (Kd.int .i64) w' A picks.length picks) :
    Calls Try.prog 33 #[.pointer (some ⟨b, 0, none⟩), .pointer (some ⟨r, 0, none⟩), .agg #[.int .i64 kind, .int .i64 n, .string text, .bool raw, .slice A picks.length c]] w fun e w' => e = .returned (.bool true) ∧ Left base w w' b g m N r g1 g2 c1 c2 sl1 sl2 S := by
  have HBS := Aside0.mk hbs
  have HPK := Aside0.mk hp
  have HN := Aside0.mk hN
  have HLP := Aside0.mk hlp
  have HQ : Aside0 (w.heap.size ≠ b ∧ w.heap.size ≠ g ∧ w.heap.size ≠ m ∧ w.heap.size ≠ r ∧ w.heap.size ≠ g1 ∧ w.heap.size ≠ g2) := ⟨by have := h.dev.lt; have := h.ref.lt; omega⟩
  have H := Aside0.mk h
  clear h hbs hp hN hlp
  go_enter Try.func33, Try.ntmps33
  go_wp2_with fail
  refine (amongN_walk _ kind 6 (by decide)).mono ?_
  rintro e w1 ⟨rfl, hb⟩
  have hbox : (w.alloc (.cells #[.int .i64 kind, .int .i64 n, .string text, .bool raw, .slice A picks.length c] 77)).heap[w.heap.size]? = some (.cells #[.int .i64 kind, .int .i64 n, .string text, .bool raw, .slice A picks.length c] 77 (0, 0)) := blk_new _ _
  have hbox1 := blk_below hbox hb
  have H1 := Aside0.mk ((H.out.below (below_alloc (Below.refl _ _) _)).below hb)
  have HB1 : Aside0 (Below base w w1) := ⟨((below_alloc (Below.refl _ _) _).mono HBS.out.2.2.2.2.2.2).trans (hb.mono (by rw [World.size_alloc]; have := HBS.out.2.2.2.2.2.2; omega))⟩
  have HL1 : Aside0 (w.heap.size < w1.heap.size) := ⟨blk_lt hbox1⟩
  have HX := Aside0.mk hbox1
  clear hb hbox hbox1 H
  generalize w.heap.size = q at *
  have HS1 : Aside0 (base ≤ w1.heap.size) := ⟨by have := HL1.out; have := HBS.out.2.2.2.2.2.2; omega⟩
  have k0 : w1.cell? ⟨q, 0, none⟩ = some (.int .i64 kind) := (blk_cell HX.out 0).trans rfl
  have k1 : w1.cell? ⟨q, 1, none⟩ = some (.int .i64 n) := (blk_cell HX.out 1).trans rfl
  have k2 : w1.cell? ⟨q, 2, none⟩ = some (.string text) := (blk_cell HX.out 2).trans rfl
  have k3 : w1.cell? ⟨q, 3, none⟩ = some (.bool raw) := (blk_cell HX.out 3).trans rfl
  have k4 : w1.cell? ⟨q, 4, none⟩ = some (.slice A picks.length c) := (blk_cell HX.out 4).trans rfl
  have hrange := among_range kind 6 (by decide)
  generalize (kind.tmod 6 + 6).tmod 6 = km at *
  by_cases h0 : km = 0
  · subst h0
    clear hrange
    go_upto_if 22 with (fail)
    go_cut [7] (fun v7 wc => ∃ s : ByteArray, v7 = .string s ∧ Below w1.heap.size w1 wc)
    case first =>
      cases raw with
      | true =>
        go_wp2
        go_meet
        case rel => exact ⟨text, rfl, Below.refl _ _⟩
      | false =>
        go_wp2_with fail
        refine (fit_walk _ text).mono ?_
        rintro e w2 ⟨rfl, hb⟩
        go_wp2
        go_meet
        case rel => exact ⟨_, rfl, hb⟩
    case rest =>
      obtain ⟨s, rfl, hbc⟩ := hcut
      have HXc := Aside0.mk (blk_below HX.out hbc)
      have Hc := Aside0.mk (H1.out.below hbc)
      have HBc : Aside0 (Below base w wc) := ⟨HB1.out.trans (hbc.mono HS1.out)⟩
      have HLc : Aside0 (q < wc.drew.heap.size ∧ base ≤ wc.drew.heap.size) := ⟨Nat.lt_of_lt_of_le HL1.out hbc.size, Nat.le_trans HS1.out hbc.size⟩
      have HD := Aside0.mk (Hc.out.below (below_drew1 (Below.refl _ _)))
      have HBD : Aside0 (Below base w wc.drew) := ⟨HBc.out.trans (below_drew1 (Below.refl _ _))⟩
      have y1 : wc.cell? ⟨q, 1, none⟩ = some (.int .i64 n) := (blk_cell HXc.out 1).trans rfl
      have z1 : wc.drew.cell? ⟨q, 1, none⟩ = some (.int .i64 n) := y1
      have hdw := writeD_walk HD.out.dev n s (by have := HN.out; unfold maxLen; omega)
      have hrw := fun (w5 : World) (hc5 : Chg wc.drew w5 b g m) => writeR_walk (HD.out.ref.stays HD.out.dev hc5) n s
      obtain ⟨v, hv⟩ : ∃ v, v = writeD S.length fuse down n s := ⟨_, rfl⟩
      obtain ⟨f', hf'⟩ : ∃ f', f' = (if writeD S.length fuse down n s = 0 then cput f n s else f) := ⟨_, rfl⟩
      obtain ⟨u', hu'⟩ : ∃ u', u' = (if writeB S.length down n s = true then (burned fuse down).1 else fuse) := ⟨_, rfl⟩
      obtain ⟨o', ho'⟩ : ∃ o', o' = (if writeB S.length down n s = true then (burned fuse down).2 else down) := ⟨_, rfl⟩
      obtain ⟨s', hs'⟩ : ∃ s', s' = (if writeD S.length fuse down n s = 0 then (if (f n).isSome then sz else sz + 1) else sz) := ⟨_, rfl⟩
      simp only [← hf', ← hu', ← ho', ← hs'] at hdw hrw
      simp only [← hv] at hdw hrw
      have HDW := Aside0.mk hdw
      have HRW := Aside0.mk hrw
      clear hv hf' hu' ho' hs' hdw hrw hbc k0 k1 k2 k3 k4
      go_wp2_with fail
      go_region_held3 (fun w' => w'.cell? ⟨q, 1, none⟩ = some (.int .i64 n)) (first | exact z1 | exact d1 | exact e1)
        (first
          | (go_at_call 55; refine (HRW.out _ hc5).mono ?_; rintro e w6 ⟨rfl, hc6, hr6⟩; have e1 : w6.cell? ⟨q, 1, none⟩ = some (.int .i64 n) := (hc6.cell q 1 (Nat.lt_of_lt_of_le HLc.out.1 hc5.size) HQ.out.2.2.2.1 HQ.out.2.2.2.2.1 HQ.out.2.2.2.2.2).trans d1)
          | (go_at_call 27; refine HDW.out.mono ?_; rintro e w5 ⟨rfl, hc5, hd5⟩; have d1 : w5.cell? ⟨q, 1, none⟩ = some (.int .i64 n) := (hc5.cell q 1 HLc.out.1 HQ.out.1 HQ.out.2.1 HQ.out.2.2.1).trans z1))
      have HE : Aside0 (Left base w w6 b g m N r g1 g2 c1 c2 sl1 sl2 S) := ⟨⟨hc6.below (hc5.below HBD.out HLc.out.2 HBS.out.1 HBS.out.2.1 HBS.out.2.2.1) (Nat.le_trans HLc.out.2 hc5.size) HBS.out.2.2.2.1 HBS.out.2.2.2.2.1 HBS.out.2.2.2.2.2.1, N + 1, s', S, f', u', o', Nat.le_refl _, rfl, hd5.stays (HD.out.ref.stays HD.out.dev hc5) hc6, hr6⟩⟩
      clear hc5 hd5 hc6 hr6 d1 e1 y1 z1
      go_wp2
      go_ret
      exact ⟨by simp, HE.out⟩
  · have h0b : (km == 0) = false := by simpa using h0
    by_cases h1 : km = 1
    · subst h1
      clear h0 hrange
      have hrd := readD_walk H1.out.dev n
      have hrr := fun (w5 : World) (h5 : Below w1.heap.size w1 w5) => readR_walk (H1.out.ref.below h5) n
      generalize readD S f down n = q1 at *
      have HRD := Aside0.mk hrd
      have HRR := Aside0.mk hrr
      clear hrd hrr
      go_wp2_with fail
      refine HRD.out.mono ?_
      rintro e w5 ⟨rfl, hb5⟩
      have d1 : w5.cell? ⟨q, 1, none⟩ = some (.int .i64 n) := (blk_cell (blk_below HX.out hb5) 1).trans rfl
      have HB5 := Aside0.mk hb5
      clear hb5 k0 k1 k2 k3 k4
      go_wp2_with fail
      refine (HRR.out w5 HB5.out).mono ?_
      rintro e w6 ⟨rfl, rfl⟩
      go_wp2
      go_ret
      exact ⟨by simp, HB1.out.trans (HB5.out.mono HS1.out), N, sz, S, f, fuse, down, Nat.le_succ _, rfl, H1.out.below HB5.out⟩
    · have h1b : (km == 1) = false := by simpa using h1
      by_cases h2 : km = 2
      · subst h2
        clear h0 h1 hrange k0 k1 k2 k3 k4
        cases down with
        | true =>
          go_wp2_with fail
          refine (flush_down H1.out.dev).mono ?_
          rintro e w5 ⟨rfl, rfl⟩
          go_wp2_with fail
          refine (flushR_down H1.out.ref).mono ?_
          rintro e w6 ⟨rfl, rfl⟩
          go_wp2
          go_ret
          exact ⟨rfl, HB1.out, N, sz, S, f, fuse, true, Nat.le_succ _, rfl, H1.out⟩
        | false =>
          cases hbd : (burned fuse false).2 with
          | true =>
            have hfd := flush_burnt H1.out.dev hbd
            have hfr := fun (w5 : World) (hc5 : Chg w1 w5 b g m) => flushR_burnt (H1.out.ref.stays H1.out.dev hc5) hbd
            have HFD := Aside0.mk hfd
            have HFR := Aside0.mk hfr
            clear hbd hfd hfr
            go_wp2_with fail
            refine HFD.out.mono ?_
            rintro e w5 ⟨rfl, hc5, hd5⟩
            have HC5 := Aside0.mk (And.intro hc5 hd5)
            clear hc5 hd5
            go_wp2_with fail
            refine (HFR.out w5 HC5.out.1).mono ?_
            rintro e w6 ⟨rfl, hc6, hr6⟩
            have HE : Aside0 (Left base w w6 b g m N r g1 g2 c1 c2 sl1 sl2 S) := ⟨⟨hc6.below (HC5.out.1.below HB1.out HS1.out HBS.out.1 HBS.out.2.1 HBS.out.2.2.1) (Nat.le_trans HS1.out HC5.out.1.size) HBS.out.2.2.2.1 HBS.out.2.2.2.2.1 HBS.out.2.2.2.2.2.1, N, sz, S, f, _, _, Nat.le_succ _, rfl, HC5.out.2.stays (H1.out.ref.stays H1.out.dev HC5.out.1) hc6, hr6⟩⟩
            clear hc6 hr6
            go_wp2
            go_ret
            exact ⟨rfl, HE.out⟩
          | false =>
            have hfd := flush_good H1.out.dev hbd
            have hfr := fun (w5 : World) (hc5 : Chg w1 w5 b g m) => flushR_good (H1.out.ref.stays H1.out.dev hc5) hbd
            have HFD := Aside0.mk hfd
            have HFR := Aside0.mk hfr
            clear hbd hfd hfr
            go_wp2_with fail
            refine HFD.out.mono ?_
            rintro e w5 ⟨rfl, hc5, hd5⟩
            have HC5 := Aside0.mk (And.intro hc5 hd5)
            clear hc5 hd5
            go_wp2_with fail
            refine (HFR.out w5 HC5.out.1).mono ?_
            rintro e w6 ⟨rfl, hc6, hr6⟩
            have HE : Aside0 (Left base w w6 b g m N r g1 g2 c1 c2 sl1 sl2 S) := ⟨⟨hc6.below (HC5.out.1.below HB1.out HS1.out HBS.out.1 HBS.out.2.1 HBS.out.2.2.1) (Nat.le_trans HS1.out HC5.out.1.size) HBS.out.2.2.2.1 HBS.out.2.2.2.2.1 HBS.out.2.2.2.2.2.1, 0, 0, flushed S f, _, _, _, Nat.zero_le _, flushed_len S f, HC5.out.2.stays (H1.out.ref.stays H1.out.dev HC5.out.1) hc6, hr6⟩⟩
            clear hc6 hr6
            go_wp2
            go_ret
            exact ⟨rfl, HE.out⟩
      · have h2b : (km == 2) = false := by simpa using h2
        by_cases h3 : km = 3
        · subst h3
          clear h0 h1 h2 hrange k0 k2 k3 k4
          have HLc : Aside0 (q < w1.drew.heap.size ∧ base ≤ w1.drew.heap.size) := ⟨HL1.out, HS1.out⟩
          have HD := Aside0.mk (H1.out.below (below_drew1 (Below.refl _ _)))
          have HBD : Aside0 (Below base w w1.drew) := ⟨HB1.out.trans (below_drew1 (Below.refl _ _))⟩
          have z1 : w1.drew.cell? ⟨q, 1, none⟩ = some (.int .i64 n) := k1
          have hdw := fuse_walk HD.out.dev n
          have hrw := fun (w5 : World) (hc5 : Chg w1.drew w5 b g m) => fuseR_walk (HD.out.ref.stays HD.out.dev hc5) n
          obtain ⟨u', hu'⟩ : ∃ u', u' = (if fuseV down n = 0 then n else fuse) := ⟨_, rfl⟩
          simp only [← hu'] at hdw hrw
          generalize fuseV down n = v at *
          have HDW := Aside0.mk hdw
          have HRW := Aside0.mk hrw
          clear hu' hdw hrw
          go_wp2_with fail
          go_region_held3 (fun w' => w'.cell? ⟨q, 1, none⟩ = some (.int .i64 n)) (first | exact z1 | exact d1 | exact e1)
            (first
              | (go_at_call 58; refine (HRW.out _ hc5).mono ?_; rintro e w6 ⟨rfl, hg6, hr6⟩; have hc6 : Chg w5 w6 r g1 g2 := Chg.of hg6 (fun k e => .inl (by injection e with e; exact e.symm)); have e1 : w6.cell? ⟨q, 1, none⟩ = some (.int .i64 n) := (hc6.cell q 1 (Nat.lt_of_lt_of_le HLc.out.1 hc5.size) HQ.out.2.2.2.1 HQ.out.2.2.2.2.1 HQ.out.2.2.2.2.2).trans d1)
              | (go_at_call 36; refine HDW.out.mono ?_; rintro e w5 ⟨rfl, hg5, hd5⟩; have hc5 : Chg w1.drew w5 b g m := Chg.of hg5 (fun k e => .inl (by injection e with e; exact e.symm)); have d1 : w5.cell? ⟨q, 1, none⟩ = some (.int .i64 n) := (hc5.cell q 1 HLc.out.1 HQ.out.1 HQ.out.2.1 HQ.out.2.2.1).trans z1))
          have HE : Aside0 (Left base w w6 b g m N r g1 g2 c1 c2 sl1 sl2 S) := ⟨⟨hc6.below (hc5.below HBD.out HLc.out.2 HBS.out.1 HBS.out.2.1 HBS.out.2.2.1) (Nat.le_trans HLc.out.2 hc5.size) HBS.out.2.2.2.1 HBS.out.2.2.2.2.1 HBS.out.2.2.2.2.2.1, N, sz, S, f, u', down, Nat.le_succ _, rfl, hd5.stays (HD.out.ref.stays HD.out.dev hc5) hc6, hr6⟩⟩
          clear hc5 hd5 hc6 hr6 d1 e1 z1 k1 hg5 hg6
          go_wp2
          go_ret
          exact ⟨by simp, HE.out⟩
        · have h3b : (km == 3) = false := by simpa using h3
          by_cases h4 : km = 4
          · subst h4
            clear h0 h1 h2 h3 hrange k0 k1 k2 k3
            have hlen := Kd.C_max (HPK.out w1 HB1.out)
            have k5 : (w1.alloc (.cells #[] 3)).cell? ⟨q, 4, none⟩ = some (.slice A picks.length c) := (blk_cell (blk_alloc HX.out _) 4).trans rfl
            have HB3 : Aside0 (Below base w (w1.alloc (.cells #[] 3))) := ⟨HB1.out.trans ((below_alloc (Below.refl w1.heap.size w1) _).mono HS1.out)⟩
            have hR0 : Kd.R (Kd.int .i64) 3 (w1.alloc (.cells #[] 3)) w1.heap.size (fun k => w1.heap.size ≤ k) (.slice (some ⟨w1.heap.size, 0, none⟩) 0 0) [] := Kd.R_of_own (World.ownsRow_made w1 #[] 0 (Nat.le_refl _) (Nat.zero_le _) rfl) (fun k e => Nat.le_of_eq (by simpa [Value.ownBlock] using e))
            have HR0 := Aside0.mk hR0
            have H3 := Aside0.mk (H1.out.below (below_alloc (Below.refl _ _) (.cells #[] 3)))
            have HBS3 : Aside0 (Below w1.heap.size w1 (w1.alloc (.cells #[] 3))) := ⟨below_alloc (Below.refl _ _) _⟩
            have hX3 := blk_alloc HX.out (.cells #[] 3)
            have HX3 := Aside0.mk hX3
            have HLT : Aside0 (b < w1.heap.size ∧ g < w1.heap.size ∧ m < w1.heap.size) := ⟨H1.out.dev.lt⟩
            have HLT2 : Aside0 (r < w1.heap.size ∧ g1 < w1.heap.size ∧ g2 < w1.heap.size) := ⟨H1.out.ref.lt⟩
            clear hR0 hX3
            go_wp2_with (first | ((with_reducible refine gate_builtin (b := .append) (xs := #[.tmp 80, .tmp 82]) rfl ?_); at_builtin; refine Kd.R_append_rows (Kd.int .i64) (w0 := w1) w1.heap.size rfl (.tmp 80) (.tmp 82) 57 3 (.int .i64 0) 8 rfl Try.underlying57 info3c rfl (by decide) (by omega) (.slice (some ⟨w1.heap.size, 0, none⟩) 0 0) ([] : List Int) picks A picks.length c (fun k => w1.heap.size ≤ k) (fun _ => False) rfl rfl HR0.out (HPK.out _ HB3.out) (fun _ _ h => h) (fun _ h => h.elim) (fun k hk => by rw [World.size_alloc] at hk; omega) HBS3.out (by rw [World.size_alloc]; omega) (by have := HLP.out; rw [List.length_nil, Nat.zero_add]; omega) ?_; intro v3 w3 ho3 hb3 hg3 hat3))
            rw [List.nil_append] at ho3
            obtain ⟨A', c', rfl, hcl, hC3⟩ := Kd.R_reads ho3
            have HO3 := Aside0.mk ho3
            have HD3 := Aside0.mk (H1.out.below hb3)
            have HB4 : Aside0 (Below base w w3) := ⟨HB1.out.trans (hb3.mono HS1.out)⟩
            have HS3 : Aside0 (w1.heap.size ≤ w3.heap.size) := ⟨hb3.size⟩
            have hX4 := blk_below HX.out hb3
            have HX4 := Aside0.mk hX4
            clear ho3 hg3 hat3 k4 k5 hcl hC3 hX4 HR0 H3 HBS3 HX3 HB3 hb3
            go_wp2_with fail
            refine (crash_walk HD3.out.dev (by have := HN.out; omega) A' c' picks (fun w' hc => rows_kept HO3.out (fun k hk hlt => hc.block k hlt (by have := HLT.out; omega) (by have := HLT.out; omega) (by have := HLT.out; omega)))).mono ?_
            rintro e w5 ⟨rfl, hc5, ks, hks, hkl, hd5⟩
            have HB5 : Aside0 (Below base w w5) := ⟨hc5.below HB4.out (Nat.le_trans HS1.out HS3.out) HBS.out.1 HBS.out.2.1 HBS.out.2.2.1⟩
            have HO5 := Aside0.mk (Kd.R_step HO3.out (fun k hk hlt => hc5.block k hlt (by have := HLT.out; omega) (by have := HLT.out; omega) (by have := HLT.out; omega)))
            have HRF := Aside0.mk (HD3.out.ref.stays HD3.out.dev hc5)
            have HD5 := Aside0.mk hd5
            have HK := Aside0.mk hks
            have HX5 := Aside0.mk ((hc5.block q (Nat.lt_of_lt_of_le HL1.out HS3.out) HQ.out.1 HQ.out.2.1 HQ.out.2.2.1).trans HX4.out)
            have HS5 : Aside0 (w1.heap.size ≤ w5.heap.size) := ⟨Nat.le_trans HS3.out hc5.size⟩
            have k5 : w5.cell? ⟨q, 4, none⟩ = some (.slice A picks.length c) := (blk_cell HX5.out 4).trans rfl
            clear hc5 hks hkl hd5
            go_wp2_with fail
            refine (crashR_walk HRF.out ks HK.out A c picks (fun w' hc => HPK.out w' (hc.below HB5.out (Nat.le_trans HS1.out HS5.out) HBS.out.2.2.2.1 HBS.out.2.2.2.2.1 HBS.out.2.2.2.2.2.1))).mono ?_
            rintro e w6 ⟨rfl, hc6, hr6⟩
            have HB6 : Aside0 (Below base w w6) := ⟨hc6.below HB5.out (Nat.le_trans HS1.out HS5.out) HBS.out.2.2.2.1 HBS.out.2.2.2.2.1 HBS.out.2.2.2.2.2.1⟩
            have HO6 := Aside0.mk (rows_kept HO5.out (fun k hk hlt => hc6.block k hlt (by have := HLT2.out; omega) (by have := HLT2.out; omega) (by have := HLT2.out; omega)))
            have HX6 := Aside0.mk ((hc6.block q (Nat.lt_of_lt_of_le HL1.out HS5.out) HQ.out.2.2.2.1 HQ.out.2.2.2.2.1 HQ.out.2.2.2.2.2).trans HX5.out)
            have HD6 := Aside0.mk (HD5.out.stays HRF.out hc6)
            have HR6 := Aside0.mk hr6
            have HS6 : Aside0 (w1.heap.size ≤ w6.heap.size) := ⟨Nat.le_trans HS5.out hc6.size⟩
            have k6 : w6.cell? ⟨q, 4, none⟩ = some (.slice A picks.length c) := (blk_cell HX6.out 4).trans rfl
            clear hc6 hr6 k5
            go_wp2_with fail
            refine (sameInts_walk w6 A' c' A c picks HO6.out (HPK.out w6 HB6.out)).mono ?_
            rintro e w7 ⟨rfl, hb7⟩
            have HE : Aside0 (Left base w w7 b g m N r g1 g2 c1 c2 sl1 sl2 S) := ⟨⟨HB6.out.trans (hb7.mono (Nat.le_trans HS1.out HS6.out)), 0, 0, _, _, _, _, Nat.zero_le _, torn_len S f ks picks ks.length, HD6.out.below hb7, HR6.out.below hb7⟩⟩
            clear hb7
            go_wp2
            go_ret
            exact ⟨rfl, HE.out⟩
          · have h4b : (km == 4) = false := by simpa using h4
            clear h0 h1 h2 h3 h4 hrange k0 k1 k2 k3 k4
            go_wp2_with fail
            refine (wipe_walk H1.out.dev).mono ?_
            rintro e w5 ⟨rfl, hc5, hd5⟩
            have HC5 := Aside0.mk (And.intro hc5 hd5)
            clear hc5 hd5
            go_wp2_with fail
            refine (wipeR_walk (H1.out.ref.stays H1.out.dev HC5.out.1)).mono ?_
            rintro e w6 ⟨rfl, hc6, hr6⟩
            have HE : Aside0 (Left base w w6 b g m N r g1 g2 c1 c2 sl1 sl2 S) := ⟨⟨hc6.below (HC5.out.1.below HB1.out HS1.out HBS.out.1 HBS.out.2.1 HBS.out.2.2.1) (Nat.le_trans HS1.out HC5.out.1.size) HBS.out.2.2.2.1 HBS.out.2.2.2.2.1 HBS.out.2.2.2.2.2.1, 0, 0, _, _, _, _, Nat.zero_le _, List.length_replicate .., HC5.out.2.stays (H1.out.ref.stays H1.out.dev HC5.out.1) hc6, hr6⟩⟩
            clear hc6 hr6
            go_wp2
            go_ret
            exact ⟨rfl, HE.out⟩
end
end Go.Proofs.Yteibcojjbcihbaa.Sec
