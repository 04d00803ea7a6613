/- A shelf in memory: slices.Contains at texts; Held. -/
import Derived.Test.YtaldfbmjmpkmmaaHShG
namespace Go.Proofs.Ytaldfbmjmpkmmaa.PL
open Go.RowKit Go.Proofs.YtaldfbmjmpkmmaaW.PrintWords Go.Proofs.YtaldfbmjmpkmmaaW.PrintLast Go.Proofs.YtaldfbmjmpkmmaaW.PrintMore Go.Shelf Go.Maps Go.WideMaps Go.Proofs.Ytaldfbmjmpkmmaa.Mk
set_option linter.unusedVariables false
set_option linter.unusedSimpArgs false
set_option linter.unusedSectionVars false
set_option maxRecDepth 100000 in
set_option maxHeartbeats 2000000 in
theorem indexS_walk (w : World) (A : Option Addr) (c : Nat) (xs : List ByteArray) (v : ByteArray) (hr : Kd.C Kd.string w A xs.length xs) :
    Calls Try.prog 109 #[.slice A xs.length c, .string v] w fun e w' => e = .returned (.int .i64 (firstG (fun x => kb v == kb x) xs 0)) ∧ Below w.heap.size w w' := by
  have HR := Aside0.mk hr
  have hmax := Kd.C_max hr
  clear hr
  obtain ⟨p, hp⟩ : ∃ p, p = (fun x => kb v == kb x) := ⟨_, rfl⟩
  rw [← hp]
  have HP := Aside0.mk hp
  clear hp
  go_enter Try.func109, Try.ntmps109
  go_wp2
  go_loopw [8] (fun i wr => ∃ k : Nat, k ≤ xs.length ∧ i = .int .i64 k ∧ Aside0 (firstG p xs 0 = firstG p (xs.drop k) k) ∧ Aside0 (Below w.heap.size w wr))
    (fun i _ => xs.length - (intOf i).toNat)
  case atStart => exact ⟨0, Nat.zero_le _, rfl, ⟨rfl⟩, ⟨Below.refl _ _⟩⟩
  case round =>
    obtain ⟨k, hk, rfl, HF, HB⟩ := hrel
    by_cases hlt : k < xs.length
    · obtain ⟨ad, cs, rfl, hlen, hK, hc0⟩ := Kd.C_get (Kd.C_below HR.out HB.out) (⟨#[]⟩ : ByteArray) (k : Int) (by omega) (by omega)
      rw [Int.toNat_natCast] at hK hc0
      have hc : ∀ j u, cs[j]? = some u → wr.cell? (ad.add (k * 1 + j)) = some u := hc0
      obtain rfl := strK_open hK
      have hc0' : wr.cell? (ad.add k) = some (.string (xs.getD k (⟨#[]⟩ : ByteArray))) := by have := hc 0 _ rfl; simpa using this
      have hdrop : xs.drop k = xs.getD k (⟨#[]⟩ : ByteArray) :: xs.drop (k + 1) := by
        rw [List.drop_eq_getElem_cons hlt]; simp [List.getElem?_eq_getElem hlt]
      have HF2 := HF.out
      rw [hdrop] at HF2
      generalize hx : xs.getD k (⟨#[]⟩ : ByteArray) = x at *
      have HF3 := Aside0.mk HF2
      have hpx : (v.toList == x.toList) = p x := by rw [kb_beq, HP.out]
      clear hdrop hx HF2 HF hK hc0 hc hlen
      cases hq : p x with
      | true =>
        have HV : Aside0 (firstG p xs 0 = (k : Int)) := ⟨by rw [HF3.out]; unfold firstG; rw [hq]; rfl⟩
        rw [hq] at hpx
        clear hq
        go_wp2_with fail
        go_ret
        exact ⟨by rw [HV.out]; rfl, HB.out⟩
      | false =>
        have HV : Aside0 (firstG p xs 0 = firstG p (xs.drop (k + 1)) ((k + 1 : Nat) : Int)) := ⟨by
          rw [HF3.out]
          show (if p x = true then (k : Int) else firstG p (xs.drop (k + 1)) ((k : Int) + 1)) = _
          rw [hq]; simp⟩
        rw [hq] at hpx
        clear hq
        go_wp2_with fail
        go_roundw
        case rel => exact ⟨k + 1, by omega, by go_num, HV, HB⟩
        case measure => simp [intOf]; omega
    · obtain rfl : k = xs.length := by omega
      have HV : Aside0 (firstG p xs 0 = -1) := ⟨by rw [HF.out, List.drop_of_length_le (Nat.le_refl _)]; rfl⟩
      go_wp2
      go_ret
      exact ⟨by rw [HV.out]; rfl, HB.out⟩
set_option maxRecDepth 100000 in
theorem containsS_walk (w : World) (A : Option Addr) (c : Nat) (xs : List ByteArray) (v : ByteArray) (hr : Kd.C Kd.string w A xs.length xs) :
    Calls Try.prog 68 #[.slice A xs.length c, .string v] w fun e w' => e = .returned (.bool (xs.any fun x => kb x == kb v)) ∧ Below w.heap.size w w' := by
  have hc := indexS_walk w A c xs v hr
  have hge := firstG_ge (fun x => kb v == kb x) xs 0 (by omega)
  have hval : decide (firstG (fun x => kb v == kb x) xs 0 ≥ 0) = xs.any fun x => kb x == kb v := by
    rw [show (fun x => kb x == kb v) = (fun x => kb v == kb x) from funext fun x => BEq.comm]
    rw [Bool.eq_iff_iff, decide_eq_true_iff]
    exact hge
  generalize firstG (fun x => kb v == kb x) xs 0 = n at hc hval
  have HC := Aside0.mk hc
  have HV := Aside0.mk hval
  clear hc hge hval hr
  generalize (xs.any fun x => kb x == kb v) = q at *
  go_enter Try.func68, Try.ntmps68
  go_wp2_with fail
  refine HC.out.mono ?_
  rintro e w1 ⟨rfl, hb1⟩
  have HB := Aside0.mk hb1
  clear hb1
  go_wp2_with fail
  go_ret
  exact ⟨by rw [← HV.out]; rfl, HB.out⟩
theorem sameKey_ik (a b : Int) : (ik a).sameKey (ik b) = decide (a = b) := by
  unfold ik
  by_cases e : a = b
  · subst e
    simp [Lit.sameKey]
  · rw [sameKey_ne (fun h => e (by injection h))]
    simp [e]
theorem prep_one {P : List Rec} (h : P.Pairwise (fun a b => a.f1 < b.f1)) {a b : Rec} (ha : a ∈ P) (hb : b ∈ P) (e : a.f1 = b.f1) : a = b := by
  induction P with
  | nil => simp at ha
  | cons x r ih =>
    obtain ⟨h1, h2⟩ := List.pairwise_cons.1 h
    rcases List.mem_cons.1 ha with ea | ha'
    · rcases List.mem_cons.1 hb with eb | hb'
      · rw [ea, eb]
      · have := h1 b hb'
        rw [ea] at e
        omega
    · rcases List.mem_cons.1 hb with eb | hb'
      · have := h1 a ha'
        rw [eb] at e
        omega
      · exact ih h2 ha' hb'
set_option maxRecDepth 100000 in
set_option maxHeartbeats 4000000 in
/-- Held. -/
theorem held_walk {w : World} {ok : Nat → Prop} {b N : Nat} {s : Sh} (h : ShAt w ok b N s) (key : ByteArray) (wt : Bool) :
    Calls Try.prog 31 #[.pointer (some ⟨b, 0, none⟩), .string key, .bool wt] w fun e w' => e = .returned (.bool (heldV s (kb key) wt)) ∧ Below w.heap.size w w' := by
  obtain ⟨bk, bp, ve, fk, fp, hp⟩ := h
  obtain ⟨c0, c1, c2, c3⟩ := hp.cells
  have HP := Aside0.mk hp
  clear hp
  go_enter Try.func31, Try.ntmps31
  go_wp2_with (at_range; refine MapL.range HP.out.preps keyedI rfl _ 75 35 rfl Try.underlying75 rfl ?_; intro w1 cnt0 hrg0 hb0 hsz0)
  go_frame
  have HRG0 := Aside0.mk hrg0
  have HB0 := Aside0.mk hb0
  clear hrg0 hb0 hsz0
  go_loopw [8] (fun _ wz => ∃ left cnt, Aside0 (RangeL Try.prog 3 wz bp w.heap.size N fp left cnt) ∧ Aside0 (∀ r, r ∈ s.P → left (ik r.f1) = false → heldR r (kb key) wt = false) ∧ Aside0 (Below w.heap.size w wz))
    (fun _ wz => wz.rangeLeft bp w.heap.size)
  case atStart => exact ⟨_, _, HRG0, ⟨fun r hr hl => by rw [HP.out.pt r hr] at hl; cases hl⟩, HB0⟩
  case round =>
    clear HRG0 HB0
    obtain ⟨left, cnt, HRG, HD, HB⟩ := hrel
    go_wp2_with (at_next; refine RangeL.next HRG.out keyedI rfl _ rfl rfl ?_ ?_)
    · intro _ hl0
      have hv : Aside0 (heldV s (kb key) wt = false) := ⟨by
        unfold heldV
        rw [List.any_eq_false]
        intro r hr
        rw [HD.out r hr (hl0 _)]
        simp⟩
      clear hl0
      go_wp2
      go_ret
      exact ⟨by rw [hv.out]; rfl, HB.out⟩
    · intro k q v w2 cnt2 hkey hlq hfv hrg2 hlt hg2 hs2 hen
      have HB2 : Aside0 (Below w.heap.size w w2) := ⟨⟨hg2.os.trans HB.out.os, hg2.tape.trans HB.out.tape, hg2.output.trans HB.out.output, Nat.le_trans HB.out.size hg2.size, fun i hi => (hg2.block i (Nat.lt_of_lt_of_le hi HB.out.size) (fun e => by injection e with e; omega)).trans (HB.out.block i hi)⟩⟩
      obtain ⟨r, hr, hq, cs, hv, hM⟩ := (HP.out.below HB2.out).pf q v hfv
      have hK := k35.K_of_M hM
      obtain ⟨A7, c7, A8, c8, hcs, h1, h2, h3, h4⟩ := k35_open hK
      subst hcs
      subst hv
      subst hq
      have HRG2 := Aside0.mk hrg2
      have HLT := Aside0.mk hlt
      have HRR := Aside0.mk hr
      have HKR := Aside0.mk hK
      have HC7 := Aside0.mk h2
      have HLE := Aside0.mk HRG.out.left_eq
      clear hkey hlq hfv hrg2 hlt hg2 hs2 hM hK h1 h2 h3 h4 hr
      have HLN : Aside0 (∀ r', r' ∈ s.P → (left (ik r'.f1) && !(ik r'.f1).sameKey (ik r.f1)) = false → heldR r (kb key) wt = false → heldR r' (kb key) wt = false) := ⟨fun r' hr' hl hf => by
        cases hl2 : left (ik r'.f1) with
        | false => exact HD.out r' hr' hl2
        | true =>
          rw [hl2, sameKey_ik] at hl
          have : r'.f1 = r.f1 := by simpa using hl
          rw [prep_one HP.out.good.rise hr' HRR.out this]
          exact hf⟩
      have HYES : Aside0 (heldR r (kb key) wt = true → heldV s (kb key) wt = true) := ⟨fun hf => List.any_eq_true.2 ⟨r, HRR.out, hf⟩⟩
      have HHR : Aside0 (heldR r (kb key) wt = (wrote r (kb key) || (wt && watches r (kb key)))) := ⟨rfl⟩
      have HWT : Aside0 (watches r (kb key) = r.f7.any fun q => kb q == kb key) := ⟨rfl⟩
      have hbx := blk_new w2 (.cells #[.int .i64 r.f0, .int .i64 r.f1, .int .i64 r.f2, .int .i64 r.f3, .string r.f4, .string r.f5, .bool r.f6, .slice A7 r.f7.length c7, .slice A8 r.f8.length c8] 35)
      have hbb := below_alloc (Below.refl _ w2) (.cells #[.int .i64 r.f0, .int .i64 r.f1, .int .i64 r.f2, .int .i64 r.f3, .string r.f4, .string r.f5, .bool r.f6, .slice A7 r.f7.length c7, .slice A8 r.f8.length c8] 35)
      have HWW := Aside0.mk (writes_walk _ r _ (k35.K_below hbb HKR.out) key)
      have HBX := Aside0.mk hbx
      have HBB := Aside0.mk hbb
      clear hbx hbb
      generalize wrote r (kb key) = b1 at *
      generalize heldR r (kb key) wt = hR at *
      go_wp2_with fail
      refine HWW.out.mono ?_
      rintro e w4 ⟨rfl, hb4⟩
      have HB24 : Aside0 (Below w2.heap.size w2 w4) := ⟨HBB.out.trans (hb4.mono HBB.out.size)⟩
      have HB4 : Aside0 (Below w.heap.size w w4) := ⟨HB2.out.trans (HB24.out.mono HB2.out.size)⟩
      have HR4 := Aside0.mk (HRG2.out.below HB24.out)
      have BX4 := Aside0.mk (blk_below HBX.out hb4)
      have HC4 := Aside0.mk (k35_open (k35.K_below HB24.out HKR.out))
      clear hb4 HWW HBX HBB HRG2 HB24
      have y7 := blk_cell BX4.out 7
      cases b1 with
      | true =>
        have HV : Aside0 (heldV s (kb key) wt = true) := ⟨HYES.out (by rw [HHR.out]; rfl)⟩
        go_wp2_with fail
        go_ret
        exact ⟨by rw [HV.out]; rfl, HB4.out⟩
      | false =>
        cases wt with
        | false =>
          have HF : Aside0 (hR = false) := ⟨by rw [HHR.out]; rfl⟩
          go_wp2_with fail
          go_roundw
          case rel => exact ⟨_, _, HR4, ⟨fun r' h1 h2 => HLN.out r' h1 h2 HF.out⟩, HB4⟩
          case measure => rw [HR4.out.left_eq, HLE.out]; exact HLT.out
        | true =>
          have hc7 : Aside0 (∃ A c, (Value.slice A7 r.f7.length c7 = .slice A r.f7.length c) ∧ r.f7.length ≤ c ∧ Kd.string.C w4 A r.f7.length r.f7) := ⟨by
            obtain ⟨B7, d7, B8, d8, e, q1, q2, q3, q4⟩ := HC4.out
            injection e with _ e
            injection e with _ e
            injection e with _ e
            injection e with _ e
            injection e with _ e
            injection e with _ e
            injection e with _ e
            injection e with e7 e
            exact ⟨B7, d7, e7, q1, q2⟩⟩
          obtain ⟨B7, d7, e7, q1, q2⟩ := hc7.out
          injection e7 with e71 e72 e73
          subst e71 e73
          have HCS := Aside0.mk (containsS_walk w4 A7 c7 r.f7 key q2)
          rw [← HWT.out] at HCS
          clear q1 q2
          go_wp2_with fail
          refine HCS.out.mono ?_
          rintro e w5 ⟨rfl, hb5⟩
          have HB5 : Aside0 (Below w.heap.size w w5) := ⟨HB4.out.trans (hb5.mono HB4.out.size)⟩
          have HR5 := Aside0.mk (HR4.out.below hb5)
          clear hb5
          generalize watches r (kb key) = b2 at *
          cases b2 with
          | true =>
            have HV : Aside0 (heldV s (kb key) true = true) := ⟨HYES.out (by rw [HHR.out]; rfl)⟩
            go_wp2_with fail
            go_ret
            exact ⟨by rw [HV.out]; rfl, HB5.out⟩
          | false =>
            have HF : Aside0 (hR = false) := ⟨by rw [HHR.out]; rfl⟩
            go_wp2_with fail
            go_roundw
            case rel => exact ⟨_, _, HR5, ⟨fun r' h1 h2 => HLN.out r' h1 h2 HF.out⟩, HB5⟩
            case measure => rw [HR5.out.left_eq, HLE.out]; exact HLT.out
end Go.Proofs.Ytaldfbmjmpkmmaa.PL
