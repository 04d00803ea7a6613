/- SectorTears: the law's walk. -/
import Derived.Test.YteibcojjbcihbaaHTorn
namespace Go.Proofs.Yteibcojjbcihbaa.Sec
open Go.RowKit Go.Proofs.YteibcojjbcihbaaW.PrintWords Go.Proofs.YteibcojjbcihbaaW.PrintLast Go.Proofs.YteibcojjbcihbaaW.PrintMore Go.Maps Go.Proofs.Yteibcojjbcihbaa.Mk
open Go.Proofs.Yteibcojjbcihbaa.Txn (unguard blk_newI okStr)
set_option linter.unusedVariables false
set_option linter.unusedSimpArgs false
theorem TextsAt.kept {w w' : World} {a r : Nat} {t : TypeId} {L : List ByteArray} (h : TextsAt w a t L) (hg : w.grownBy w' (some r)) (hne : a ≠ r) : TextsAt w' a t L := blk_grown h hg (some_ne hne)
theorem TextsAt.at_ {w : World} {a i : Nat} {t : TypeId} {L : List ByteArray} {s : ByteArray} (h : TextsAt w a t L) (hs : L[i]? = some s) : w.cell? ⟨a, i, none⟩ = some (.string s) := by
  obtain ⟨hi, rfl⟩ := List.getElem?_eq_some_iff.1 hs
  exact h.cell i hi
theorem tear_eq {o1 o2 s : ByteArray} {n : Nat} (h1 : o1.size = 64) (h2 : o2.size = 64) (hs : s.data.toList = o2.data.toList.take n ++ o1.data.toList.drop n) : s = o2.extract 0 n ++ o1.extract n 64 := by
  apply ByteArray.ext
  apply Array.toList_inj.1
  rw [hs, ByteArray.data_append, ByteArray.data_extract, ByteArray.data_extract, Array.toList_append, Array.toList_extract, Array.toList_extract, List.extract_eq_take_drop, List.extract_eq_take_drop]
  have e : o1.data.toList.length = 64 := h1
  have e2 : List.take (64 - n) (List.drop n o1.data.toList) = List.drop n o1.data.toList := List.take_of_length_le (by rw [List.length_drop, e]; omega)
  rw [e2, Nat.sub_zero, List.drop_zero]
/-- The first loop: what k sectors had. -/
structure First (k : Nat) (L1 L2 : List ByteArray) (f : Cache) : Prop where
  l1 : L1.length = 6
  l2 : L2.length = 6
  same : ∀ j, j < k → ∃ s, L1[j]? = some s ∧ L2[j]? = some s ∧ f (j : Int) = some s ∧ s.size = 64
theorem First.step {k : Nat} {L1 L2 : List ByteArray} {f : Cache} (h : First k L1 L2 f) (hk : k < 6) (s : ByteArray) (hs : s.size = 64) : First (k + 1) (L1.set k s) (L2.set k s) (cput f (k : Int) s) := by
  refine ⟨by rw [List.length_set]; exact h.l1, by rw [List.length_set]; exact h.l2, fun j hj => ?_⟩
  rw [List.getElem?_set, List.getElem?_set]
  unfold cput
  by_cases e : k = j
  · subst e
    rw [if_pos rfl, if_pos (by rw [h.l1]; exact hk), if_pos rfl, if_pos (by rw [h.l2]; exact hk), if_pos rfl]
    exact ⟨s, rfl, rfl, rfl, hs⟩
  · rw [if_neg e, if_neg e, if_neg (by omega)]
    exact h.same j (by omega)
theorem First.done {L1 L2 : List ByteArray} {f : Cache} (h : First 6 L1 L2 f) : L1 = L2 ∧ (∀ j (hj : j < L1.length), f (j : Int) = some L1[j]) ∧ ∀ s, s ∈ L1 → s.size = 64 := by
  have key : ∀ j (hj : j < L1.length), L2[j]? = some L1[j] ∧ f (j : Int) = some L1[j] ∧ L1[j].size = 64 := fun j hj => by
    obtain ⟨s, h1, h2, h3, h4⟩ := h.same j (by rw [← h.l1]; exact hj)
    rw [List.getElem?_eq_getElem hj] at h1
    cases h1
    exact ⟨h2, h3, h4⟩
  refine ⟨?_, fun j hj => (key j hj).2.1, fun s hs => ?_⟩
  · apply List.ext_getElem?
    intro j
    by_cases hj : j < L1.length
    · rw [(key j hj).1, List.getElem?_eq_getElem hj]
    · rw [List.getElem?_eq_none (by omega), List.getElem?_eq_none (by rw [h.l2, ← h.l1]; omega)]
  · obtain ⟨j, hj, rfl⟩ := List.getElem_of_mem hs
    exact (key j hj).2.2
set_option maxRecDepth 100000 in
set_option maxHeartbeats 4000000 in
theorem sectorTears_walk (w : World) (A : Option Addr) (c : Nat) (l : List ByteArray) (hc : l.length ≤ c) (hr : Kd.C Kd.string w A l.length l) (A1 : Option Addr) (c1 : Nat) (l1 : List ByteArray) (hc1 : l1.length ≤ c1) (hr1 : Kd.C Kd.string w A1 l1.length l1)
    (A2 : Option Addr) (c2 : Nat) (picks : List Int) (hc2 : picks.length ≤ c2) (hr2 : Kd.C (Kd.int .i64) w A2 picks.length picks) :
    Calls Try.prog 6 #[.slice A l.length c, .slice A1 l1.length c1, .slice A2 picks.length c2] w fun e w' => e = .returned (.bool true) ∧ Below w.heap.size w w' := by
  have HR := Aside0.mk hr
  have HR1 := Aside0.mk hr1
  have HR2 := Aside0.mk hr2
  have hlm := Kd.C_max hr
  have hlm1 := Kd.C_max hr1
  clear hr hr1 hr2 hc hc1 hc2
  go_enter Try.func6, Try.ntmps6
  go_wp2_with fail
  refine (newD_walk w 6 (by decide) (by decide)).mono ?_
  rintro e w1 ⟨hb, b, g, m, hb1, hb2, hb3, rfl, hd⟩
  have HL := Aside0.mk (And.intro hb1 (And.intro hb2 hb3))
  have HB1 := Aside0.mk hb
  have H1 := Aside0.mk hd
  clear hb hb1 hb2 hb3 hd
  go_wp2_with fail
  refine (worksD_walk w1).mono ?_
  rintro e w2 ⟨rfl, hb⟩
  have H2 := Aside0.mk (H1.out.below hb)
  have HB2 : Aside0 (Below w.heap.size w w2) := ⟨HB1.out.trans (hb.mono HB1.out.size)⟩
  clear hb H1 HB1
  go_wp2
  have HT0 : Aside0 (TextsAt ((w2.alloc (Obj.cells #[Value.string { data := #[] }, Value.string { data := #[] }, Value.string { data := #[] }, Value.string { data := #[] }, Value.string { data := #[] }, Value.string { data := #[] }] 69)).alloc (Obj.cells #[Value.string { data := #[] }, Value.string { data := #[] }, Value.string { data := #[] }, Value.string { data := #[] }, Value.string { data := #[] }, Value.string { data := #[] }] 69)) w2.heap.size 69 (List.replicate 6 (⟨#[]⟩ : ByteArray))) := ⟨blk_alloc (blk_new _ _) _⟩
  have HU0 : Aside0 (TextsAt ((w2.alloc (Obj.cells #[Value.string { data := #[] }, Value.string { data := #[] }, Value.string { data := #[] }, Value.string { data := #[] }, Value.string { data := #[] }, Value.string { data := #[] }] 69)).alloc (Obj.cells #[Value.string { data := #[] }, Value.string { data := #[] }, Value.string { data := #[] }, Value.string { data := #[] }, Value.string { data := #[] }, Value.string { data := #[] }] 69)) (w2.heap.size + 1) 69 (List.replicate 6 (⟨#[]⟩ : ByteArray))) := ⟨by unfold TextsAt; refine blk_newI ?_; simp⟩
  have hb3 := below_alloc (below_alloc (Below.refl w2.heap.size w2) (Obj.cells #[Value.string { data := #[] }, Value.string { data := #[] }, Value.string { data := #[] }, Value.string { data := #[] }, Value.string { data := #[] }, Value.string { data := #[] }] 69)) (Obj.cells #[Value.string { data := #[] }, Value.string { data := #[] }, Value.string { data := #[] }, Value.string { data := #[] }, Value.string { data := #[] }, Value.string { data := #[] }] 69)
  have H3 := Aside0.mk (H2.out.below hb3)
  have HB3 := Aside0.mk (HB2.out.trans (hb3.mono HB2.out.size))
  obtain ⟨u, hu⟩ : ∃ u, u = w2.heap.size + 1 := ⟨_, rfl⟩
  rw [← hu] at HU0 ⊢
  have HA : Aside0 (w.heap.size ≤ w2.heap.size ∧ w2.heap.size ≠ b ∧ w2.heap.size ≠ g ∧ w2.heap.size ≠ m ∧ w.heap.size ≤ u ∧ u ≠ b ∧ u ≠ g ∧ u ≠ m ∧ w2.heap.size ≠ u) := ⟨by have := H2.out.lt; have := HB2.out.size; omega⟩
  clear hb3 H2 HB2 hu
  generalize w2.heap.size = a at *
  generalize (w2.alloc (Obj.cells #[Value.string { data := #[] }, Value.string { data := #[] }, Value.string { data := #[] }, Value.string { data := #[] }, Value.string { data := #[] }, Value.string { data := #[] }] 69)).alloc (Obj.cells #[Value.string { data := #[] }, Value.string { data := #[] }, Value.string { data := #[] }, Value.string { data := #[] }, Value.string { data := #[] }, Value.string { data := #[] }] 69) = w3 at *
  clear w2
  go_loopg [36] 7 (fun kq v36 wr => ∃ (k sz : Nat) (L1 L2 : List ByteArray) (f : Cache), v36 = .int .i64 k ∧ k ≤ 6 ∧ k + kq = 7 ∧ Aside0 (First k L1 L2 f) ∧ Aside0 (TextsAt wr a 69 L1) ∧ Aside0 (TextsAt wr u 69 L2) ∧ Aside0 (DevAt wr b g m k sz (List.replicate 6 (zeros 64)) f 0 false) ∧ Aside0 (Below w.heap.size w wr))
  case atStart => exact ⟨0, 0, _, _, _, rfl, by omega, by omega, ⟨⟨by simp, by simp, fun j hj => by omega⟩⟩, HT0, HU0, H3, HB3⟩
  case round =>
    clear HT0 HU0 H3 HB3
    obtain ⟨k, sz, L1, L2, f, rfl, hk, hkq, HF, HT, HU, H, HB⟩ := hrel
    by_cases hlt : k < 6
    · go_upto_if 42 with (fail)
      go_cut [12] (fun v12 wc => ∃ s : ByteArray, v12 = .string s ∧ wc = wr)
      case first =>
        by_cases hkl : k < l.length
        · obtain ⟨ad, rfl, qs⟩ := Kd.at_string (Kd.C_below HR.out HB.out) (k : Int) (by omega) (by omega)
          rw [Int.toNat_natCast] at qs
          generalize rdOf ByteArray.empty l (k : Int) = s at *
          go_wp2
          go_meet
          case rel => exact ⟨s, rfl, rfl⟩
        · go_wp2
          go_meet
          case rel => exact ⟨_, rfl, rfl⟩
      case rest =>
        obtain ⟨s, rfl, rfl⟩ := hcut
        go_wp2_with fail
        refine (fit_walk _ s).mono ?_
        rintro e w4 ⟨rfl, hb⟩
        have HT4 := Aside0.mk (HT.out.below hb)
        have HU4 := Aside0.mk (HU.out.below hb)
        have H4 := Aside0.mk (H.out.below hb)
        have HB4 : Aside0 (Below w.heap.size w w4) := ⟨HB.out.trans (hb.mono HB.out.size)⟩
        clear hb HT HU H HB
        have q1 := HT4.out.cell k (by rw [HF.out.l1]; exact hlt)
        have fz1 := blk_frozen HT4.out k
        have q2 := HU4.out.cell k (by rw [HF.out.l2]; exact hlt)
        have fz2 := blk_frozen HU4.out k
        generalize L1[k]'(by rw [HF.out.l1]; exact hlt) = old1 at *
        generalize L2[k]'(by rw [HF.out.l2]; exact hlt) = old2 at *
        have HFS : Aside0 ((fitV s).size = 64) := ⟨fit_size s⟩
        generalize fitV s = fs at *
        have hg := set_grown w4 a k (.string fs)
        have hg2 := set_grown (w4.setCell ⟨a, k, none⟩ (.string fs)) u k (.string fs)
        have HT5 := Aside0.mk ((HT4.out.set k fs).kept hg2 HA.out.2.2.2.2.2.2.2.2)
        have HU5 := Aside0.mk ((HU4.out.kept hg HA.out.2.2.2.2.2.2.2.2.symm).set k fs)
        have H5 : Aside0 (DevAt ((w4.setCell ⟨a, k, none⟩ (.string fs)).setCell ⟨u, k, none⟩ (.string fs)) b g m k sz (List.replicate 6 (zeros 64)) f 0 false) := ⟨(H4.out.kept hg (some_ne HA.out.2.1.symm) (some_ne HA.out.2.2.1.symm) (some_ne HA.out.2.2.2.1.symm)).kept hg2 (some_ne HA.out.2.2.2.2.2.1.symm) (some_ne HA.out.2.2.2.2.2.2.1.symm) (some_ne HA.out.2.2.2.2.2.2.2.1.symm)⟩
        have HB5 : Aside0 (Below w.heap.size w ((w4.setCell ⟨a, k, none⟩ (.string fs)).setCell ⟨u, k, none⟩ (.string fs))) := ⟨(HB4.out.grown hg HB4.out.size (fun j hj => by cases hj; exact HA.out.1)).grown hg2 (HB4.out.grown hg HB4.out.size (fun j hj => by cases hj; exact HA.out.1)).size (fun j hj => by cases hj; exact HA.out.2.2.2.2.1)⟩
        have hw := writeD_walk H5.out (k : Int) fs (by unfold maxLen; omega)
        have hdw : devWrong (List.replicate 6 (zeros 64)).length false (k : Int) = 0 := by unfold devWrong; rw [if_neg (by decide), if_neg (by simp; omega)]
        have hwv : writeD (List.replicate 6 (zeros 64)).length 0 false (k : Int) fs = 0 := by unfold writeD; rw [if_pos hdw, if_pos HFS.out]; rfl
        have hwb : writeB (List.replicate 6 (zeros 64)).length false (k : Int) fs = true := by unfold writeB; rw [hdw, HFS.out]; rfl
        rw [hwv, hwb, show burned 0 false = (0, false) from rfl, if_pos rfl, if_pos rfl, if_pos rfl, if_pos rfl] at hw
        have HW := Aside0.mk hw
        have hne : u ≠ a := HA.out.2.2.2.2.2.2.2.2.symm
        have q3 : (w4.setCell ⟨a, k, none⟩ (.string fs)).cell? ⟨u, k, none⟩ = some (.string old2) := Mk.cell_but hg (by exact hne) q2
        have fz3 : (w4.setCell ⟨a, k, none⟩ (.string fs)).frozen? ⟨u, k, none⟩ = false := blk_frozen (HU4.out.kept hg hne) k
        have q4 : ((w4.setCell ⟨a, k, none⟩ (.string fs)).setCell ⟨u, k, none⟩ (.string fs)).cell? ⟨a, k, none⟩ = some (.string fs) := by
          have := HT5.out.cell k (by rw [List.length_set, HF.out.l1]; exact hlt)
          rw [List.getElem_set_self] at this
          exact this
        have HNE := Aside0.mk hne
        clear hg hg2 hw hdw hwv hwb hne
        go_wp2_with fail
        refine HW.out.mono ?_
        rintro e w6 ⟨rfl, hc, hd⟩
        have H6 := Aside0.mk hd
        have HT6 := Aside0.mk (HT5.out.chg hc HA.out.2.1 HA.out.2.2.1 HA.out.2.2.2.1)
        have HU6 := Aside0.mk (HU5.out.chg hc HA.out.2.2.2.2.2.1 HA.out.2.2.2.2.2.2.1 HA.out.2.2.2.2.2.2.2.1)
        have HB6 : Aside0 (Below w.heap.size w w6) := ⟨hc.below HB5.out HB5.out.size HL.out.1 HL.out.2.1 HL.out.2.2⟩
        have HF6 := Aside0.mk (HF.out.step hlt fs HFS.out)
        clear hc hd HW H5 HB5 HT5 HU5 H4 HT4 HU4 HB4
        go_wp2
        go_roundg (gk - 1)
        case measure => omega
        case rel => exact ⟨k + 1, _, _, _, _, by go_num, by omega, by omega, HF6, HT6, HU6, H6, HB6⟩
    · obtain rfl : k = 6 := by omega
      obtain ⟨rfl, hall, hsz⟩ := HF.out.done
      have HS := Aside0.mk (And.intro HF.out.l1 (And.intro hall hsz))
      have hfl := flushed_all HF.out.l1 hall
      have HFL := Aside0.mk hfl
      clear hfl hall hsz HF
      go_wp2_with fail
      refine (flush_good H.out rfl).mono ?_
      rintro e w4 ⟨rfl, hc, hd⟩
      rw [HFL.out] at hd
      have H4 : Aside0 (DevAt w4 b g m 0 0 (bytesL L1) (fun _ => none) 0 false) := ⟨hd⟩
      have HT4 := Aside0.mk (HT.out.chg hc HA.out.2.1 HA.out.2.2.1 HA.out.2.2.2.1)
      have HU4 := Aside0.mk (HU.out.chg hc HA.out.2.2.2.2.2.1 HA.out.2.2.2.2.2.2.1 HA.out.2.2.2.2.2.2.2.1)
      have HB4 : Aside0 (Below w.heap.size w w4) := ⟨hc.below HB.out HB.out.size HL.out.1 HL.out.2.1 HL.out.2.2⟩
      have HBL : Aside0 ((bytesL L1).length = 6) := ⟨by unfold bytesL; rw [List.length_map]; exact HS.out.1⟩
      clear hc hd H HT HU HB HFL
      go_wp2
      go_loopg [13] (l1.length + 1) (fun kq v13 wr => ∃ (k sz : Nat) (L2 : List ByteArray) (f : Cache), v13 = .int .i64 k ∧ k ≤ 30 ∧ k ≤ l1.length ∧ k + kq = l1.length + 1 ∧ Aside0 (L2.length = 6 ∧ (∀ s, s ∈ L2 → s.size = 64) ∧ Both L1 L2 f) ∧ Aside0 (TextsAt wr a 69 L1) ∧ Aside0 (TextsAt wr u 69 L2) ∧ Aside0 (DevAt wr b g m k sz (bytesL L1) f 0 false) ∧ Aside0 (Below w.heap.size w wr))
      case atStart => exact ⟨0, 0, L1, _, rfl, by omega, by omega, by omega, ⟨HS.out.1, HS.out.2.2, ⟨fun j h1 h2 => .inr ⟨rfl, rfl⟩⟩⟩, HT4, HU4, H4, HB4⟩
      case round =>
        clear HT4 HU4 H4 HB4
        obtain ⟨k, sz, L2, f, rfl, hk30, hk, hkq, HF, HT, HU, H, HB⟩ := hrel
        by_cases hlt : k < l1.length ∧ k < 30
        · obtain ⟨hlt, hlt2⟩ := hlt
          obtain ⟨ad, rfl, qs⟩ := Kd.at_string (Kd.C_below HR1.out HB.out) (k : Int) (by omega) (by omega)
          rw [Int.toNat_natCast] at qs
          generalize rdOf ByteArray.empty l1 (k : Int) = s at *
          obtain ⟨p, hpe⟩ : ∃ p : Nat, p = k % 5 := ⟨_, rfl⟩
          have hp : (k : Int).tmod 5 = (p : Int) := by rw [Int.tmod_eq_emod_of_nonneg (by omega)]; omega
          have hp6 : p < 6 := by omega
          clear hpe
          have hpL : p < L2.length := by rw [HF.out.1]; exact hp6
          go_wp2_with fail
          refine (fit_walk _ s).mono ?_
          rintro e w5 ⟨rfl, hb⟩
          have HT5 := Aside0.mk (HT.out.below hb)
          have HU5 := Aside0.mk (HU.out.below hb)
          have H5 := Aside0.mk (H.out.below hb)
          have HB5 : Aside0 (Below w.heap.size w w5) := ⟨HB.out.trans (hb.mono HB.out.size)⟩
          clear hb qs HT HU H HB
          have q1 := HU5.out.cell p hpL
          have fz := blk_frozen HU5.out p
          generalize L2[p] = old at *
          have HFS : Aside0 ((fitV s).size = 64) := ⟨fit_size s⟩
          generalize fitV s = fs at *
          have hg := set_grown w5 u p (.string fs)
          have HU6 := Aside0.mk (HU5.out.set p fs)
          have HT6 := Aside0.mk (HT5.out.kept hg HA.out.2.2.2.2.2.2.2.2)
          have H6 : Aside0 (DevAt (w5.setCell ⟨u, p, none⟩ (.string fs)) b g m k sz (bytesL L1) f 0 false) := ⟨H5.out.kept hg (some_ne HA.out.2.2.2.2.2.1.symm) (some_ne HA.out.2.2.2.2.2.2.1.symm) (some_ne HA.out.2.2.2.2.2.2.2.1.symm)⟩
          have HB6 : Aside0 (Below w.heap.size w (w5.setCell ⟨u, p, none⟩ (.string fs))) := ⟨HB5.out.grown hg HB5.out.size (fun j hj => by cases hj; exact HA.out.2.2.2.2.1)⟩
          have hw := writeD_walk H6.out (p : Int) fs (by unfold maxLen; omega)
          have hdw : devWrong (bytesL L1).length false (p : Int) = 0 := by unfold devWrong; rw [if_neg (by decide), if_neg (by rw [HBL.out]; omega)]
          have hwv : writeD (bytesL L1).length 0 false (p : Int) fs = 0 := by unfold writeD; rw [if_pos hdw, if_pos HFS.out]; rfl
          have hwb : writeB (bytesL L1).length false (p : Int) fs = true := by unfold writeB; rw [hdw, HFS.out]; rfl
          rw [hwv, hwb, show burned 0 false = (0, false) from rfl, if_pos rfl, if_pos rfl, if_pos rfl, if_pos rfl] at hw
          have HW := Aside0.mk hw
          have q4 : (w5.setCell ⟨u, p, none⟩ (.string fs)).cell? ⟨u, p, none⟩ = some (.string fs) := by
            have := HU6.out.cell p (by rw [List.length_set]; exact hpL)
            rw [List.getElem_set_self] at this
            exact this
          have HDW := Aside0.mk hdw
          clear hg hw hdw hwv hwb
          go_wp2_with fail
          refine HW.out.mono ?_
          rintro e w7 ⟨rfl, hc, hd⟩
          have H7 := Aside0.mk hd
          have HT7 := Aside0.mk (HT6.out.chg hc HA.out.2.1 HA.out.2.2.1 HA.out.2.2.2.1)
          have HU7 := Aside0.mk (HU6.out.chg hc HA.out.2.2.2.2.2.1 HA.out.2.2.2.2.2.2.1 HA.out.2.2.2.2.2.2.2.1)
          have HB7 : Aside0 (Below w.heap.size w w7) := ⟨hc.below HB6.out HB6.out.size HL.out.1 HL.out.2.1 HL.out.2.2⟩
          have HF7 : Aside0 ((L2.set p fs).length = 6 ∧ (∀ s, s ∈ L2.set p fs → s.size = 64) ∧ Both L1 (L2.set p fs) (cput f (p : Int) fs)) := ⟨by rw [List.length_set]; exact HF.out.1, fun s hs => by
            rcases List.mem_or_eq_of_mem_set hs with hs | rfl
            · exact HF.out.2.1 s hs
            · exact HFS.out, HF.out.2.2.put p fs⟩
          clear hc hd HW q1 fz q4 H6 HB6 HT6 HU6 H5 HT5 HU5 HB5
          have hr := readD_walk H7.out (p : Int)
          have hrv : readD (bytesL L1) (cput f (p : Int) fs) false (p : Int) = (fs, 0) := by unfold readD; rw [if_pos HDW.out, show cput f (p : Int) fs (p : Int) = some fs from if_pos rfl]
          rw [hrv] at hr
          have HRD := Aside0.mk hr
          clear hr hrv
          go_wp2_with fail
          refine HRD.out.mono ?_
          rintro e w8 ⟨rfl, hb⟩
          have HT8 := Aside0.mk (HT7.out.below hb)
          have HU8 := Aside0.mk (HU7.out.below hb)
          have H8 := Aside0.mk (H7.out.below hb)
          have HB8 : Aside0 (Below w.heap.size w w8) := ⟨HB7.out.trans (hb.mono HB7.out.size)⟩
          clear hb HT7 HU7 H7 HB7 HRD
          have q5 : w8.cell? ⟨u, p, none⟩ = some (.string fs) := by
            have := HU8.out.cell p (by rw [List.length_set]; exact hpL)
            rw [List.getElem_set_self] at this
            exact this
          go_wp2
          go_roundg (gk - 1)
          case measure => omega
          case rel => exact ⟨k + 1, _, L2.set p fs, _, by go_num, by omega, by omega, by omega, HF7, HT8, HU8, H8, HB8⟩
        · have hend : k = l1.length ∨ (k < l1.length ∧ k = 30) := by omega
          rcases hend with rfl | ⟨hend, rfl⟩
          · go_wp2_with fail
            refine (crash_walk H.out (by omega) A2 c2 picks (fun w' hc => Kd.C_below HR2.out (hc.below HB.out HB.out.size HL.out.1 HL.out.2.1 HL.out.2.2))).mono ?_
            rintro e w8 ⟨rfl, hc, ks, hks, hkl, hd⟩
            have HTN : Aside0 (∀ j : Nat, j < 6 → ∃ o1 o2 r, L1[j]? = some o1 ∧ L2[j]? = some o2 ∧ o1.size = 64 ∧ o2.size = 64 ∧ (torn (bytesL L1) f ks picks ks.length)[j]? = some r ∧ Tear o2.data.toList o1.data.toList r) := ⟨fun j h => by
              have h1 : j < L1.length := by rw [HS.out.1]; exact h
              have h2 : j < L2.length := by rw [HF.out.1]; exact h
              obtain ⟨r, hr, ht⟩ := torn_both HF.out.2.2 (picks := picks) hks (by rw [HS.out.1, HF.out.1]) (fun i s hs => by have := H.out.ok.cached i s hs; rw [HBL.out] at this; rw [HS.out.1]; exact ⟨this.1, this.2.1⟩) j h1 h2
              exact ⟨L1[j], L2[j], r, List.getElem?_eq_getElem h1, List.getElem?_eq_getElem h2, HS.out.2.2 _ (List.getElem_mem h1), HF.out.2.1 _ (List.getElem_mem h2), hr, ht⟩⟩
            have HTL : Aside0 ((torn (bytesL L1) f ks picks ks.length).length = 6) := ⟨by rw [torn_len]; exact HBL.out⟩
            have H8 := Aside0.mk hd
            have HT8 := Aside0.mk (HT.out.chg hc HA.out.2.1 HA.out.2.2.1 HA.out.2.2.2.1)
            have HU8 := Aside0.mk (HU.out.chg hc HA.out.2.2.2.2.2.1 HA.out.2.2.2.2.2.2.1 HA.out.2.2.2.2.2.2.2.1)
            have HB8 : Aside0 (Below w.heap.size w w8) := ⟨hc.below HB.out HB.out.size HL.out.1 HL.out.2.1 HL.out.2.2⟩
            clear hc hks hkl hd HT HU H HB HF HS HBL
            generalize torn (bytesL L1) f ks picks ks.length = T at *
            go_wp2
            go_loopg [111] 7 (fun kq v111 wr => ∃ j : Nat, v111 = .int .i64 j ∧ j ≤ 6 ∧ j + kq = 7 ∧ Aside0 (TextsAt wr a 69 L1) ∧ Aside0 (TextsAt wr u 69 L2) ∧ Aside0 (DevAt wr b g m 0 0 T (fun _ => none) 0 false) ∧ Aside0 (Below w.heap.size w wr))
            case atStart => exact ⟨0, rfl, by omega, by omega, HT8, HU8, H8, HB8⟩
            case round =>
              clear HT8 HU8 H8 HB8
              obtain ⟨j, rfl, hj, hjq, HT, HU, H, HB⟩ := hrel
              by_cases hlt6 : j < 6
              · obtain ⟨o1, o2, r, ho1, ho2, hz1, hz2, hr, nst, hns, hrt⟩ := HTN.out j hlt6
                have hrl : r.length = 64 := H.out.ok.len r (List.mem_of_getElem? hr)
                have hrd := readD_walk H.out (j : Int)
                have hrv : readD T (fun _ => none) false (j : Int) = (⟨r.toArray⟩, 0) := by
                  have hdw : devWrong T.length false (j : Int) = 0 := by unfold devWrong; rw [if_neg (by decide), if_neg (by rw [HTL.out]; omega)]
                  unfold readD
                  rw [if_pos hdw]
                  simp only [Int.toNat_natCast]
                  rw [List.getD_eq_getElem?_getD, hr]
                  rfl
                rw [hrv] at hrd
                have HRD := Aside0.mk hrd
                clear hrd hrv
                have HSZ : Aside0 ((⟨r.toArray⟩ : ByteArray).size = 64) := ⟨by change r.toArray.size = 64; rw [List.size_toArray]; exact hrl⟩
                have q1 := HT.out.at_ ho1
                have q2 := HU.out.at_ ho2
                clear hr
                go_wp2_with fail
                refine HRD.out.mono ?_
                rintro e w9 ⟨rfl, hb⟩
                have H9 := Aside0.mk (H.out.below hb)
                have HT9 := Aside0.mk (HT.out.below hb)
                have HU9 := Aside0.mk (HU.out.below hb)
                have HB9 : Aside0 (Below w.heap.size w w9) := ⟨HB.out.trans (hb.mono HB.out.size)⟩
                clear hb HRD HT HU H HB q1 q2
                have hrs : (⟨r.toArray⟩ : ByteArray).data.toList = r := by simp
                generalize (⟨r.toArray⟩ : ByteArray) = s at *
                have HRS := Aside0.mk (And.intro hrs hrt)
                have HSZ2 := HSZ.out
                clear hrs hrt hrl
                go_wp2
                go_loopg [20, 21] 66 (fun kq v20 v21 wr => ∃ (n : Nat) (okb : Bool), v20 = .bool okb ∧ v21 = .int .i64 n ∧ n ≤ 65 ∧ n + kq = 66 ∧ (nst < n → okb = true) ∧ Aside0 (TextsAt wr a 69 L1) ∧ Aside0 (TextsAt wr u 69 L2) ∧ Aside0 (DevAt wr b g m 0 0 T (fun _ => none) 0 false) ∧ Aside0 (Below w.heap.size w wr))
                case atStart => exact ⟨0, false, rfl, rfl, by omega, by omega, fun h => by omega, HT9, HU9, H9, HB9⟩
                case round =>
                  clear HT9 HU9 H9 HB9
                  obtain ⟨n, okb, rfl, rfl, hn, hnq, hok, HT, HU, H, HB⟩ := hrel
                  by_cases hn64 : n ≤ 64
                  · cases okb with
                    | true =>
                      go_wp2
                      go_quiet (fail)
                      go_wp2
                      go_roundg (gk - 1)
                      case measure => omega
                      case rel => exact ⟨n + 1, true, by go_num, by go_num, by omega, by omega, fun _ => rfl, ⟨HT.out.below (pw_below_drewN (Below.refl _ _) _)⟩, ⟨HU.out.below (pw_below_drewN (Below.refl _ _) _)⟩, ⟨H.out.below (pw_below_drewN (Below.refl _ _) _)⟩, ⟨pw_below_drewN HB.out _⟩⟩
                    | false =>
                      have hn3 : n ≤ nst := Nat.le_of_not_lt (fun h => by cases hok h)
                      have q1 := HT.out.at_ ho1
                      have q2 := HU.out.at_ ho2
                      clear hok
                      have HN3 := Aside0.mk hn3
                      clear hn3
                      go_wp2
                      go_quiet (fail)
                      go_wp2
                      go_roundg (gk - 1)
                      case measure => omega
                      case rel =>
                        refine ⟨n + 1, _, rfl, by go_num, by omega, by omega, ?_, ⟨HT.out.below (pw_below_drewN (Below.refl _ _) _)⟩, ⟨HU.out.below (pw_below_drewN (Below.refl _ _) _)⟩, ⟨H.out.below (pw_below_drewN (Below.refl _ _) _)⟩, ⟨pw_below_drewN HB.out _⟩⟩
                        intro hlt
                        obtain rfl : n = nst := by have := HN3.out; omega
                        rw [tear_eq hz1 hz2 (HRS.out.1.trans HRS.out.2)]
                        exact beq_self_eq_true _
                  · have hokt : okb = true := hok (by omega)
                    subst hokt
                    go_wp2
                    go_roundg (6 - j)
                    case measure => omega
                    case rel => exact ⟨j + 1, by go_num, by omega, by omega, HT, HU, H, HB⟩
              · obtain rfl : j = 6 := by omega
                go_wp2
                go_ret
                exact ⟨rfl, HB.out⟩
          · go_wp2_with fail
            refine (crash_walk H.out (by omega) A2 c2 picks (fun w' hc => Kd.C_below HR2.out (hc.below HB.out HB.out.size HL.out.1 HL.out.2.1 HL.out.2.2))).mono ?_
            rintro e w8 ⟨rfl, hc, ks, hks, hkl, hd⟩
            have HTN : Aside0 (∀ j : Nat, j < 6 → ∃ o1 o2 r, L1[j]? = some o1 ∧ L2[j]? = some o2 ∧ o1.size = 64 ∧ o2.size = 64 ∧ (torn (bytesL L1) f ks picks ks.length)[j]? = some r ∧ Tear o2.data.toList o1.data.toList r) := ⟨fun j h => by
              have h1 : j < L1.length := by rw [HS.out.1]; exact h
              have h2 : j < L2.length := by rw [HF.out.1]; exact h
              obtain ⟨r, hr, ht⟩ := torn_both HF.out.2.2 (picks := picks) hks (by rw [HS.out.1, HF.out.1]) (fun i s hs => by have := H.out.ok.cached i s hs; rw [HBL.out] at this; rw [HS.out.1]; exact ⟨this.1, this.2.1⟩) j h1 h2
              exact ⟨L1[j], L2[j], r, List.getElem?_eq_getElem h1, List.getElem?_eq_getElem h2, HS.out.2.2 _ (List.getElem_mem h1), HF.out.2.1 _ (List.getElem_mem h2), hr, ht⟩⟩
            have HTL : Aside0 ((torn (bytesL L1) f ks picks ks.length).length = 6) := ⟨by rw [torn_len]; exact HBL.out⟩
            have H8 := Aside0.mk hd
            have HT8 := Aside0.mk (HT.out.chg hc HA.out.2.1 HA.out.2.2.1 HA.out.2.2.2.1)
            have HU8 := Aside0.mk (HU.out.chg hc HA.out.2.2.2.2.2.1 HA.out.2.2.2.2.2.2.1 HA.out.2.2.2.2.2.2.2.1)
            have HB8 : Aside0 (Below w.heap.size w w8) := ⟨hc.below HB.out HB.out.size HL.out.1 HL.out.2.1 HL.out.2.2⟩
            clear hc hks hkl hd HT HU H HB HF HS HBL
            generalize torn (bytesL L1) f ks picks ks.length = T at *
            go_wp2
            go_loopg [111] 7 (fun kq v111 wr => ∃ j : Nat, v111 = .int .i64 j ∧ j ≤ 6 ∧ j + kq = 7 ∧ Aside0 (TextsAt wr a 69 L1) ∧ Aside0 (TextsAt wr u 69 L2) ∧ Aside0 (DevAt wr b g m 0 0 T (fun _ => none) 0 false) ∧ Aside0 (Below w.heap.size w wr))
            case atStart => exact ⟨0, rfl, by omega, by omega, HT8, HU8, H8, HB8⟩
            case round =>
              clear HT8 HU8 H8 HB8
              obtain ⟨j, rfl, hj, hjq, HT, HU, H, HB⟩ := hrel
              by_cases hlt6 : j < 6
              · obtain ⟨o1, o2, r, ho1, ho2, hz1, hz2, hr, nst, hns, hrt⟩ := HTN.out j hlt6
                have hrl : r.length = 64 := H.out.ok.len r (List.mem_of_getElem? hr)
                have hrd := readD_walk H.out (j : Int)
                have hrv : readD T (fun _ => none) false (j : Int) = (⟨r.toArray⟩, 0) := by
                  have hdw : devWrong T.length false (j : Int) = 0 := by unfold devWrong; rw [if_neg (by decide), if_neg (by rw [HTL.out]; omega)]
                  unfold readD
                  rw [if_pos hdw]
                  simp only [Int.toNat_natCast]
                  rw [List.getD_eq_getElem?_getD, hr]
                  rfl
                rw [hrv] at hrd
                have HRD := Aside0.mk hrd
                clear hrd hrv
                have HSZ : Aside0 ((⟨r.toArray⟩ : ByteArray).size = 64) := ⟨by change r.toArray.size = 64; rw [List.size_toArray]; exact hrl⟩
                have q1 := HT.out.at_ ho1
                have q2 := HU.out.at_ ho2
                clear hr
                go_wp2_with fail
                refine HRD.out.mono ?_
                rintro e w9 ⟨rfl, hb⟩
                have H9 := Aside0.mk (H.out.below hb)
                have HT9 := Aside0.mk (HT.out.below hb)
                have HU9 := Aside0.mk (HU.out.below hb)
                have HB9 : Aside0 (Below w.heap.size w w9) := ⟨HB.out.trans (hb.mono HB.out.size)⟩
                clear hb HRD HT HU H HB q1 q2
                have hrs : (⟨r.toArray⟩ : ByteArray).data.toList = r := by simp
                generalize (⟨r.toArray⟩ : ByteArray) = s at *
                have HRS := Aside0.mk (And.intro hrs hrt)
                have HSZ2 := HSZ.out
                clear hrs hrt hrl
                go_wp2
                go_loopg [20, 21] 66 (fun kq v20 v21 wr => ∃ (n : Nat) (okb : Bool), v20 = .bool okb ∧ v21 = .int .i64 n ∧ n ≤ 65 ∧ n + kq = 66 ∧ (nst < n → okb = true) ∧ Aside0 (TextsAt wr a 69 L1) ∧ Aside0 (TextsAt wr u 69 L2) ∧ Aside0 (DevAt wr b g m 0 0 T (fun _ => none) 0 false) ∧ Aside0 (Below w.heap.size w wr))
                case atStart => exact ⟨0, false, rfl, rfl, by omega, by omega, fun h => by omega, HT9, HU9, H9, HB9⟩
                case round =>
                  clear HT9 HU9 H9 HB9
                  obtain ⟨n, okb, rfl, rfl, hn, hnq, hok, HT, HU, H, HB⟩ := hrel
                  by_cases hn64 : n ≤ 64
                  · cases okb with
                    | true =>
                      go_wp2
                      go_quiet (fail)
                      go_wp2
                      go_roundg (gk - 1)
                      case measure => omega
                      case rel => exact ⟨n + 1, true, by go_num, by go_num, by omega, by omega, fun _ => rfl, ⟨HT.out.below (pw_below_drewN (Below.refl _ _) _)⟩, ⟨HU.out.below (pw_below_drewN (Below.refl _ _) _)⟩, ⟨H.out.below (pw_below_drewN (Below.refl _ _) _)⟩, ⟨pw_below_drewN HB.out _⟩⟩
                    | false =>
                      have hn3 : n ≤ nst := Nat.le_of_not_lt (fun h => by cases hok h)
                      have q1 := HT.out.at_ ho1
                      have q2 := HU.out.at_ ho2
                      clear hok
                      have HN3 := Aside0.mk hn3
                      clear hn3
                      go_wp2
                      go_quiet (fail)
                      go_wp2
                      go_roundg (gk - 1)
                      case measure => omega
                      case rel =>
                        refine ⟨n + 1, _, rfl, by go_num, by omega, by omega, ?_, ⟨HT.out.below (pw_below_drewN (Below.refl _ _) _)⟩, ⟨HU.out.below (pw_below_drewN (Below.refl _ _) _)⟩, ⟨H.out.below (pw_below_drewN (Below.refl _ _) _)⟩, ⟨pw_below_drewN HB.out _⟩⟩
                        intro hlt
                        obtain rfl : n = nst := by have := HN3.out; omega
                        rw [tear_eq hz1 hz2 (HRS.out.1.trans HRS.out.2)]
                        exact beq_self_eq_true _
                  · have hokt : okb = true := hok (by omega)
                    subst hokt
                    go_wp2
                    go_roundg (6 - j)
                    case measure => omega
                    case rel => exact ⟨j + 1, by go_num, by omega, by omega, HT, HU, H, HB⟩
              · obtain rfl : j = 6 := by omega
                go_wp2
                go_ret
                exact ⟨rfl, HB.out⟩
end Go.Proofs.Yteibcojjbcihbaa.Sec
