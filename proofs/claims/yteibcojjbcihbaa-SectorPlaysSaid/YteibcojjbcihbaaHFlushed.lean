/- SectorFlushed: the law's walk. -/
import Derived.Test.YteibcojjbcihbaaHFuses
import Derived.Test.YteibcojjbcihbaaHOpenD
namespace Go.Proofs.Yteibcojjbcihbaa.Sec
open Go.RowKit Go.Proofs.YteibcojjbcihbaaW.PrintWords Go.Proofs.YteibcojjbcihbaaW.PrintLast Go.Proofs.YteibcojjbcihbaaW.PrintMore Go.Maps Go.Proofs.Yteibcojjbcihbaa.Mk
open Go.Proofs.Yteibcojjbcihbaa.Txn (unguard blk_newI okStr)
set_option linter.unusedVariables false
set_option linter.unusedSimpArgs false
/-- An array of texts. -/
def TextsAt (w : World) (a : Nat) (t : TypeId) (L : List ByteArray) : Prop := w.heap[a]? = some (.cells (L.map Value.string).toArray t (0, 0))
theorem TextsAt.cell {w : World} {a : Nat} {t : TypeId} {L : List ByteArray} (h : TextsAt w a t L) (i : Nat) (hi : i < L.length) : w.cell? ⟨a, i, none⟩ = some (.string L[i]) := by
  rw [blk_cell h i]
  simp [List.getElem?_eq_getElem hi]
theorem TextsAt.set {w : World} {a : Nat} {t : TypeId} {L : List ByteArray} (h : TextsAt w a t L) (i : Nat) (s : ByteArray) : TextsAt (w.setCell ⟨a, i, none⟩ (.string s)) a t (L.set i s) := by
  unfold TextsAt
  rw [blk_set h i]
  congr 2
  simp [List.map_set]
theorem TextsAt.below {w w' : World} {a : Nat} {t : TypeId} {L : List ByteArray} (h : TextsAt w a t L) (hb : Below w.heap.size w w') : TextsAt w' a t L := blk_below h hb
theorem TextsAt.chg {w w' : World} {a b g m : Nat} {t : TypeId} {L : List ByteArray} (h : TextsAt w a t L) (hc : Chg w w' b g m) (h1 : a ≠ b) (h2 : a ≠ g) (h3 : a ≠ m) : TextsAt w' a t L := by
  have hlt : a < w.heap.size := (List.getElem?_eq_some_iff.1 (by simpa [TextsAt] using h)).1
  unfold TextsAt
  rw [hc.block a hlt h1 h2 h3]
  exact h
theorem eight {L : List ByteArray} (h : L.length = 8) : ∃ a b c d e f g i, L = [a, b, c, d, e, f, g, i] := by
  match L, h with
  | [a, b, c, d, e, f, g, i], _ => exact ⟨a, b, c, d, e, f, g, i, rfl⟩
def Z64 : ByteArray := fitV ⟨#[]⟩
theorem Z64_list : Z64.data.toList = zeros 64 := by decide
/-- What was written last, or nothing yet. -/
def LastIs (L : List ByteArray) (f : Cache) : Prop := ∀ j (h : j < L.length), f (j : Int) = some L[j] ∨ (f (j : Int) = none ∧ L[j] = Z64)
theorem LastIs.put {L : List ByteArray} {f : Cache} (h : LastIs L f) (p : Nat) (s : ByteArray) : LastIs (L.set p s) (cput f (p : Int) s) := by
  intro j hj
  rw [List.length_set] at hj
  unfold cput
  rw [List.getElem_set]
  by_cases e : p = j
  · subst e
    rw [if_pos rfl, if_pos rfl]
    exact .inl rfl
  · rw [if_neg (by omega), if_neg e]
    exact h j hj
theorem toArray_data (s : ByteArray) : (⟨s.data.toList.toArray⟩ : ByteArray) = s := by cases s; simp
theorem flushed_read {L : List ByteArray} {f : Cache} {n : Nat} (h : LastIs L f) (hL : L.length = n) (j : Nat) (hj : j < n) (down : Bool) (hd : down = false) : readD (flushed (List.replicate n (zeros 64)) f) (fun _ => none) down (j : Int) = (L.getD j ⟨#[]⟩, 0) := by
  subst hd
  have hlen : (flushed (List.replicate n (zeros 64)) f).length = n := by rw [flushed_len]; simp
  have hdw : devWrong (flushed (List.replicate n (zeros 64)) f).length false (j : Int) = 0 := by unfold devWrong; rw [hlen, if_neg (by decide), if_neg (by omega)]
  have hjL : j < L.length := by omega
  unfold readD
  rw [if_pos hdw]
  have hg : L.getD j ⟨#[]⟩ = L[j] := by rw [List.getD_eq_getElem?_getD, List.getElem?_eq_getElem hjL, Option.getD_some]
  have hs : (flushed (List.replicate n (zeros 64)) f).getD (j : Int).toNat [] = L[j].data.toList := by
    rw [Int.toNat_natCast, List.getD_eq_getElem?_getD]
    unfold flushed
    rw [List.getElem?_mapIdx, List.getElem?_replicate, if_pos hj]
    rcases h j hjL with e | ⟨e, e2⟩
    · simp [e]
    · simp [e, e2, Z64_list]
  rw [hg, hs, toArray_data]
set_option maxRecDepth 100000 in
set_option maxHeartbeats 4000000 in
theorem sectorFlushed_walk (w : World) (A : Option Addr) (c : Nat) (l : List ByteArray) (hc : l.length ≤ c) (hr : Kd.C Kd.string w A l.length l) (A2 : Option Addr) (c2 : Nat) (picks : List Int) (hc2 : picks.length ≤ c2) (hr2 : Kd.C (Kd.int .i64) w A2 picks.length picks) :
    Calls Try.prog 5 #[.slice A l.length c, .slice A2 picks.length c2] w fun e w' => e = .returned (.bool true) ∧ Below w.heap.size w w' := by
  have HR := Aside0.mk hr
  have HR2 := Aside0.mk hr2
  have hlm := Kd.C_max hr
  clear hr hr2 hc hc2
  go_enter Try.func5, Try.ntmps5
  go_wp2_with fail
  refine (newD_walk w 8 (by decide) (by decide)).mono ?_
  rintro e w1 ⟨hb, b, g, m, hb1, hb2, hb3, rfl, hd⟩
  have HL := Aside0.mk (And.intro hb1 (And.intro hb2 hb3))
  have HB1 := Aside0.mk hb
  have H1 := Aside0.mk hd
  clear hb hb1 hb2 hb3 hd
  go_wp2_with fail
  refine (worksD_walk w1).mono ?_
  rintro e w2 ⟨rfl, hb⟩
  have H2 := Aside0.mk (H1.out.below hb)
  have HB2 : Aside0 (Below w.heap.size w w2) := ⟨HB1.out.trans (hb.mono HB1.out.size)⟩
  clear hb H1 HB1
  go_wp2
  have HT0 : Aside0 (TextsAt (w2.alloc (Obj.cells #[Value.string { data := #[] }, Value.string { data := #[] }, Value.string { data := #[] }, Value.string { data := #[] }, Value.string { data := #[] }, Value.string { data := #[] }, Value.string { data := #[] }, Value.string { data := #[] }] 61)) w2.heap.size 61 (List.replicate 8 (⟨#[]⟩ : ByteArray))) := ⟨blk_new _ _⟩
  have hb3 := below_alloc (Below.refl w2.heap.size w2) (Obj.cells #[Value.string { data := #[] }, Value.string { data := #[] }, Value.string { data := #[] }, Value.string { data := #[] }, Value.string { data := #[] }, Value.string { data := #[] }, Value.string { data := #[] }, Value.string { data := #[] }] 61)
  have H3 := Aside0.mk (H2.out.below hb3)
  have HB3 := Aside0.mk (HB2.out.trans (hb3.mono HB2.out.size))
  have HA : Aside0 (w.heap.size ≤ w2.heap.size ∧ w2.heap.size ≠ b ∧ w2.heap.size ≠ g ∧ w2.heap.size ≠ m) := ⟨by have := H2.out.lt; have := HB2.out.size; omega⟩
  clear hb3 H2 HB2
  generalize w2.heap.size = a at *
  generalize w2.alloc (Obj.cells #[Value.string { data := #[] }, Value.string { data := #[] }, Value.string { data := #[] }, Value.string { data := #[] }, Value.string { data := #[] }, Value.string { data := #[] }, Value.string { data := #[] }, Value.string { data := #[] }] 61) = w3 at *
  clear w2
  have HZ : Aside0 (∀ w, Calls Try.prog 26 #[.string ⟨#[]⟩] w fun e w' => e = .returned (.string Z64) ∧ Below w.heap.size w w') := ⟨fun w => fit_walk w ⟨#[]⟩⟩
  go_loopg [28] 9 (fun kq v28 wr => ∃ (k : Nat) (L : List ByteArray), v28 = .int .i64 k ∧ k ≤ 8 ∧ k + kq = 9 ∧ Aside0 (L.length = 8) ∧ Aside0 (∀ j, j < k → L[j]? = some Z64) ∧ Aside0 (TextsAt wr a 61 L) ∧ Aside0 (DevAt wr b g m 0 0 (List.replicate 8 (zeros 64)) (fun _ => none) 0 false) ∧ Aside0 (Below w.heap.size w wr))
  case atStart => exact ⟨0, _, rfl, by omega, by omega, ⟨by simp⟩, ⟨fun j hj => by omega⟩, HT0, H3, HB3⟩
  case round =>
    clear HT0 H3 HB3
    obtain ⟨k, L, rfl, hk, hkq, HLL, HLZ, HT, H, HB⟩ := hrel
    by_cases hlt : k < 8
    · go_wp2_with fail
      refine (HZ.out _).mono ?_
      rintro e w4 ⟨rfl, hb⟩
      have HT4 := Aside0.mk (HT.out.below hb)
      have H4 := Aside0.mk (H.out.below hb)
      have HB4 : Aside0 (Below w.heap.size w w4) := ⟨HB.out.trans (hb.mono HB.out.size)⟩
      clear hb
      have q1 := HT4.out.cell k (by rw [HLL.out]; exact hlt)
      have fz := blk_frozen HT4.out k
      generalize L[k]'(by rw [HLL.out]; exact hlt) = old at *
      go_wp2
      have hg := set_grown w4 a k (.string Z64)
      have HT5 := Aside0.mk (HT4.out.set k Z64)
      have H5 : Aside0 (DevAt (w4.setCell ⟨a, k, none⟩ (.string Z64)) b g m 0 0 (List.replicate 8 (zeros 64)) (fun _ => none) 0 false) := ⟨H4.out.kept hg (some_ne HA.out.2.1.symm) (some_ne HA.out.2.2.1.symm) (some_ne HA.out.2.2.2.symm)⟩
      have HB5 : Aside0 (Below w.heap.size w (w4.setCell ⟨a, k, none⟩ (.string Z64))) := ⟨HB4.out.grown hg HB4.out.size (fun j hj => by cases hj; exact HA.out.1)⟩
      clear hg
      go_roundg (gk - 1)
      case measure => omega
      case rel =>
        refine ⟨k + 1, L.set k Z64, by go_num, by omega, by omega, ⟨by rw [List.length_set]; exact HLL.out⟩, ⟨fun j hj => ?_⟩, HT5, H5, HB5⟩
        rw [List.getElem?_set]
        by_cases e : k = j
        · rw [if_pos e, if_pos (by rw [HLL.out]; omega)]
        · rw [if_neg e]
          exact HLZ.out j (by omega)
    · obtain rfl : k = 8 := by omega
      have HLI : Aside0 (LastIs L (fun _ => none)) := ⟨fun j hj => .inr ⟨rfl, by
        have := HLZ.out j (by rw [← HLL.out]; exact hj)
        rw [List.getElem?_eq_getElem hj] at this
        injection this⟩⟩
      clear HLZ
      go_wp2
      go_loopg [9] (l.length + 1) (fun kq v9 wr => ∃ (k sz : Nat) (L : List ByteArray) (f : Cache), v9 = .int .i64 k ∧ k ≤ 40 ∧ k ≤ l.length ∧ k + kq = l.length + 1 ∧ Aside0 (L.length = 8) ∧ Aside0 (LastIs L f) ∧ Aside0 (TextsAt wr a 61 L) ∧ Aside0 (DevAt wr b g m k sz (List.replicate 8 (zeros 64)) f 0 false) ∧ Aside0 (Below w.heap.size w wr))
      case atStart => exact ⟨0, 0, L, _, rfl, by omega, by omega, by omega, HLL, HLI, HT, H, HB⟩
      case round =>
        clear HLL HLI HT H HB
        obtain ⟨k, sz, L, f, rfl, hk40, hk, hkq, HLL, HLI, HT, H, HB⟩ := hrel
        by_cases hlt : k < l.length ∧ k < 40
        · obtain ⟨hlt, hlt2⟩ := hlt
          obtain ⟨ad, rfl, qs⟩ := Kd.at_string (Kd.C_below HR.out HB.out) (k : Int) (by omega) (by omega)
          rw [Int.toNat_natCast] at qs
          generalize rdOf ByteArray.empty l (k : Int) = s at *
          obtain ⟨p, hpe⟩ : ∃ p : Nat, p = (k * 3) % 8 := ⟨_, rfl⟩
          have hp : ((k : Int) * 3).tmod 8 = (p : Int) := by rw [Int.tmod_eq_emod_of_nonneg (by omega)]; omega
          have hp8 : p < 8 := by omega
          clear hpe
          have hpL : p < L.length := by rw [HLL.out]; exact hp8
          go_wp2_with fail
          refine (fit_walk _ s).mono ?_
          rintro e w4 ⟨rfl, hb⟩
          have HT4 := Aside0.mk (HT.out.below hb)
          have H4 := Aside0.mk (H.out.below hb)
          have HB4 : Aside0 (Below w.heap.size w w4) := ⟨HB.out.trans (hb.mono HB.out.size)⟩
          clear hb qs HT H HB
          have q1 := HT4.out.cell p hpL
          have fz := blk_frozen HT4.out p
          generalize L[p] = old at *
          have HF : Aside0 ((fitV s).size = 64) := ⟨fit_size s⟩
          generalize fitV s = fs at *
          have hg := set_grown w4 a p (.string fs)
          have HT5 := Aside0.mk (HT4.out.set p fs)
          have H5 : Aside0 (DevAt (w4.setCell ⟨a, p, none⟩ (.string fs)) b g m k sz (List.replicate 8 (zeros 64)) f 0 false) := ⟨H4.out.kept hg (some_ne HA.out.2.1.symm) (some_ne HA.out.2.2.1.symm) (some_ne HA.out.2.2.2.symm)⟩
          have HB5 : Aside0 (Below w.heap.size w (w4.setCell ⟨a, p, none⟩ (.string fs))) := ⟨HB4.out.grown hg HB4.out.size (fun j hj => by cases hj; exact HA.out.1)⟩
          have hw := writeD_walk H5.out (p : Int) fs (by unfold maxLen; omega)
          have hdw : devWrong (List.replicate 8 (zeros 64)).length false (p : Int) = 0 := by unfold devWrong; rw [if_neg (by decide), if_neg (by simp; omega)]
          have hwv : writeD (List.replicate 8 (zeros 64)).length 0 false (p : Int) fs = 0 := by unfold writeD; rw [if_pos hdw, if_pos HF.out]; rfl
          have hwb : writeB (List.replicate 8 (zeros 64)).length false (p : Int) fs = true := by unfold writeB; rw [hdw, HF.out]; rfl
          rw [hwv, hwb, show burned 0 false = (0, false) from rfl, if_pos rfl, if_pos rfl, if_pos rfl, if_pos rfl] at hw
          have HW := Aside0.mk hw
          clear hg hw hdw hwv hwb
          go_wp2_with fail
          refine HW.out.mono ?_
          rintro e w6 ⟨rfl, hc, hd⟩
          have H6 := Aside0.mk hd
          have HT6 := Aside0.mk (HT5.out.chg hc HA.out.2.1 HA.out.2.2.1 HA.out.2.2.2)
          have HB6 : Aside0 (Below w.heap.size w w6) := ⟨hc.below HB5.out HB5.out.size HL.out.1 HL.out.2.1 HL.out.2.2⟩
          have HLI6 := Aside0.mk (HLI.out.put p fs)
          clear hc hd HW H5 HB5 HT5 H4 HT4 HB4
          go_wp2
          go_roundg (gk - 1)
          case measure => omega
          case rel => exact ⟨k + 1, _, L.set p fs, _, by go_num, by omega, by omega, by omega, ⟨by rw [List.length_set]; exact HLL.out⟩, HLI6, HT6, H6, HB6⟩
        · have hend : k = l.length ∨ (k < l.length ∧ k = 40) := by omega
          rcases hend with rfl | ⟨hend, rfl⟩
          · go_wp2_with fail
            refine (flush_good H.out rfl).mono ?_
            rintro e w6 ⟨rfl, hc, hd⟩
            have H6 := Aside0.mk hd
            have HT6 := Aside0.mk (HT.out.chg hc HA.out.2.1 HA.out.2.2.1 HA.out.2.2.2)
            have HB6 : Aside0 (Below w.heap.size w w6) := ⟨hc.below HB.out HB.out.size HL.out.1 HL.out.2.1 HL.out.2.2⟩
            have HRD : Aside0 (∀ j : Nat, j < 8 → readD (flushed (List.replicate 8 (zeros 64)) f) (fun _ => none) false (j : Int) = (L.getD j ⟨#[]⟩, 0)) := ⟨fun j hj => flushed_read HLI.out HLL.out j hj false rfl⟩
            clear hc hd H HB HT HLI
            generalize flushed (List.replicate 8 (zeros 64)) f = S at *
            go_wp2_with fail
            refine (dirty_walk H6.out).mono ?_
            rintro e w7 ⟨rfl, hb⟩
            have H7 := Aside0.mk (H6.out.below hb)
            have HT7 := Aside0.mk (HT6.out.below hb)
            have HB7 : Aside0 (Below w.heap.size w w7) := ⟨HB6.out.trans (hb.mono HB6.out.size)⟩
            clear hb H6 HT6 HB6
            go_wp2_with fail
            refine (crash_walk H7.out (by decide) A2 c2 picks (fun w' hc => Kd.C_below HR2.out (hc.below HB7.out HB7.out.size HL.out.1 HL.out.2.1 HL.out.2.2))).mono ?_
            rintro e w8 ⟨rfl, hc, ks, hks, hkl, hd⟩
            rw [hkl] at hd
            have H8 : Aside0 (DevAt w8 b g m 0 0 S (fun _ => none) 0 false) := ⟨hd⟩
            have HT8 := Aside0.mk (HT7.out.chg hc HA.out.2.1 HA.out.2.2.1 HA.out.2.2.2)
            have HB8 : Aside0 (Below w.heap.size w w8) := ⟨hc.below HB7.out HB7.out.size HL.out.1 HL.out.2.1 HL.out.2.2⟩
            clear hc hks hkl hd H7 HT7 HB7
            go_wp2_with fail
            refine (crash_walk H8.out (by decide) A2 c2 picks (fun w' hc => Kd.C_below HR2.out (hc.below HB8.out HB8.out.size HL.out.1 HL.out.2.1 HL.out.2.2))).mono ?_
            rintro e w9 ⟨rfl, hc, ks, hks, hkl, hd⟩
            rw [hkl] at hd
            have H9 : Aside0 (DevAt w9 b g m 0 0 S (fun _ => none) 0 false) := ⟨hd⟩
            have HT9 := Aside0.mk (HT8.out.chg hc HA.out.2.1 HA.out.2.2.1 HA.out.2.2.2)
            have HB9 : Aside0 (Below w.heap.size w w9) := ⟨hc.below HB8.out HB8.out.size HL.out.1 HL.out.2.1 HL.out.2.2⟩
            clear hc hks hkl hd H8 HT8 HB8
            obtain ⟨x0, x1, x2, x3, x4, x5, x6, x7, rfl⟩ := eight HLL.out
            have d0 := HT9.out.cell 0 (by simp)
            have d1 := HT9.out.cell 1 (by simp)
            have d2 := HT9.out.cell 2 (by simp)
            have d3 := HT9.out.cell 3 (by simp)
            have d4 := HT9.out.cell 4 (by simp)
            have d5 := HT9.out.cell 5 (by simp)
            have d6 := HT9.out.cell 6 (by simp)
            have d7 := HT9.out.cell 7 (by simp)
            simp only [List.getElem_cons_zero, List.getElem_cons_succ] at d0 d1 d2 d3 d4 d5 d6 d7
            go_wp2
            clear d0 d1 d2 d3 d4 d5 d6 d7
            go_loopg [80] 9 (fun kq v80 wr => ∃ j : Nat, v80 = .int .i64 j ∧ j ≤ 8 ∧ j + kq = 9 ∧ Aside0 (DevAt wr b g m 0 0 S (fun _ => none) 0 false) ∧ Aside0 (Below w.heap.size w wr))
            case atStart => exact ⟨0, rfl, by omega, by omega, H9, HB9⟩
            case round =>
              clear H9 HB9 HT9
              obtain ⟨j, rfl, hj, hjq, H, HB⟩ := hrel
              match j, hj with
              | 0, _ =>
                have hr := readD_walk H.out ((0 : Nat) : Int)
                rw [HRD.out 0 (by decide)] at hr
                have hr' : Calls Try.prog 31 #[.pointer (some ⟨b, 0, none⟩), .int .i64 0] _ _ := hr
                have HRQ := Aside0.mk hr'
                have hix : ∀ w, (Instr.index 61 (.agg #[.string x0, .string x1, .string x2, .string x3, .string x4, .string x5, .string x6, .string x7]) (.int .i64 0)).run Try.prog w = .ok (.string x0) w := fun w => by kernel_rfl
                clear hr hr'
                go_wp2_with fail
                refine HRQ.out.mono ?_
                rintro e w10 ⟨rfl, hb⟩
                have H10 := Aside0.mk (H.out.below hb)
                have HB10 : Aside0 (Below w.heap.size w w10) := ⟨HB.out.trans (hb.mono HB.out.size)⟩
                clear hb HRQ
                simp only [List.getD_cons_zero, List.getD_cons_succ]
                go_wp2
                go_roundg 8
                case measure => omega
                case rel => exact ⟨1, rfl, by omega, by omega, H10, HB10⟩
              | 1, _ =>
                have hr := readD_walk H.out ((1 : Nat) : Int)
                rw [HRD.out 1 (by decide)] at hr
                have hr' : Calls Try.prog 31 #[.pointer (some ⟨b, 0, none⟩), .int .i64 1] _ _ := hr
                have HRQ := Aside0.mk hr'
                have hix : ∀ w, (Instr.index 61 (.agg #[.string x0, .string x1, .string x2, .string x3, .string x4, .string x5, .string x6, .string x7]) (.int .i64 1)).run Try.prog w = .ok (.string x1) w := fun w => by kernel_rfl
                clear hr hr'
                go_wp2_with fail
                refine HRQ.out.mono ?_
                rintro e w10 ⟨rfl, hb⟩
                have H10 := Aside0.mk (H.out.below hb)
                have HB10 : Aside0 (Below w.heap.size w w10) := ⟨HB.out.trans (hb.mono HB.out.size)⟩
                clear hb HRQ
                simp only [List.getD_cons_zero, List.getD_cons_succ]
                go_wp2
                go_roundg 7
                case measure => omega
                case rel => exact ⟨2, rfl, by omega, by omega, H10, HB10⟩
              | 2, _ =>
                have hr := readD_walk H.out ((2 : Nat) : Int)
                rw [HRD.out 2 (by decide)] at hr
                have hr' : Calls Try.prog 31 #[.pointer (some ⟨b, 0, none⟩), .int .i64 2] _ _ := hr
                have HRQ := Aside0.mk hr'
                have hix : ∀ w, (Instr.index 61 (.agg #[.string x0, .string x1, .string x2, .string x3, .string x4, .string x5, .string x6, .string x7]) (.int .i64 2)).run Try.prog w = .ok (.string x2) w := fun w => by kernel_rfl
                clear hr hr'
                go_wp2_with fail
                refine HRQ.out.mono ?_
                rintro e w10 ⟨rfl, hb⟩
                have H10 := Aside0.mk (H.out.below hb)
                have HB10 : Aside0 (Below w.heap.size w w10) := ⟨HB.out.trans (hb.mono HB.out.size)⟩
                clear hb HRQ
                simp only [List.getD_cons_zero, List.getD_cons_succ]
                go_wp2
                go_roundg 6
                case measure => omega
                case rel => exact ⟨3, rfl, by omega, by omega, H10, HB10⟩
              | 3, _ =>
                have hr := readD_walk H.out ((3 : Nat) : Int)
                rw [HRD.out 3 (by decide)] at hr
                have hr' : Calls Try.prog 31 #[.pointer (some ⟨b, 0, none⟩), .int .i64 3] _ _ := hr
                have HRQ := Aside0.mk hr'
                have hix : ∀ w, (Instr.index 61 (.agg #[.string x0, .string x1, .string x2, .string x3, .string x4, .string x5, .string x6, .string x7]) (.int .i64 3)).run Try.prog w = .ok (.string x3) w := fun w => by kernel_rfl
                clear hr hr'
                go_wp2_with fail
                refine HRQ.out.mono ?_
                rintro e w10 ⟨rfl, hb⟩
                have H10 := Aside0.mk (H.out.below hb)
                have HB10 : Aside0 (Below w.heap.size w w10) := ⟨HB.out.trans (hb.mono HB.out.size)⟩
                clear hb HRQ
                simp only [List.getD_cons_zero, List.getD_cons_succ]
                go_wp2
                go_roundg 5
                case measure => omega
                case rel => exact ⟨4, rfl, by omega, by omega, H10, HB10⟩
              | 4, _ =>
                have hr := readD_walk H.out ((4 : Nat) : Int)
                rw [HRD.out 4 (by decide)] at hr
                have hr' : Calls Try.prog 31 #[.pointer (some ⟨b, 0, none⟩), .int .i64 4] _ _ := hr
                have HRQ := Aside0.mk hr'
                have hix : ∀ w, (Instr.index 61 (.agg #[.string x0, .string x1, .string x2, .string x3, .string x4, .string x5, .string x6, .string x7]) (.int .i64 4)).run Try.prog w = .ok (.string x4) w := fun w => by kernel_rfl
                clear hr hr'
                go_wp2_with fail
                refine HRQ.out.mono ?_
                rintro e w10 ⟨rfl, hb⟩
                have H10 := Aside0.mk (H.out.below hb)
                have HB10 : Aside0 (Below w.heap.size w w10) := ⟨HB.out.trans (hb.mono HB.out.size)⟩
                clear hb HRQ
                simp only [List.getD_cons_zero, List.getD_cons_succ]
                go_wp2
                go_roundg 4
                case measure => omega
                case rel => exact ⟨5, rfl, by omega, by omega, H10, HB10⟩
              | 5, _ =>
                have hr := readD_walk H.out ((5 : Nat) : Int)
                rw [HRD.out 5 (by decide)] at hr
                have hr' : Calls Try.prog 31 #[.pointer (some ⟨b, 0, none⟩), .int .i64 5] _ _ := hr
                have HRQ := Aside0.mk hr'
                have hix : ∀ w, (Instr.index 61 (.agg #[.string x0, .string x1, .string x2, .string x3, .string x4, .string x5, .string x6, .string x7]) (.int .i64 5)).run Try.prog w = .ok (.string x5) w := fun w => by kernel_rfl
                clear hr hr'
                go_wp2_with fail
                refine HRQ.out.mono ?_
                rintro e w10 ⟨rfl, hb⟩
                have H10 := Aside0.mk (H.out.below hb)
                have HB10 : Aside0 (Below w.heap.size w w10) := ⟨HB.out.trans (hb.mono HB.out.size)⟩
                clear hb HRQ
                simp only [List.getD_cons_zero, List.getD_cons_succ]
                go_wp2
                go_roundg 3
                case measure => omega
                case rel => exact ⟨6, rfl, by omega, by omega, H10, HB10⟩
              | 6, _ =>
                have hr := readD_walk H.out ((6 : Nat) : Int)
                rw [HRD.out 6 (by decide)] at hr
                have hr' : Calls Try.prog 31 #[.pointer (some ⟨b, 0, none⟩), .int .i64 6] _ _ := hr
                have HRQ := Aside0.mk hr'
                have hix : ∀ w, (Instr.index 61 (.agg #[.string x0, .string x1, .string x2, .string x3, .string x4, .string x5, .string x6, .string x7]) (.int .i64 6)).run Try.prog w = .ok (.string x6) w := fun w => by kernel_rfl
                clear hr hr'
                go_wp2_with fail
                refine HRQ.out.mono ?_
                rintro e w10 ⟨rfl, hb⟩
                have H10 := Aside0.mk (H.out.below hb)
                have HB10 : Aside0 (Below w.heap.size w w10) := ⟨HB.out.trans (hb.mono HB.out.size)⟩
                clear hb HRQ
                simp only [List.getD_cons_zero, List.getD_cons_succ]
                go_wp2
                go_roundg 2
                case measure => omega
                case rel => exact ⟨7, rfl, by omega, by omega, H10, HB10⟩
              | 7, _ =>
                have hr := readD_walk H.out ((7 : Nat) : Int)
                rw [HRD.out 7 (by decide)] at hr
                have hr' : Calls Try.prog 31 #[.pointer (some ⟨b, 0, none⟩), .int .i64 7] _ _ := hr
                have HRQ := Aside0.mk hr'
                have hix : ∀ w, (Instr.index 61 (.agg #[.string x0, .string x1, .string x2, .string x3, .string x4, .string x5, .string x6, .string x7]) (.int .i64 7)).run Try.prog w = .ok (.string x7) w := fun w => by kernel_rfl
                clear hr hr'
                go_wp2_with fail
                refine HRQ.out.mono ?_
                rintro e w10 ⟨rfl, hb⟩
                have H10 := Aside0.mk (H.out.below hb)
                have HB10 : Aside0 (Below w.heap.size w w10) := ⟨HB.out.trans (hb.mono HB.out.size)⟩
                clear hb HRQ
                simp only [List.getD_cons_zero, List.getD_cons_succ]
                go_wp2
                go_roundg 1
                case measure => omega
                case rel => exact ⟨8, rfl, by omega, by omega, H10, HB10⟩
              | 8, _ =>
                go_wp2
                go_ret
                exact ⟨rfl, HB.out⟩
          · go_wp2_with fail
            refine (flush_good H.out rfl).mono ?_
            rintro e w6 ⟨rfl, hc, hd⟩
            have H6 := Aside0.mk hd
            have HT6 := Aside0.mk (HT.out.chg hc HA.out.2.1 HA.out.2.2.1 HA.out.2.2.2)
            have HB6 : Aside0 (Below w.heap.size w w6) := ⟨hc.below HB.out HB.out.size HL.out.1 HL.out.2.1 HL.out.2.2⟩
            have HRD : Aside0 (∀ j : Nat, j < 8 → readD (flushed (List.replicate 8 (zeros 64)) f) (fun _ => none) false (j : Int) = (L.getD j ⟨#[]⟩, 0)) := ⟨fun j hj => flushed_read HLI.out HLL.out j hj false rfl⟩
            clear hc hd H HB HT HLI
            generalize flushed (List.replicate 8 (zeros 64)) f = S at *
            go_wp2_with fail
            refine (dirty_walk H6.out).mono ?_
            rintro e w7 ⟨rfl, hb⟩
            have H7 := Aside0.mk (H6.out.below hb)
            have HT7 := Aside0.mk (HT6.out.below hb)
            have HB7 : Aside0 (Below w.heap.size w w7) := ⟨HB6.out.trans (hb.mono HB6.out.size)⟩
            clear hb H6 HT6 HB6
            go_wp2_with fail
            refine (crash_walk H7.out (by decide) A2 c2 picks (fun w' hc => Kd.C_below HR2.out (hc.below HB7.out HB7.out.size HL.out.1 HL.out.2.1 HL.out.2.2))).mono ?_
            rintro e w8 ⟨rfl, hc, ks, hks, hkl, hd⟩
            rw [hkl] at hd
            have H8 : Aside0 (DevAt w8 b g m 0 0 S (fun _ => none) 0 false) := ⟨hd⟩
            have HT8 := Aside0.mk (HT7.out.chg hc HA.out.2.1 HA.out.2.2.1 HA.out.2.2.2)
            have HB8 : Aside0 (Below w.heap.size w w8) := ⟨hc.below HB7.out HB7.out.size HL.out.1 HL.out.2.1 HL.out.2.2⟩
            clear hc hks hkl hd H7 HT7 HB7
            go_wp2_with fail
            refine (crash_walk H8.out (by decide) A2 c2 picks (fun w' hc => Kd.C_below HR2.out (hc.below HB8.out HB8.out.size HL.out.1 HL.out.2.1 HL.out.2.2))).mono ?_
            rintro e w9 ⟨rfl, hc, ks, hks, hkl, hd⟩
            rw [hkl] at hd
            have H9 : Aside0 (DevAt w9 b g m 0 0 S (fun _ => none) 0 false) := ⟨hd⟩
            have HT9 := Aside0.mk (HT8.out.chg hc HA.out.2.1 HA.out.2.2.1 HA.out.2.2.2)
            have HB9 : Aside0 (Below w.heap.size w w9) := ⟨hc.below HB8.out HB8.out.size HL.out.1 HL.out.2.1 HL.out.2.2⟩
            clear hc hks hkl hd H8 HT8 HB8
            obtain ⟨x0, x1, x2, x3, x4, x5, x6, x7, rfl⟩ := eight HLL.out
            have d0 := HT9.out.cell 0 (by simp)
            have d1 := HT9.out.cell 1 (by simp)
            have d2 := HT9.out.cell 2 (by simp)
            have d3 := HT9.out.cell 3 (by simp)
            have d4 := HT9.out.cell 4 (by simp)
            have d5 := HT9.out.cell 5 (by simp)
            have d6 := HT9.out.cell 6 (by simp)
            have d7 := HT9.out.cell 7 (by simp)
            simp only [List.getElem_cons_zero, List.getElem_cons_succ] at d0 d1 d2 d3 d4 d5 d6 d7
            go_wp2
            clear d0 d1 d2 d3 d4 d5 d6 d7
            go_loopg [80] 9 (fun kq v80 wr => ∃ j : Nat, v80 = .int .i64 j ∧ j ≤ 8 ∧ j + kq = 9 ∧ Aside0 (DevAt wr b g m 0 0 S (fun _ => none) 0 false) ∧ Aside0 (Below w.heap.size w wr))
            case atStart => exact ⟨0, rfl, by omega, by omega, H9, HB9⟩
            case round =>
              clear H9 HB9 HT9
              obtain ⟨j, rfl, hj, hjq, H, HB⟩ := hrel
              match j, hj with
              | 0, _ =>
                have hr := readD_walk H.out ((0 : Nat) : Int)
                rw [HRD.out 0 (by decide)] at hr
                have hr' : Calls Try.prog 31 #[.pointer (some ⟨b, 0, none⟩), .int .i64 0] _ _ := hr
                have HRQ := Aside0.mk hr'
                have hix : ∀ w, (Instr.index 61 (.agg #[.string x0, .string x1, .string x2, .string x3, .string x4, .string x5, .string x6, .string x7]) (.int .i64 0)).run Try.prog w = .ok (.string x0) w := fun w => by kernel_rfl
                clear hr hr'
                go_wp2_with fail
                refine HRQ.out.mono ?_
                rintro e w10 ⟨rfl, hb⟩
                have H10 := Aside0.mk (H.out.below hb)
                have HB10 : Aside0 (Below w.heap.size w w10) := ⟨HB.out.trans (hb.mono HB.out.size)⟩
                clear hb HRQ
                simp only [List.getD_cons_zero, List.getD_cons_succ]
                go_wp2
                go_roundg 8
                case measure => omega
                case rel => exact ⟨1, rfl, by omega, by omega, H10, HB10⟩
              | 1, _ =>
                have hr := readD_walk H.out ((1 : Nat) : Int)
                rw [HRD.out 1 (by decide)] at hr
                have hr' : Calls Try.prog 31 #[.pointer (some ⟨b, 0, none⟩), .int .i64 1] _ _ := hr
                have HRQ := Aside0.mk hr'
                have hix : ∀ w, (Instr.index 61 (.agg #[.string x0, .string x1, .string x2, .string x3, .string x4, .string x5, .string x6, .string x7]) (.int .i64 1)).run Try.prog w = .ok (.string x1) w := fun w => by kernel_rfl
                clear hr hr'
                go_wp2_with fail
                refine HRQ.out.mono ?_
                rintro e w10 ⟨rfl, hb⟩
                have H10 := Aside0.mk (H.out.below hb)
                have HB10 : Aside0 (Below w.heap.size w w10) := ⟨HB.out.trans (hb.mono HB.out.size)⟩
                clear hb HRQ
                simp only [List.getD_cons_zero, List.getD_cons_succ]
                go_wp2
                go_roundg 7
                case measure => omega
                case rel => exact ⟨2, rfl, by omega, by omega, H10, HB10⟩
              | 2, _ =>
                have hr := readD_walk H.out ((2 : Nat) : Int)
                rw [HRD.out 2 (by decide)] at hr
                have hr' : Calls Try.prog 31 #[.pointer (some ⟨b, 0, none⟩), .int .i64 2] _ _ := hr
                have HRQ := Aside0.mk hr'
                have hix : ∀ w, (Instr.index 61 (.agg #[.string x0, .string x1, .string x2, .string x3, .string x4, .string x5, .string x6, .string x7]) (.int .i64 2)).run Try.prog w = .ok (.string x2) w := fun w => by kernel_rfl
                clear hr hr'
                go_wp2_with fail
                refine HRQ.out.mono ?_
                rintro e w10 ⟨rfl, hb⟩
                have H10 := Aside0.mk (H.out.below hb)
                have HB10 : Aside0 (Below w.heap.size w w10) := ⟨HB.out.trans (hb.mono HB.out.size)⟩
                clear hb HRQ
                simp only [List.getD_cons_zero, List.getD_cons_succ]
                go_wp2
                go_roundg 6
                case measure => omega
                case rel => exact ⟨3, rfl, by omega, by omega, H10, HB10⟩
              | 3, _ =>
                have hr := readD_walk H.out ((3 : Nat) : Int)
                rw [HRD.out 3 (by decide)] at hr
                have hr' : Calls Try.prog 31 #[.pointer (some ⟨b, 0, none⟩), .int .i64 3] _ _ := hr
                have HRQ := Aside0.mk hr'
                have hix : ∀ w, (Instr.index 61 (.agg #[.string x0, .string x1, .string x2, .string x3, .string x4, .string x5, .string x6, .string x7]) (.int .i64 3)).run Try.prog w = .ok (.string x3) w := fun w => by kernel_rfl
                clear hr hr'
                go_wp2_with fail
                refine HRQ.out.mono ?_
                rintro e w10 ⟨rfl, hb⟩
                have H10 := Aside0.mk (H.out.below hb)
                have HB10 : Aside0 (Below w.heap.size w w10) := ⟨HB.out.trans (hb.mono HB.out.size)⟩
                clear hb HRQ
                simp only [List.getD_cons_zero, List.getD_cons_succ]
                go_wp2
                go_roundg 5
                case measure => omega
                case rel => exact ⟨4, rfl, by omega, by omega, H10, HB10⟩
              | 4, _ =>
                have hr := readD_walk H.out ((4 : Nat) : Int)
                rw [HRD.out 4 (by decide)] at hr
                have hr' : Calls Try.prog 31 #[.pointer (some ⟨b, 0, none⟩), .int .i64 4] _ _ := hr
                have HRQ := Aside0.mk hr'
                have hix : ∀ w, (Instr.index 61 (.agg #[.string x0, .string x1, .string x2, .string x3, .string x4, .string x5, .string x6, .string x7]) (.int .i64 4)).run Try.prog w = .ok (.string x4) w := fun w => by kernel_rfl
                clear hr hr'
                go_wp2_with fail
                refine HRQ.out.mono ?_
                rintro e w10 ⟨rfl, hb⟩
                have H10 := Aside0.mk (H.out.below hb)
                have HB10 : Aside0 (Below w.heap.size w w10) := ⟨HB.out.trans (hb.mono HB.out.size)⟩
                clear hb HRQ
                simp only [List.getD_cons_zero, List.getD_cons_succ]
                go_wp2
                go_roundg 4
                case measure => omega
                case rel => exact ⟨5, rfl, by omega, by omega, H10, HB10⟩
              | 5, _ =>
                have hr := readD_walk H.out ((5 : Nat) : Int)
                rw [HRD.out 5 (by decide)] at hr
                have hr' : Calls Try.prog 31 #[.pointer (some ⟨b, 0, none⟩), .int .i64 5] _ _ := hr
                have HRQ := Aside0.mk hr'
                have hix : ∀ w, (Instr.index 61 (.agg #[.string x0, .string x1, .string x2, .string x3, .string x4, .string x5, .string x6, .string x7]) (.int .i64 5)).run Try.prog w = .ok (.string x5) w := fun w => by kernel_rfl
                clear hr hr'
                go_wp2_with fail
                refine HRQ.out.mono ?_
                rintro e w10 ⟨rfl, hb⟩
                have H10 := Aside0.mk (H.out.below hb)
                have HB10 : Aside0 (Below w.heap.size w w10) := ⟨HB.out.trans (hb.mono HB.out.size)⟩
                clear hb HRQ
                simp only [List.getD_cons_zero, List.getD_cons_succ]
                go_wp2
                go_roundg 3
                case measure => omega
                case rel => exact ⟨6, rfl, by omega, by omega, H10, HB10⟩
              | 6, _ =>
                have hr := readD_walk H.out ((6 : Nat) : Int)
                rw [HRD.out 6 (by decide)] at hr
                have hr' : Calls Try.prog 31 #[.pointer (some ⟨b, 0, none⟩), .int .i64 6] _ _ := hr
                have HRQ := Aside0.mk hr'
                have hix : ∀ w, (Instr.index 61 (.agg #[.string x0, .string x1, .string x2, .string x3, .string x4, .string x5, .string x6, .string x7]) (.int .i64 6)).run Try.prog w = .ok (.string x6) w := fun w => by kernel_rfl
                clear hr hr'
                go_wp2_with fail
                refine HRQ.out.mono ?_
                rintro e w10 ⟨rfl, hb⟩
                have H10 := Aside0.mk (H.out.below hb)
                have HB10 : Aside0 (Below w.heap.size w w10) := ⟨HB.out.trans (hb.mono HB.out.size)⟩
                clear hb HRQ
                simp only [List.getD_cons_zero, List.getD_cons_succ]
                go_wp2
                go_roundg 2
                case measure => omega
                case rel => exact ⟨7, rfl, by omega, by omega, H10, HB10⟩
              | 7, _ =>
                have hr := readD_walk H.out ((7 : Nat) : Int)
                rw [HRD.out 7 (by decide)] at hr
                have hr' : Calls Try.prog 31 #[.pointer (some ⟨b, 0, none⟩), .int .i64 7] _ _ := hr
                have HRQ := Aside0.mk hr'
                have hix : ∀ w, (Instr.index 61 (.agg #[.string x0, .string x1, .string x2, .string x3, .string x4, .string x5, .string x6, .string x7]) (.int .i64 7)).run Try.prog w = .ok (.string x7) w := fun w => by kernel_rfl
                clear hr hr'
                go_wp2_with fail
                refine HRQ.out.mono ?_
                rintro e w10 ⟨rfl, hb⟩
                have H10 := Aside0.mk (H.out.below hb)
                have HB10 : Aside0 (Below w.heap.size w w10) := ⟨HB.out.trans (hb.mono HB.out.size)⟩
                clear hb HRQ
                simp only [List.getD_cons_zero, List.getD_cons_succ]
                go_wp2
                go_roundg 1
                case measure => omega
                case rel => exact ⟨8, rfl, by omega, by omega, H10, HB10⟩
              | 8, _ =>
                go_wp2
                go_ret
                exact ⟨rfl, HB.out⟩
end Go.Proofs.Yteibcojjbcihbaa.Sec
