/- TxnReads: the law's walk. -/
import Derived.Test.YteibcojjbcihbaaHWorksT
import Derived.Test.YteibcojjbcihbaaHKeyT
import Derived.Test.YteibcojjbcihbaaHActT
namespace Go.Proofs.Yteibcojjbcihbaa.Txn
open Go.RowKit Go.Proofs.YteibcojjbcihbaaW.PrintWords Go.Proofs.YteibcojjbcihbaaW.PrintLast Go.Proofs.YteibcojjbcihbaaW.PrintMore Go.Maps Mk
attribute [local go_sem] Mk.str_leq Mk.str_gtr Mk.str_geq
set_option linter.unusedVariables false
set_option linter.unusedSimpArgs false
theorem bytes_ext {a b : ByteArray} (h : a.data.toList = b.data.toList) : a = b := by
  cases a
  cases b
  congr 1
  exact Array.toList_inj.1 h
/-- Only keys that may be are in it. -/
def KeysOk (f : Tab) : Prop := ∀ s : ByteArray, (f s.data.toList).isSome = true → keyB s = true
theorem KeysOk.none : KeysOk (fun _ => Option.none) := fun s h => by cases h
theorem KeysOk.put {f : Tab} (h : KeysOk f) {k : ByteArray} (hk : keyB k = true) (x : Item) : KeysOk (tput f k.data.toList x) := fun s hs => by
  unfold tput at hs
  split at hs
  · rename_i e
    rw [bytes_ext e]
    exact hk
  · exact h s hs
/-- What the law holds: the transaction, its own two maps. -/
structure LawAt (w0 w : World) (b br bw gw gn N sr sw : Nat) (fr fw : Tab) : Prop where
  txn : TxnAt w b br bw 5 9 N sr sw fr fw
  wrote : TabAt w gw N sw fw
  noted : TabAt w gn N sr fr
  bel : Below w0.heap.size w0 w
  kr : KeysOk fr
  kw : KeysOk fw
structure Apart5 (n b br bw gw gn : Nat) : Prop where
  b0 : n ≤ b
  br0 : n ≤ br
  bw0 : n ≤ bw
  gw0 : n ≤ gw
  gn0 : n ≤ gn
  wb : gw ≠ b
  wr : gw ≠ br
  ww : gw ≠ bw
  nb : gn ≠ b
  nr : gn ≠ br
  nw : gn ≠ bw
  nn : gn ≠ gw
section
variable {w0 w w' w2 : World} {b br bw gw gn N sr sw : Nat} {fr fw : Tab}
theorem some_ne {a b : Nat} (h : a ≠ b) : (some a : Option Nat) ≠ some b := fun e => h (by injection e)
theorem LawAt.below (h : LawAt w0 w b br bw gw gn N sr sw fr fw) (hb : Below w.heap.size w w') : LawAt w0 w' b br bw gw gn N sr sw fr fw :=
  ⟨h.txn.below hb, h.wrote.below hb, h.noted.below hb, h.bel.trans (hb.mono h.bel.size), h.kr, h.kw⟩
theorem LawAt.mono (h : LawAt w0 w b br bw gw gn N sr sw fr fw) : LawAt w0 w b br bw gw gn (N + 1) sr sw fr fw :=
  ⟨⟨h.txn.box, h.txn.reads.mono (Nat.le_succ _), h.txn.writes.mono (Nat.le_succ _), h.txn.ne⟩, h.wrote.mono (Nat.le_succ _), h.noted.mono (Nat.le_succ _), h.bel, h.kr, h.kw⟩
/-- A call that changes nothing that is told. -/
theorem LawAt.same (h : LawAt w0 w b br bw gw gn N sr sw fr fw) {row : Nat} (hr : row = br ∨ row = bw) (ap : Apart5 w0.heap.size b br bw gw gn) (hg : w.grownBy w' (some row)) (ht : TxnAt w' b br bw 5 9 (N + 1) sr sw fr fw) : LawAt w0 w' b br bw gw gn (N + 1) sr sw fr fw := by
  have h1 : some gw ≠ some row := by rcases hr with rfl | rfl; exact some_ne ap.wr; exact some_ne ap.ww
  have h2 : some gn ≠ some row := by rcases hr with rfl | rfl; exact some_ne ap.nr; exact some_ne ap.nw
  exact ⟨ht, (h.wrote.kept hg h1).mono (Nat.le_succ _), (h.noted.kept hg h2).mono (Nat.le_succ _), h.bel.grown hg h.bel.size (fun j hj => by cases hj; rcases hr with rfl | rfl; exact ap.br0; exact ap.bw0), h.kr, h.kw⟩
end
theorem note_zero {f : Tab} {sz : Nat} {k v : ByteArray} {fd : Bool} (h : noteV f sz k v fd = 0) : f k.data.toList = none ∧ keyB k = true := by
  unfold noteV at h
  split at h
  · rename_i hw
    split at h
    · cases h
    · split at h
      · cases h
      · rename_i h2
        exact ⟨by simpa using h2, (wrong_zero hw).1⟩
  · exact absurd h (by assumption)
theorem write_zero {f : Tab} {sz : Nat} {k v : ByteArray} (h : writeV f sz k v = 0) : keyB k = true := by
  unfold writeV at h
  split at h
  · rename_i hw
    exact (wrong_zero hw).1
  · exact absurd h (by assumption)
theorem four_cells {w : World} {g : Nat} {t : Nat} {v0 v1 v2 v3 : Value} (h : w.heap[g]? = some (.cells #[v0, v1, v2, v3] t (0, 0))) : w.cell? ⟨g, 0, none⟩ = some v0 ∧ w.cell? ⟨g, 1, none⟩ = some v1 ∧ w.cell? ⟨g, 2, none⟩ = some v2 ∧ w.cell? ⟨g, 3, none⟩ = some v3 :=
  ⟨(blk_cell h 0).trans rfl, (blk_cell h 1).trans rfl, (blk_cell h 2).trans rfl, (blk_cell h 3).trans rfl⟩
set_option maxRecDepth 100000 in
set_option maxHeartbeats 4000000 in
theorem txnReads_walk (w : World) {A : Option Addr} {c : Nat} {l : List S30} (hc : l.length ≤ c) (hr : Kd.C k30 w A l.length l) (hg : l.length * 48 ≤ 140737488351232 ∧ ∀ r, r ∈ l → okAct r) :
    Calls Try.prog 3 #[.slice A l.length c] w fun e w' => e = .returned (.bool true) ∧ Below w.heap.size w w' := by
  have HR := Aside0.mk hr
  have HG := Aside0.mk hg.2
  have hl := Kd.C_max hr
  have hmm := @run_makeMap Try.prog
  clear hr hg hc
  go_enter Try.func3, Try.ntmps3
  go_wp2_with fail
  refine (new_walk w 5 9 (by decide)).mono ?_
  rintro e w1 ⟨hb, b, br, bw, hb1, hb2, hb3, rfl, ht⟩
  have HB := Aside0.mk hb
  have HL := Aside0.mk (And.intro hb1 (And.intro hb2 hb3))
  have HT := Aside0.mk ht
  clear hb hb1 hb2 hb3 ht
  go_wp2_with fail
  refine (works_walk w1).mono ?_
  rintro e w2 ⟨rfl, hb⟩
  have HT2 := Aside0.mk (HT.out.below hb)
  have HB2 : Aside0 (Below w.heap.size w w2) := ⟨HB.out.trans (hb.mono HB.out.size)⟩
  clear hb HT HB
  go_wp2
  clear hmm
  have HAP : Aside0 (Apart5 w.heap.size b br bw w2.heap.size (w2.heap.size + 1)) := ⟨by
    have h1 := HT2.out.lt
    have h2 := HT2.out.reads.lt
    have h3 := HT2.out.writes.lt
    have h4 := HB2.out.size
    have h5 := HL.out
    exact ⟨h5.1, h5.2.1, h5.2.2, h4, by omega, by omega, by omega, by omega, by omega, by omega, by omega, by omega⟩⟩
  have HLA : Aside0 (LawAt w ((w2.alloc (Obj.map #[] 0)).alloc (Obj.map #[] 0)) b br bw w2.heap.size (w2.heap.size + 1) 0 0 0 (fun _ => none) (fun _ => none)) := ⟨by
    have hb := below_alloc (below_alloc (Below.refl w2.heap.size w2) (Obj.map #[] 0)) (Obj.map #[] 0)
    refine ⟨HT2.out.below hb, (TabAt.made w2).below (below_alloc (Below.refl _ _) _), ?_, HB2.out.trans (hb.mono HB2.out.size), KeysOk.none, KeysOk.none⟩
    have := TabAt.made (w2.alloc (Obj.map #[] 0))
    simpa using this⟩
  clear HT2 HB2 HL
  generalize w2.heap.size + 1 = gn at *
  generalize (w2.alloc (Obj.map #[] 0)).alloc (Obj.map #[] 0) = w3 at *
  generalize w2.heap.size = gw at *
  clear w2
  go_loopg [7] (l.length + 1) (fun kq v7 wr => ∃ (k sr sw : Nat) (fr fw : Tab), v7 = .int .i64 k ∧ k ≤ 100 ∧ k ≤ l.length ∧ k + kq = l.length + 1 ∧ Aside0 (LawAt w wr b br bw gw gn k sr sw fr fw))
  case atStart => exact ⟨0, 0, 0, _, _, rfl, by omega, by omega, by omega, HLA⟩
  case round =>
    clear HLA
    obtain ⟨k, sr, sw, fr, fw, rfl, hk100, hk, hkq, HLA⟩ := hrel
    by_cases hlt : k < l.length ∧ k < 100
    · obtain ⟨hlt, hlt2⟩ := hlt
      obtain ⟨ad, rfl, q0, q1, q2, q3⟩ := at30 (Kd.C_below HR.out HLA.out.bel) (k : Int) (by omega) (by omega)
      obtain ⟨x, hx⟩ : ∃ x, x = rd30 l (k : Int) := ⟨_, rfl⟩
      have HX : Aside0 (okAct x) := ⟨by rw [hx, rd30_nat l k hlt]; exact HG.out _ (List.getElem_mem hlt)⟩
      rw [Int.toNat_natCast] at q0 q1 q2 q3
      rw [← hx] at q0 q1 q2 q3
      clear hx
      obtain ⟨kd, key, val, fd⟩ := x
      have HS : Aside0 (key.size ≤ maxLen ∧ val.size ≤ maxLen ∧ k < maxLen) := ⟨Nat.le_trans HX.out.1 (by decide), Nat.le_trans HX.out.2 (by decide), by unfold maxLen; omega⟩
      go_wp2_with fail
      refine (among_walk _ kd).mono ?_
      rintro e w4 ⟨rfl, hb⟩
      have HBX : Aside0 (w4.heap[wr.heap.size]? = some (.cells #[Value.int IntKind.i64 kd, Value.string key, Value.string val, Value.bool fd] 30 (0, 0))) := ⟨blk_below (blk_new wr _) hb⟩
      have HL4 := Aside0.mk ((HLA.out.below (below_alloc (Below.refl _ _) (Obj.cells #[Value.int IntKind.i64 kd, Value.string key, Value.string val, Value.bool fd] 30))).below hb)
      have HGE : Aside0 (w.heap.size ≤ wr.heap.size ∧ wr.heap.size ≠ br ∧ wr.heap.size ≠ bw ∧ wr.heap.size ≠ gw ∧ wr.heap.size ≠ gn) := ⟨HLA.out.bel.size, Nat.ne_of_gt HLA.out.txn.reads.lt, Nat.ne_of_gt HLA.out.txn.writes.lt, Nat.ne_of_gt HLA.out.wrote.lt, Nat.ne_of_gt HLA.out.noted.lt⟩
      clear hb HLA q0 q1 q2 q3
      generalize wr.heap.size = g at *
      generalize (kd.tmod 4 + 4).tmod 4 = r at *
      go_upto_block 2 with fail
      go_cut [10] (fun v10 wc => ∃ (sr sw : Nat) (fr fw : Tab), Aside0 (LawAt w wc b br bw gw gn (k + 1) sr sw fr fw) ∧ Aside0 (wc.heap[g]? = some (.cells #[Value.int IntKind.i64 kd, Value.string key, Value.string val, Value.bool fd] 30 (0, 0))))
      case first =>
        obtain ⟨c0, c1, c2, c3⟩ := four_cells HBX.out
        by_cases h1 : r = 1
        · subst h1
          go_wp2_with fail
          have hn := note_walk w4 b br bw 5 9 k sr sw fr fw HL4.out.txn key val fd HS.out.1 HS.out.2.1 HS.out.2.2
          cases hz : (noteV fr sr key val fd == 0) with
          | false =>
            have hz0 : noteV fr sr key val fd ≠ 0 := by simpa using hz
            rw [if_neg hz0, if_neg hz0] at hn
            refine hn.mono ?_
            rintro e w5 ⟨rfl, hg, ht⟩
            have HL5 := Aside0.mk (HL4.out.same (.inl rfl) HAP.out hg ht)
            have HB5 := Aside0.mk (blk_grown HBX.out hg (some_ne HGE.out.2.1))
            clear hg ht hn hz0 c0 c1 c2 c3
            generalize noteV fr sr key val fd = z at *
            go_wp2
            go_meet
            case rel => exact ⟨sr, sw, fr, fw, HL5, HB5⟩
          | true =>
            have hz0 : noteV fr sr key val fd = 0 := by simpa using hz
            rw [hz0, if_pos rfl, if_pos rfl] at hn
            have HZ := Aside0.mk (note_zero hz0)
            refine hn.mono ?_
            rintro e w5 ⟨rfl, hg, ht⟩
            have HT5 : Aside0 (TxnAt w5 b br bw 5 9 (k + 1) (sr + 1) sw (tput fr key.data.toList (val, fd)) fw) := ⟨ht⟩
            have HB5 := Aside0.mk (blk_grown HBX.out hg (some_ne HGE.out.2.1))
            have HN5 := Aside0.mk (HL4.out.noted.kept hg (some_ne HAP.out.nr))
            have HW5 := Aside0.mk (HL4.out.wrote.kept hg (some_ne HAP.out.wr))
            have HE5 : Aside0 (Below w.heap.size w w5) := ⟨HL4.out.bel.grown hg HL4.out.bel.size (fun j hj => by cases hj; exact HAP.out.br0)⟩
            clear hg ht hn hz0 hz c0 c1 c2 c3
            have hb6 : Below w5.heap.size w5 (w5.alloc (Obj.cells #[Value.string { data := #[] }, Value.bool false] 34)) := below_alloc (Below.refl _ _) _
            obtain ⟨c0, c1, c2, c3⟩ := four_cells HB5.out
            have HB6 := Aside0.mk (blk_alloc HB5.out (Obj.cells #[Value.string { data := #[] }, Value.bool false] 34))
            obtain ⟨d0, d1, d2, d3⟩ := four_cells HB6.out
            have HN6 := Aside0.mk (HN5.out.below hb6)
            have HW6 := Aside0.mk (HW5.out.below hb6)
            have HT6 := Aside0.mk (HT5.out.below hb6)
            have HE6 : Aside0 (Below w.heap.size w (w5.alloc (Obj.cells #[Value.string { data := #[] }, Value.bool false] 34))) := ⟨HE5.out.trans (hb6.mono HE5.out.size)⟩
            clear hb6 HT5 HW5 HE5 HB5
            go_wp2_with (first
              | (at_lookup; refine TabAt.look0 HN5.out rfl _ _ 28 34 rfl Try.underlying28 (zero34 _) rfl key rfl HS.out.1 HZ.out.1 ?_)
              | (at_mapUpdate; refine TabAt.store HN6.out rfl _ _ _ 28 34 rfl Try.underlying28 HS.out.2.2 rfl key rfl HS.out.1 val fd rfl ?_; intro w7 hm7 hg7))
            go_meet
            case rel =>
              rw [HZ.out.1] at hm7
              exact ⟨sr + 1, sw, tput fr key.data.toList (val, fd), fw, ⟨⟨HT6.out.kept hg7 (some_ne HAP.out.nb.symm) (some_ne HAP.out.nr.symm) (some_ne HAP.out.nw.symm), (HW6.out.kept hg7 (some_ne HAP.out.nn.symm)).mono (Nat.le_succ _), hm7, HE6.out.grown hg7 HE6.out.size (fun j hj => by cases hj; exact HAP.out.gn0), HL4.out.kr.put HZ.out.2 _, HL4.out.kw⟩⟩, ⟨blk_grown HB6.out hg7 (some_ne HGE.out.2.2.2.2)⟩⟩
        · have h1b : (r == 1) = false := by simpa using h1
          by_cases h2 : r = 2
          · subst h2
            clear h1
            go_wp2_with fail
            have hn := put_walk w4 b br bw 5 9 k sr sw fr fw HL4.out.txn key val HS.out.1 HS.out.2.1 HS.out.2.2
            cases hz : (writeV fw sw key val == 0) with
            | false =>
              have hz0 : writeV fw sw key val ≠ 0 := by simpa using hz
              rw [if_neg hz0, if_neg hz0] at hn
              refine hn.mono ?_
              rintro e w5 ⟨rfl, hg, ht⟩
              have HL5 := Aside0.mk (HL4.out.same (.inr rfl) HAP.out hg ht)
              have HB5 := Aside0.mk (blk_grown HBX.out hg (some_ne HGE.out.2.2.1))
              clear hg ht hn hz0 c0 c1 c2 c3
              generalize writeV fw sw key val = z at *
              go_wp2
              go_meet
              case rel => exact ⟨sr, sw, fr, fw, HL5, HB5⟩
            | true =>
              have hz0 : writeV fw sw key val = 0 := by simpa using hz
              rw [hz0, if_pos rfl, if_pos rfl] at hn
              have HZ := Aside0.mk (write_zero hz0)
              refine hn.mono ?_
              rintro e w5 ⟨rfl, hg, ht⟩
              have HT5 : Aside0 (TxnAt w5 b br bw 5 9 (k + 1) sr (if (fw key.data.toList).isSome then sw else sw + 1) fr (tput fw key.data.toList (val, true))) := ⟨ht⟩
              have HB5 := Aside0.mk (blk_grown HBX.out hg (some_ne HGE.out.2.2.1))
              have HN5 := Aside0.mk (HL4.out.noted.kept hg (some_ne HAP.out.nw))
              have HW5 := Aside0.mk (HL4.out.wrote.kept hg (some_ne HAP.out.ww))
              have HE5 : Aside0 (Below w.heap.size w w5) := ⟨HL4.out.bel.grown hg HL4.out.bel.size (fun j hj => by cases hj; exact HAP.out.bw0)⟩
              clear hg ht hn hz0 hz c0 c1 c2 c3
              obtain ⟨c0, c1, c2, c3⟩ := four_cells HB5.out
              go_wp2_with (first
                | (at_mapUpdate; refine TabAt.store HW5.out rfl _ _ _ 28 34 rfl Try.underlying28 HS.out.2.2 rfl key rfl HS.out.1 val true rfl ?_; intro w7 hm7 hg7))
              go_meet
              case rel =>
                exact ⟨sr, (if (fw key.data.toList).isSome then sw else sw + 1), fr, tput fw key.data.toList (val, true), ⟨⟨HT5.out.kept hg7 (some_ne HAP.out.wb.symm) (some_ne HAP.out.wr.symm) (some_ne HAP.out.ww.symm), hm7, (HN5.out.kept hg7 (some_ne HAP.out.nn)).mono (Nat.le_succ _), HE5.out.grown hg7 HE5.out.size (fun j hj => by cases hj; exact HAP.out.gw0), HL4.out.kr, HL4.out.kw.put HZ.out _⟩⟩, ⟨blk_grown HB5.out hg7 (some_ne HGE.out.2.2.2.1)⟩⟩
          · have h2b : (r == 2) = false := by simpa using h2
            by_cases h3 : r = 3
            · subst h3
              clear h1 h2
              go_wp2_with fail
              have hn := delete_walk w4 b br bw 5 9 k sr sw fr fw HL4.out.txn key HS.out.1 HS.out.2.2
              cases hz : (writeV fw sw key ⟨#[]⟩ == 0) with
              | false =>
                have hz0 : writeV fw sw key ⟨#[]⟩ ≠ 0 := by simpa using hz
                rw [if_neg hz0, if_neg hz0] at hn
                refine hn.mono ?_
                rintro e w5 ⟨rfl, hg, ht⟩
                have HL5 := Aside0.mk (HL4.out.same (.inr rfl) HAP.out hg ht)
                have HB5 := Aside0.mk (blk_grown HBX.out hg (some_ne HGE.out.2.2.1))
                clear hg ht hn hz0 c0 c1 c2 c3
                generalize writeV fw sw key ⟨#[]⟩ = z at *
                go_wp2
                go_meet
                case rel => exact ⟨sr, sw, fr, fw, HL5, HB5⟩
              | true =>
                have hz0 : writeV fw sw key ⟨#[]⟩ = 0 := by simpa using hz
                rw [hz0, if_pos rfl, if_pos rfl] at hn
                have HZ := Aside0.mk (write_zero hz0)
                refine hn.mono ?_
                rintro e w5 ⟨rfl, hg, ht⟩
                have HT5 : Aside0 (TxnAt w5 b br bw 5 9 (k + 1) sr (if (fw key.data.toList).isSome then sw else sw + 1) fr (tput fw key.data.toList it0)) := ⟨ht⟩
                have HB5 := Aside0.mk (blk_grown HBX.out hg (some_ne HGE.out.2.2.1))
                have HN5 := Aside0.mk (HL4.out.noted.kept hg (some_ne HAP.out.nw))
                have HW5 := Aside0.mk (HL4.out.wrote.kept hg (some_ne HAP.out.ww))
                have HE5 : Aside0 (Below w.heap.size w w5) := ⟨HL4.out.bel.grown hg HL4.out.bel.size (fun j hj => by cases hj; exact HAP.out.bw0)⟩
                clear hg ht hn hz0 hz c0 c1 c2 c3
                obtain ⟨c0, c1, c2, c3⟩ := four_cells HB5.out
                go_wp2_with (first
                  | (at_mapUpdate; refine TabAt.store HW5.out rfl _ _ _ 28 34 rfl Try.underlying28 HS.out.2.2 rfl key rfl HS.out.1 ⟨#[]⟩ false rfl ?_; intro w7 hm7 hg7))
                go_meet
                case rel =>
                  exact ⟨sr, (if (fw key.data.toList).isSome then sw else sw + 1), fr, tput fw key.data.toList it0, ⟨⟨HT5.out.kept hg7 (some_ne HAP.out.wb.symm) (some_ne HAP.out.wr.symm) (some_ne HAP.out.ww.symm), hm7, (HN5.out.kept hg7 (some_ne HAP.out.nn)).mono (Nat.le_succ _), HE5.out.grown hg7 HE5.out.size (fun j hj => by cases hj; exact HAP.out.gw0), HL4.out.kr, HL4.out.kw.put HZ.out _⟩⟩, ⟨blk_grown HB5.out hg7 (some_ne HGE.out.2.2.2.1)⟩⟩
            · have h3b : (r == 3) = false := by simpa using h3
              clear h1 h2 h3
              go_wp2
              go_meet
              case rel => exact ⟨sr, sw, fr, fw, ⟨HL4.out.mono⟩, HBX⟩
      case rest =>
        clear HL4
        obtain ⟨sr2, sw2, fr2, fw2, HLA, HBX2⟩ := hcut
        clear HBX
        obtain ⟨c0, c1, c2, c3⟩ := four_cells HBX2.out
        have HGW := Aside0.mk (get_walk wc b br bw 5 9 (k + 1) sr2 sw2 fr2 fw2 HLA.out.txn key HS.out.1)
        have hkq2 : k + 1 + (gk - 1) = l.length + 1 := by omega
        cases hfw : fw2 key.data.toList with
        | some x =>
          have HF := Aside0.mk hfw
          have HK : keyB key = true := HLA.out.kw key (by rw [hfw]; rfl)
          have HV : getV fr2 fw2 key = (x, 0) := by unfold getV; rw [if_neg (by rw [HK]; simp), hfw]
          rw [HV] at HGW
          clear hfw HK HV
          go_wp2_with fail
          refine HGW.out.mono ?_
          rintro e w5 ⟨rfl, hb⟩
          have HL5 := Aside0.mk (HLA.out.below hb)
          have HB5 := Aside0.mk (blk_below HBX2.out hb)
          clear hb HGW c0 c1 c2 c3
          obtain ⟨c0, c1, c2, c3⟩ := four_cells HB5.out
          go_wp2_with (first
            | (at_lookup; refine TabAt.look1 HL5.out.wrote rfl _ _ 28 34 rfl Try.underlying28 (zero34 _) rfl key rfl HS.out.1 HF.out ?_))
          go_roundg (gk - 1)
          case measure => omega
          case rel => exact ⟨k + 1, sr2, sw2, fr2, fw2, by go_num, by omega, by omega, hkq2, ⟨HL5.out.below (below_alloc (Below.refl _ _) _)⟩⟩
        | none =>
          have HF := Aside0.mk hfw
          cases hfr : fr2 key.data.toList with
          | some x =>
            have HF2 := Aside0.mk hfr
            have HK : keyB key = true := HLA.out.kr key (by rw [hfr]; rfl)
            have HV : getV fr2 fw2 key = (x, 0) := by unfold getV; rw [if_neg (by rw [HK]; simp), hfw, hfr]
            rw [HV] at HGW
            clear hfw hfr HK HV
            go_wp2_with fail
            refine HGW.out.mono ?_
            rintro e w5 ⟨rfl, hb⟩
            have HL5 := Aside0.mk (HLA.out.below hb)
            have HB5 := Aside0.mk (blk_below HBX2.out hb)
            clear hb HGW c0 c1 c2 c3
            obtain ⟨c0, c1, c2, c3⟩ := four_cells HB5.out
            have HB6 := Aside0.mk (blk_alloc HB5.out (Obj.cells #[Value.string { data := #[] }, Value.bool false] 34))
            obtain ⟨d0, d1, d2, d3⟩ := four_cells HB6.out
            have HL6 := Aside0.mk (HL5.out.below (below_alloc (Below.refl _ _) (Obj.cells #[Value.string { data := #[] }, Value.bool false] 34)))
            go_wp2_with (first
              | (at_lookup; refine TabAt.look0 HL5.out.wrote rfl _ _ 28 34 rfl Try.underlying28 (zero34 _) rfl key rfl HS.out.1 HF.out ?_)
              | (at_lookup; refine TabAt.look1 HL6.out.noted rfl _ _ 28 34 rfl Try.underlying28 (zero34 _) rfl key rfl HS.out.1 HF2.out ?_))
            go_roundg (gk - 1)
            case measure => omega
            case rel => exact ⟨k + 1, sr2, sw2, fr2, fw2, by go_num, by omega, by omega, hkq2, ⟨HL5.out.below (below_alloc (Below.refl _ _) _)⟩⟩
          | none =>
            have HF2 := Aside0.mk hfr
            obtain ⟨z, hz, hz0⟩ : ∃ z : Int, getV fr2 fw2 key = (it0, z) ∧ (z == 0) = false := by
              unfold getV
              split
              · exact ⟨3, rfl, rfl⟩
              · rw [hfw, hfr]; exact ⟨240, rfl, rfl⟩
            rw [hz] at HGW
            clear hfw hfr hz
            go_wp2_with fail
            refine HGW.out.mono ?_
            rintro e w5 ⟨rfl, hb⟩
            have HL5 := Aside0.mk (HLA.out.below hb)
            have HB5 := Aside0.mk (blk_below HBX2.out hb)
            clear hb HGW c0 c1 c2 c3
            obtain ⟨c0, c1, c2, c3⟩ := four_cells HB5.out
            have HB6 := Aside0.mk (blk_alloc HB5.out (Obj.cells #[Value.string { data := #[] }, Value.bool false] 34))
            obtain ⟨d0, d1, d2, d3⟩ := four_cells HB6.out
            have HL6 := Aside0.mk (HL5.out.below (below_alloc (Below.refl _ _) (Obj.cells #[Value.string { data := #[] }, Value.bool false] 34)))
            go_wp2_with (first
              | (at_lookup; refine TabAt.look0 HL5.out.wrote rfl _ _ 28 34 rfl Try.underlying28 (zero34 _) rfl key rfl HS.out.1 HF.out ?_)
              | (at_lookup; refine TabAt.look0 HL6.out.noted rfl _ _ 28 34 rfl Try.underlying28 (zero34 _) rfl key rfl HS.out.1 HF2.out ?_))
            go_roundg (gk - 1)
            case measure => omega
            case rel => exact ⟨k + 1, sr2, sw2, fr2, fw2, by go_num, by omega, by omega, hkq2, ⟨HL5.out.below (below_alloc (Below.refl _ _) _)⟩⟩
    · have h100 : k = l.length ∨ (k < l.length ∧ k = 100) := by omega
      have HAPb := HAP
      rcases h100 with rfl | ⟨h100, rfl⟩
      · go_wp2_with fail
        refine (reads_walk wr b br bw 5 9 _ sr sw fr fw HLA.out.txn (by omega)).mono ?_
        rintro e w5 ⟨v, ks, rfl, h1, h2, h3, h4, h5⟩
        obtain ⟨A4, c4, rfl, hlc4, hC4⟩ := Kd.R_reads h4
        have hm4 := Kd.C_max hC4
        have e4 : (bytesOfL ks).length = sr := by unfold bytesOfL; rw [List.length_map, h3]
        rw [e4] at hm4 ⊢
        have HL5 := Aside0.mk (HLA.out.below h5)
        clear h1 h2 h3 h4 h5 hlc4 hC4 e4 HLA
        go_wp2_with (first
          | (at_len; refine TabAt.len HL5.out.noted rfl _ 28 34 rfl Try.underlying28 rfl ?_))
        refine (writes_walk w5 b br bw 5 9 _ sr sw fr fw HL5.out.txn (by omega)).mono ?_
        rintro e w6 ⟨v6, ks6, rfl, h1, h2, h3, h4, h5⟩
        obtain ⟨A6, c6, rfl, hlc6, hC6⟩ := Kd.R_reads h4
        have hm6 := Kd.C_max hC6
        have e6 : (bytesOfL ks6).length = sw := by unfold bytesOfL; rw [List.length_map, h3]
        rw [e6] at hm6 ⊢
        have HL6 := Aside0.mk (HL5.out.below h5)
        clear h1 h2 h3 h4 h5 hlc6 hC6 e6 HL5
        go_wp2_with (first
          | (at_len; refine unguard (by rfl) ?_; refine TabAt.len HL6.out.wrote rfl _ 28 34 rfl Try.underlying28 rfl ?_))
        go_ret
        exact ⟨by simp, HL6.out.bel⟩
      · go_wp2_with fail
        refine (reads_walk wr b br bw 5 9 _ sr sw fr fw HLA.out.txn (by omega)).mono ?_
        rintro e w5 ⟨v, ks, rfl, h1, h2, h3, h4, h5⟩
        obtain ⟨A4, c4, rfl, hlc4, hC4⟩ := Kd.R_reads h4
        have hm4 := Kd.C_max hC4
        have e4 : (bytesOfL ks).length = sr := by unfold bytesOfL; rw [List.length_map, h3]
        rw [e4] at hm4 ⊢
        have HL5 := Aside0.mk (HLA.out.below h5)
        clear h1 h2 h3 h4 h5 hlc4 hC4 e4 HLA
        go_wp2_with (first
          | (at_len; refine TabAt.len HL5.out.noted rfl _ 28 34 rfl Try.underlying28 rfl ?_))
        refine (writes_walk w5 b br bw 5 9 _ sr sw fr fw HL5.out.txn (by omega)).mono ?_
        rintro e w6 ⟨v6, ks6, rfl, h1, h2, h3, h4, h5⟩
        obtain ⟨A6, c6, rfl, hlc6, hC6⟩ := Kd.R_reads h4
        have hm6 := Kd.C_max hC6
        have e6 : (bytesOfL ks6).length = sw := by unfold bytesOfL; rw [List.length_map, h3]
        rw [e6] at hm6 ⊢
        have HL6 := Aside0.mk (HL5.out.below h5)
        clear h1 h2 h3 h4 h5 hlc6 hC6 e6 HL5
        go_wp2_with (first
          | (at_len; refine unguard (by rfl) ?_; refine TabAt.len HL6.out.wrote rfl _ 28 34 rfl Try.underlying28 rfl ?_))
        go_ret
        exact ⟨by simp, HL6.out.bel⟩
end Go.Proofs.Yteibcojjbcihbaa.Txn
