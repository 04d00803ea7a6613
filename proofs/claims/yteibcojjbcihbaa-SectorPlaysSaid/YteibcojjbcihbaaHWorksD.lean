/- The chapter's example of the device answers true. -/
import Derived.Test.YteibcojjbcihbaaHCrash
namespace Go.Proofs.Yteibcojjbcihbaa.Sec
open Go.RowKit Go.Proofs.YteibcojjbcihbaaW.PrintWords Go.Proofs.YteibcojjbcihbaaW.PrintLast Go.Proofs.YteibcojjbcihbaaW.PrintMore Go.Maps Go.Proofs.Yteibcojjbcihbaa.Mk
open Go.Proofs.Yteibcojjbcihbaa.Txn (unguard blk_newI)
set_option linter.unusedVariables false
set_option linter.unusedSimpArgs false
theorem C_one1 {α : Type} {d : Kd α} {W : World} {g t : Nat} {cs : Array Value} {x : α} (h : W.heap[g]? = some (.cells cs t (0, 0))) (hk : d.K W x cs.toList) : d.C W (some ⟨g, 0, none⟩) 1 [x] := by
  refine ⟨rfl, by decide, fun _ => ⟨_, rfl, fun j p hj => ?_⟩⟩
  have hj0 : j = 0 := by
    have := (List.getElem?_eq_some_iff.1 hj).1
    simpa using this
  subst hj0
  obtain rfl : x = p := by simpa using hj
  refine ⟨cs.toList, d.K_len hk, hk, fun i u hu => ?_⟩
  have e : (⟨g, 0, none⟩ : Addr).add (0 * d.sz + i) = ⟨g, i, none⟩ := by cases i <;> simp [Addr.add]
  rw [e, blk_cell h i]
  simpa using hu
def rep (x : UInt8) (n : Nat) : ByteArray := ⟨(Lib.repeatL [x] n).toArray⟩
theorem rep_walk (w : World) (x : UInt8) (n : Nat) (hn : n ≤ 1000) : Calls Try.prog 47 #[.string ⟨#[x]⟩, .int .i64 (n : Int)] w fun e w' => e = .returned (.string (rep x n)) ∧ Below w.heap.size w w' :=
  Try.strings_Repeat ⟨#[x]⟩ n w (by omega) (by show 1 * n ≤ _; omega)
def fA : Cache := cput (fun _ => none) 0 (rep 97 64)
def fB : Cache := cput (fun _ => none) 0 (rep 98 64)
def S0 : List (List UInt8) := List.replicate 2 (zeros 64)
def S1 : List (List UInt8) := [Lib.repeatL [97] 64, zeros 64]
theorem one_key {ks : List Int} {s : ByteArray} (h : KeysOf ks (cput (fun _ => none) 0 s)) (hl : ks.length = 1) : ks = [0] := by
  match ks, hl with
  | [x], _ =>
    have := (h.mem x).1 List.mem_cons_self
    unfold cput at this
    split at this
    · rename_i e
      rw [e]
    · cases this
theorem sizeA : (rep 97 64).size = 64 := by decide
theorem sizeB : (rep 98 64).size = 64 := by decide
theorem flush_A : flushed S0 fA = S1 := by decide
theorem torn_B : torn S1 fB [0] [67] 1 = [Lib.repeatL [98] 3 ++ Lib.repeatL [97] 61, zeros 64] := by decide
set_option maxRecDepth 100000 in
set_option maxHeartbeats 4000000 in
theorem worksD_walk (w : World) : Calls Try.prog 25 #[] w fun e w' => e = .returned (.bool true) ∧ Below w.heap.size w w' := by
  go_enter Try.func25, Try.ntmps25
  go_wp2_with fail
  refine (newD_walk w 2 (by decide) (by decide)).mono ?_
  rintro e w1 ⟨hb, b, g, m, hb1, hb2, hb3, rfl, hd⟩
  have HL := Aside0.mk (And.intro hb1 (And.intro hb2 hb3))
  have HB1 := Aside0.mk hb
  have H1 : Aside0 (DevAt w1 b g m 0 0 S0 (fun _ => none) 0 false) := ⟨hd⟩
  clear hb hb1 hb2 hb3 hd
  go_wp2_with fail
  refine (rep_walk w1 97 64 (by decide)).mono ?_
  rintro e w2 ⟨rfl, hb⟩
  have H2 := Aside0.mk (H1.out.below hb)
  have HB2 : Aside0 (Below w.heap.size w w2) := ⟨HB1.out.trans (hb.mono HB1.out.size)⟩
  clear hb H1 HB1
  go_wp2_with fail
  have hw := writeD_walk H2.out 0 (rep 97 64) (by decide)
  rw [show writeD S0.length 0 false 0 (rep 97 64) = 0 from by decide, show writeB S0.length false 0 (rep 97 64) = true from by decide, show burned 0 false = (0, false) from rfl, if_pos rfl, if_pos rfl, if_pos rfl, if_pos rfl] at hw
  refine hw.mono ?_
  rintro e w3 ⟨rfl, hc, hd⟩
  have H3 : Aside0 (DevAt w3 b g m 1 1 S0 fA 0 false) := ⟨hd⟩
  have HB3 : Aside0 (Below w.heap.size w w3) := ⟨hc.below HB2.out HB2.out.size HL.out.1 HL.out.2.1 HL.out.2.2⟩
  clear hw hc hd H2 HB2
  go_wp2_with fail
  refine (flush_good H3.out rfl).mono ?_
  rintro e w4 ⟨rfl, hc, hd⟩
  rw [flush_A] at hd
  have H4 : Aside0 (DevAt w4 b g m 0 0 S1 (fun _ => none) 0 false) := ⟨hd⟩
  have HB4 : Aside0 (Below w.heap.size w w4) := ⟨hc.below HB3.out HB3.out.size HL.out.1 HL.out.2.1 HL.out.2.2⟩
  clear hc hd H3 HB3
  go_wp2_with fail
  refine (rep_walk w4 98 64 (by decide)).mono ?_
  rintro e w5 ⟨rfl, hb⟩
  have H5 := Aside0.mk (H4.out.below hb)
  have HB5 : Aside0 (Below w.heap.size w w5) := ⟨HB4.out.trans (hb.mono HB4.out.size)⟩
  clear hb H4 HB4
  go_wp2_with fail
  have hw := writeD_walk H5.out 0 (rep 98 64) (by decide)
  rw [show writeD S1.length 0 false 0 (rep 98 64) = 0 from by decide, show writeB S1.length false 0 (rep 98 64) = true from by decide, show burned 0 false = (0, false) from rfl, if_pos rfl, if_pos rfl, if_pos rfl, if_pos rfl] at hw
  refine hw.mono ?_
  rintro e w6 ⟨rfl, hc, hd⟩
  have H6 : Aside0 (DevAt w6 b g m 1 1 S1 fB 0 false) := ⟨hd⟩
  have HB6 : Aside0 (Below w.heap.size w w6) := ⟨hc.below HB5.out HB5.out.size HL.out.1 HL.out.2.1 HL.out.2.2⟩
  clear hw hc hd H5 HB5
  go_wp2_with fail
  have H7 := Aside0.mk (H6.out.below (below_alloc (Below.refl _ _) (Obj.cells #[Value.int IntKind.i64 67] 3)))
  have HB7 : Aside0 (Below w.heap.size w (w6.alloc (Obj.cells #[Value.int IntKind.i64 67] 3))) := ⟨below_alloc HB6.out _⟩
  have HPK : ∀ w', Chg (w6.alloc (Obj.cells #[Value.int IntKind.i64 67] 3)) w' b g m → Kd.C (Kd.int .i64) w' (some ⟨w6.heap.size, 0, none⟩) [(67 : Int)].length [67] := fun w' hc => by
    have hlt := H6.out.lt
    have hbl := (hc.block w6.heap.size (by simp) (by omega) (by omega) (by omega)).trans (blk_new w6 (Obj.cells #[Value.int IntKind.i64 67] 3))
    exact C_one1 hbl rfl
  refine (crash_walk H7.out (by decide) (some ⟨w6.heap.size, 0, none⟩) 1 [67] HPK).mono ?_
  rintro e w8 ⟨rfl, hc, ks, hks, hkl, hd⟩
  rw [one_key hks hkl] at hd
  rw [show ([0] : List Int).length = 1 from rfl, torn_B] at hd
  have H8 := Aside0.mk hd
  have HB8 : Aside0 (Below w.heap.size w w8) := ⟨hc.below HB7.out HB7.out.size HL.out.1 HL.out.2.1 HL.out.2.2⟩
  clear hc hks hkl hd H7 HB7 H6 HB6 HPK
  go_wp2_with fail
  have hr := readD_walk H8.out 0
  obtain ⟨X, hX⟩ : ∃ X : ByteArray, X = ⟨(Lib.repeatL [98] 3 ++ Lib.repeatL [97] 61).toArray⟩ := ⟨_, rfl⟩
  rw [show readD [Lib.repeatL [98] 3 ++ Lib.repeatL [97] 61, zeros 64] (fun _ => none) false 0 = (⟨(Lib.repeatL [98] 3 ++ Lib.repeatL [97] 61).toArray⟩, 0) from by decide, ← hX] at hr
  have heq : (⟨#[98, 98, 98]⟩ ++ rep 97 61 : ByteArray).toList = X.toList := by
    rw [hX, ByteArray.toList_eq, ByteArray.toList_eq]
    decide
  have hsz61 : (rep 97 61).size = 61 := by decide
  clear hX
  refine hr.mono ?_
  rintro e w9 ⟨rfl, hb⟩
  have H9 := Aside0.mk (H8.out.below hb)
  have HB9 : Aside0 (Below w.heap.size w w9) := ⟨HB8.out.trans (hb.mono HB8.out.size)⟩
  clear hb hr H8 HB8
  go_wp2_with fail
  refine (rep_walk w9 97 61 (by decide)).mono ?_
  rintro e w10 ⟨rfl, hb⟩
  have H10 := Aside0.mk (H9.out.below hb)
  have HB10 : Aside0 (Below w.heap.size w w10) := ⟨HB9.out.trans (hb.mono HB9.out.size)⟩
  clear hb H9 HB9
  go_wp2_with fail
  refine (dirty_walk H10.out).mono ?_
  rintro e w11 ⟨rfl, hb⟩
  have HB11 : Aside0 (Below w.heap.size w w11) := ⟨HB10.out.trans (hb.mono HB10.out.size)⟩
  clear hb H10 HB10
  go_wp2
  go_ret
  exact ⟨rfl, HB11.out⟩
end Go.Proofs.Yteibcojjbcihbaa.Sec
