/- The chapter's example answers true. -/
import Derived.Test.YteibcojjbcihbaaHTxn2
namespace Go.Proofs.Yteibcojjbcihbaa.Txn
open Go.RowKit Go.Proofs.YteibcojjbcihbaaW.PrintWords Go.Proofs.YteibcojjbcihbaaW.PrintLast Go.Proofs.YteibcojjbcihbaaW.PrintMore Go.Maps Mk
attribute [local go_sem] Mk.str_leq Mk.str_gtr Mk.str_geq
set_option linter.unusedVariables false
set_option linter.unusedSimpArgs false
theorem tl0 : (⟨#[]⟩ : ByteArray).toList = [] := by simp [ByteArray.toList, ByteArray.toList.loop, ByteArray.size]
theorem tl1 (x : UInt8) : (⟨#[x]⟩ : ByteArray).toList = [x] := by
  simp [ByteArray.toList, ByteArray.toList.loop, ByteArray.size, ByteArray.get!]
def t0 : Tab := fun _ => none
def t1 : Tab := tput t0 [107] (⟨#[120]⟩, true)
def t2 : Tab := tput t0 [107] (⟨#[121]⟩, true)
def t3 : Tab := tput t2 [107] it0
theorem note_e : noteV t0 0 ⟨#[107]⟩ ⟨#[120]⟩ true = 0 := by simp [noteV, wrongV, keyB, tl1, ByteArray.size, t0]
theorem get_e1 : getV t1 t0 ⟨#[107]⟩ = ((⟨#[120]⟩, true), 0) := by simp [getV, keyB, tl1, ByteArray.size, t0, t1, tput]
theorem put_e : writeV t0 0 ⟨#[107]⟩ ⟨#[121]⟩ = 0 := by simp [writeV, wrongV, keyB, tl1, ByteArray.size, t0]
theorem get_e2 : getV t1 t2 ⟨#[107]⟩ = ((⟨#[121]⟩, true), 0) := by simp [getV, keyB, tl1, ByteArray.size, t2, tput]
theorem del_e : writeV t2 1 ⟨#[107]⟩ ⟨#[]⟩ = 0 := by simp [writeV, wrongV, keyB, tl1, ByteArray.size, t2, tput]
theorem get_e3 : getV t1 t3 ⟨#[107]⟩ = ((⟨#[]⟩, false), 0) := by simp [getV, keyB, tl1, ByteArray.size, t3, tput, it0]
theorem tl5 : (⟨#[111, 116, 104, 101, 114]⟩ : ByteArray).toList.isEmpty = false := by simp [ByteArray.toList, ByteArray.toList.loop, ByteArray.size]
theorem get_e4 : getV t1 t3 ⟨#[111, 116, 104, 101, 114]⟩ = ((⟨#[]⟩, false), 240) := by simp [getV, keyB, tl5, ByteArray.size, t3, t2, t1, t0, tput, it0]
set_option maxRecDepth 100000 in
set_option maxHeartbeats 4000000 in
theorem works_walk (w : World) : Calls Try.prog 10 #[] w fun e w' => e = .returned (.bool true) ∧ Below w.heap.size w w' := by
  go_enter Try.func10, Try.ntmps10
  go_wp2_with fail
  refine (new_walk w 5 9 (by decide)).mono ?_
  rintro e w1 ⟨hb, b, br, bw, hb1, hb2, hb3, rfl, ht⟩
  have HB := Aside0.mk (And.intro hb (And.intro hb1 (And.intro hb2 hb3)))
  have HT := Aside0.mk ht
  clear hb hb1 hb2 hb3 ht
  go_wp2_with fail
  have HB1 := Aside0.mk HB.out.1
  have HL := Aside0.mk HB.out.2
  have HT1 := HT
  clear HT HB
  have h2 := note_walk w1 b br bw 5 9 0 0 0 t0 t0 HT1.out ⟨#[107]⟩ ⟨#[120]⟩ true (by decide) (by decide) (by decide)
  rw [note_e] at h2
  refine h2.mono ?_
  rintro e w2 ⟨rfl, hg, ht⟩
  have ht' : TxnAt w2 b br bw 5 9 1 1 0 t1 t0 := ht
  have HB2 : Aside0 (Below w.heap.size w w2) := ⟨HB1.out.grown hg HB1.out.size (fun j hj => by cases hj; exact HL.out.2.1)⟩
  have HT2 := Aside0.mk ht'
  clear hg ht ht' h2 HT1 HB1
  go_wp2_with fail
  have h3 := get_walk w2 b br bw 5 9 1 1 0 t1 t0 HT2.out ⟨#[107]⟩ (by decide)
  rw [get_e1] at h3
  refine h3.mono ?_
  rintro e w3 ⟨rfl, hb⟩
  have HB3 : Aside0 (Below w.heap.size w w3) := ⟨HB2.out.trans (hb.mono HB2.out.size)⟩
  have HT3 := Aside0.mk (HT2.out.below hb)
  clear hb h3 HT2 HB2
  go_wp2_with fail
  have h4 := put_walk w3 b br bw 5 9 1 1 0 t1 t0 HT3.out ⟨#[107]⟩ ⟨#[121]⟩ (by decide) (by decide) (by decide)
  rw [put_e] at h4
  refine h4.mono ?_
  rintro e w4 ⟨rfl, hg, ht⟩
  have ht' : TxnAt w4 b br bw 5 9 2 1 1 t1 t2 := ht
  have HB4 : Aside0 (Below w.heap.size w w4) := ⟨HB3.out.grown hg HB3.out.size (fun j hj => by cases hj; exact HL.out.2.2)⟩
  have HT4 := Aside0.mk ht'
  clear hg ht ht' h4 HT3 HB3
  go_wp2_with fail
  have h5 := get_walk w4 b br bw 5 9 2 1 1 t1 t2 HT4.out ⟨#[107]⟩ (by decide)
  rw [get_e2] at h5
  refine h5.mono ?_
  rintro e w5 ⟨rfl, hb⟩
  have HB5 : Aside0 (Below w.heap.size w w5) := ⟨HB4.out.trans (hb.mono HB4.out.size)⟩
  have HT5 := Aside0.mk (HT4.out.below hb)
  clear hb h5 HT4 HB4
  go_wp2_with fail
  have h6 := delete_walk w5 b br bw 5 9 2 1 1 t1 t2 HT5.out ⟨#[107]⟩ (by decide) (by decide)
  rw [del_e] at h6
  refine h6.mono ?_
  rintro e w6 ⟨rfl, hg, ht⟩
  have ht' : TxnAt w6 b br bw 5 9 3 1 1 t1 t3 := ht
  have HB6 : Aside0 (Below w.heap.size w w6) := ⟨HB5.out.grown hg HB5.out.size (fun j hj => by cases hj; exact HL.out.2.2)⟩
  have HT6 := Aside0.mk ht'
  clear hg ht ht' h6 HT5 HB5
  go_wp2_with fail
  have h7 := get_walk w6 b br bw 5 9 3 1 1 t1 t3 HT6.out ⟨#[107]⟩ (by decide)
  rw [get_e3] at h7
  refine h7.mono ?_
  rintro e w7 ⟨rfl, hb⟩
  have HB7 : Aside0 (Below w.heap.size w w7) := ⟨HB6.out.trans (hb.mono HB6.out.size)⟩
  have HT7 := Aside0.mk (HT6.out.below hb)
  clear hb h7 HT6 HB6
  go_wp2_with fail
  have h8 := get_walk w7 b br bw 5 9 3 1 1 t1 t3 HT7.out ⟨#[111, 116, 104, 101, 114]⟩ (by decide)
  rw [get_e4] at h8
  refine h8.mono ?_
  rintro e w8 ⟨rfl, hb⟩
  have HB8 : Aside0 (Below w.heap.size w w8) := ⟨HB7.out.trans (hb.mono HB7.out.size)⟩
  have HT8 := Aside0.mk (HT7.out.below hb)
  clear hb h8 HT7 HB7
  go_wp2_with fail
  go_ret
  exact ⟨rfl, HB8.out⟩
end Go.Proofs.Yteibcojjbcihbaa.Txn
