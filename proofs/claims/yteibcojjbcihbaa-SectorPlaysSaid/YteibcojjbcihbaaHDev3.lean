/- A device: New, Wipe, Flush; fit. -/
import Derived.Test.YteibcojjbcihbaaHDev2
import Derived.Test.YteibcojjbcihbaaHRep
namespace Go.Proofs.Yteibcojjbcihbaa.Sec
open Go.RowKit Go.Proofs.YteibcojjbcihbaaW.PrintWords Go.Proofs.YteibcojjbcihbaaW.PrintLast Go.Proofs.YteibcojjbcihbaaW.PrintMore Go.Maps Go.Proofs.Yteibcojjbcihbaa.Mk
open Go.Proofs.Yteibcojjbcihbaa.Txn (unguard blk_newI)
open Go.Lib (byteCells byteCells_length)
set_option linter.unusedVariables false
set_option linter.unusedSimpArgs false
theorem made_zeros (n : Nat) : madeCells #[(Value.int .u8 0)] n = (byteCells (zeros n)).toArray := by
  apply Array.ext'
  rw [toList_toArray]
  apply List.ext_getElem?
  intro i
  simp [madeCells, byteCells, zeros, Nat.mod_one]
  rw [List.getElem?_replicate]
  by_cases hi : i < n <;> simp [hi]
theorem zeros_len (n : Nat) : (zeros n).length = n := by simp [zeros]
/-- 'make([]byte, n)' -/
theorem run_make_bytes (n : Nat) (hn : n ≤ 281474976710656) (w : World) : (Instr.makeSlice 97 (.int .i64 (n : Int)) (.int .i64 (n : Int))).run Try.prog w = .ok (.slice (some ⟨w.heap.size, 0, none⟩) n n) (w.alloc (.cells (byteCells (zeros n)).toArray 5)) := by
  have := run_make_row' (P := Try.prog) 97 5 (.int .u8 0) 1 Try.underlying97 info5' rfl .i64 .i64 n (by omega) (by omega) w
  rw [made_zeros] at this
  exact this
/-- A text made 64 long. -/
def fitV (s : ByteArray) : ByteArray := ⟨(s.data.toList.take 64 ++ (zeros 64).drop (s.data.toList.take 64).length).toArray⟩
theorem fit_size (s : ByteArray) : (fitV s).size = 64 := by
  show (List.toArray _).size = 64
  rw [List.size_toArray, List.length_append, List.length_drop, zeros_len, List.length_take]
  omega
theorem fit_toList (s : ByteArray) : (fitV s).data.toList = s.data.toList.take 64 ++ (zeros 64).drop (s.data.toList.take 64).length := by
  show (List.toArray _).toList = _
  rw [List.toList_toArray]
set_option maxRecDepth 100000 in
set_option maxHeartbeats 1000000 in
theorem fit_walk (w : World) (s : ByteArray) : Calls Try.prog 26 #[.string s] w fun e w' => e = .returned (.string (fitV s)) ∧ Below w.heap.size w w' := by
  obtain ⟨Z, hZ⟩ : ∃ Z, Z = (byteCells (zeros 64)).toArray := ⟨_, rfl⟩
  have hmk : ∀ w, (Instr.makeSlice 97 (.int .i64 64) (.int .i64 64)).run Try.prog w = .ok (.slice (some ⟨w.heap.size, 0, none⟩) 64 64) (w.alloc (.cells Z 5)) := fun w => by rw [hZ]; exact run_make_bytes 64 (by decide) w
  have HR : Aside0 (RowB (w.alloc (.cells Z 5)) w.heap.size (zeros 64)) := ⟨by rw [hZ]; exact blk_new _ _⟩
  have HB : Aside0 (Below w.heap.size w (w.alloc (.cells Z 5))) := ⟨below_alloc (Below.refl _ _) _⟩
  clear hZ
  obtain ⟨L, hL⟩ : ∃ L, L = (zeros 64).take 0 ++ s.data.toList.take 64 ++ (zeros 64).drop (0 + (s.data.toList.take 64).length) := ⟨_, rfl⟩
  have hlen : L.length = 64 := by rw [hL]; simp only [List.length_append, List.length_take, List.length_drop, zeros_len]; omega
  have HF : Aside0 ((⟨((L.drop 0).take 64).toArray⟩ : ByteArray) = fitV s) := ⟨by rw [List.drop_zero, List.take_of_length_le (by omega), hL]; unfold fitV; rw [List.take_zero, List.nil_append, Nat.zero_add]⟩
  have HL := Aside0.mk (And.intro hL hlen)
  clear hL hlen
  go_enter Try.func26, Try.ntmps26
  go_wp2_with (first
    | (refine RowB.copy HR.out rfl _ _ rfl 0 64 64 rfl s rfl (by rw [zeros_len]; decide) ?_; intro w2 hr2 hg2; rw [← HL.out.1] at hr2; have ht2 := hr2.text 0 64 64 (by rw [HL.out.2]; decide); have HB2 : Aside0 (Below w.heap.size w w2) := ⟨HB.out.grown hg2 HB.out.size (fun j hj => by cases hj; exact Nat.le_refl _)⟩; clear hr2 hg2))
  go_ret
  exact ⟨by rw [← HF.out]; rfl, HB2.out⟩
set_option maxRecDepth 100000 in
set_option maxHeartbeats 1000000 in
/-- New, at a size that may be. -/
theorem newD_walk (w : World) (n : Nat) (h1 : 1 ≤ n) (h2 : n ≤ 2048) : Calls Try.prog 24 #[.int .i64 (n : Int)] w fun e w' => Below w.heap.size w w' ∧ ∃ b g m : Nat, w.heap.size ≤ b ∧ w.heap.size ≤ g ∧ w.heap.size ≤ m ∧
      e = .returned (.tuple #[.pointer (some ⟨b, 0, none⟩), .int .i64 0]) ∧ DevAt w' b g m 0 0 (List.replicate n (zeros 64)) (fun _ => none) 0 false := by
  have hmm := @run_makeMap Try.prog
  obtain ⟨Z, hZ⟩ : ∃ Z, Z = (byteCells (zeros (64 * n))).toArray := ⟨_, rfl⟩
  have hmk : ∀ w, (Instr.makeSlice 97 (.int .i64 ((n : Int) * 64)) (.int .i64 ((n : Int) * 64))).run Try.prog w = .ok (.slice (some ⟨w.heap.size, 0, none⟩) (64 * n) (64 * n)) (w.alloc (.cells Z 5)) := fun w => by
    have := run_make_bytes (64 * n) (by omega) w
    rw [← hZ, Int.natCast_mul, Int.mul_comm] at this
    exact this
  have HZ := Aside0.mk hZ
  clear hZ
  go_enter Try.func24, Try.ntmps24
  go_wp2
  go_ret2
  have hS : (List.replicate n (zeros 64)).length = n := by simp
  have hall : ∀ s, s ∈ List.replicate n (zeros 64) → s.length = 64 := fun s hs => by rw [(List.mem_replicate.1 hs).2, zeros_len]
  have hfl : (List.replicate n (zeros 64)).flatten = zeros (64 * n) := by
    unfold zeros
    rw [List.flatten_replicate_replicate, Nat.mul_comm]
  refine ⟨below_alloc (below_alloc (below_alloc (Below.refl _ _) _) _) _, w.heap.size + 1 + 1, w.heap.size, w.heap.size + 1, by omega, by omega, by omega, rfl, ?_, ?_, ?_, ⟨hall, by rw [hS]; exact h2, by rw [hS]; omega, fun _ _ h => by cases h⟩, by decide⟩
  · rw [hS]
    repeat (first | (refine blk_newI ?_; simp; done) | refine blk_alloc ?_ _)
  · rw [hfl]
    unfold RowB
    rw [← HZ.out]
    repeat (first | (refine blk_newI ?_; simp; done) | refine blk_alloc ?_ _)
  · have := (MapI.made (w.alloc (.cells Z 5))).below (below_alloc (Below.refl _ _) (.cells #[.slice (some ⟨w.heap.size, 0, none⟩) (64 * n) (64 * n), .map (some (w.heap.size + 1)), .int .i64 0, .bool false] 100))
    simpa using this
section
variable {w : World} {b g m N sz : Nat} {S : List (List UInt8)} {f : Cache} {fuse : Int} {down : Bool}
set_option maxRecDepth 100000 in
set_option maxHeartbeats 1000000 in
/-- Wipe. -/
theorem wipe_walk (h : DevAt w b g m N sz S f fuse down) : Calls Try.prog 37 #[.pointer (some ⟨b, 0, none⟩)] w fun e w' => e = .returned (.tuple #[]) ∧ Chg w w' b g m ∧ DevAt w' b g m 0 0 (List.replicate S.length (zeros 64)) (fun _ => none) 0 false := by
  obtain ⟨c0, c1, c2, c3⟩ := h.cells
  have H := Aside0.mk h
  have HL : Aside0 (S.flatten.length = 64 * S.length) := ⟨flat_len S h.ok.len⟩
  have hpos : 0 < S.flatten.length := by rw [HL.out]; have := h.ok.some_; omega
  have HP := Aside0.mk hpos
  clear h hpos
  go_enter Try.func37, Try.ntmps37
  go_wp2_with (first
    | (refine RowB.clear H.out.row rfl _ rfl (64 * S.length) (by rw [HL.out]; rfl) HP.out ?_; intro w1 hr1 hg1; rw [HL.out] at hr1; have HR1 := Aside0.mk (And.intro hr1 hg1); clear hr1 hg1)
    | fail)
  have hS : (List.replicate S.length (zeros 64)).length = S.length := by simp
  have H1 : Aside0 (DevAt w1 b g m N sz (List.replicate S.length (zeros 64)) f fuse down) := ⟨⟨by rw [hS]; exact blk_grown H.out.box HR1.out.2 (some_ne H.out.apart.1), by
    have hfl : (List.replicate S.length (zeros 64)).flatten = zeros (64 * S.length) := by
      unfold zeros
      rw [List.flatten_replicate_replicate, Nat.mul_comm]
    rw [hfl]
    exact HR1.out.1, H.out.cache.kept HR1.out.2 (some_ne H.out.apart.2.2.symm), ⟨fun s hs => by rw [(List.mem_replicate.1 hs).2, zeros_len], by rw [hS]; exact H.out.ok.few, by rw [hS]; exact H.out.ok.some_, fun i s h => by rw [hS]; exact H.out.ok.cached i s h⟩, H.out.fuse⟩⟩
  refine (up_walk H1.out).mono ?_
  rintro e w2 ⟨rfl, hc, hd⟩
  have H2 := Aside0.mk (And.intro hc hd)
  clear hc hd hS
  go_wp2
  go_end0
  exact ⟨rfl, (Chg.of HR1.out.2 (fun k e => .inr (.inl (by injection e with e; exact e.symm)))).trans H2.out.1, H2.out.2⟩
end
end Go.Proofs.Yteibcojjbcihbaa.Sec
