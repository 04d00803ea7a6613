/- A device in memory; its small methods. -/
import Derived.Test.YteibcojjbcihbaaHDev
namespace Go.Proofs.Yteibcojjbcihbaa.Sec
open Go.RowKit Go.Proofs.YteibcojjbcihbaaW.PrintWords Go.Proofs.YteibcojjbcihbaaW.PrintLast Go.Proofs.YteibcojjbcihbaaW.PrintMore Go.Maps Go.Proofs.Yteibcojjbcihbaa.Mk
open Go.Proofs.Yteibcojjbcihbaa.Txn (unguard blk_newI)
set_option linter.unusedVariables false
set_option linter.unusedSimpArgs false
/-- Sectors: each is 64 bytes. -/
structure SecOk (S : List (List UInt8)) (f : Cache) : Prop where
  len : ∀ s, s ∈ S → s.length = 64
  few : S.length ≤ 2048
  some_ : 0 < S.length
  cached : ∀ i s, f i = some s → 0 ≤ i ∧ i < S.length ∧ s.size = 64
theorem flat_len : ∀ (S : List (List UInt8)), (∀ s, s ∈ S → s.length = 64) → S.flatten.length = 64 * S.length
  | [], _ => rfl
  | s :: S, h => by
    rw [List.flatten_cons, List.length_append, flat_len S (fun x hx => h x (List.mem_cons_of_mem _ hx)), h s List.mem_cons_self, List.length_cons]
    omega
theorem flat_at : ∀ (S : List (List UInt8)) (i : Nat) (h : i < S.length), (∀ s, s ∈ S → s.length = 64) → (S.flatten.drop (64 * i)).take 64 = S[i]
  | s :: S, 0, _, h => by
    have hs := h s List.mem_cons_self
    rw [List.flatten_cons, Nat.mul_zero, List.drop_zero, List.take_append_of_le_length (by omega), List.take_of_length_le (by omega)]
    rfl
  | s :: S, i + 1, hi, h => by
    have hs := h s List.mem_cons_self
    rw [List.flatten_cons, show 64 * (i + 1) = s.length + 64 * i by omega, ← List.drop_drop, List.drop_left]
    exact flat_at S i (by simpa using hi) (fun x hx => h x (List.mem_cons_of_mem _ hx))
/-- n bytes of t over sector i. -/
theorem flat_put : ∀ (S : List (List UInt8)) (i : Nat) (h : i < S.length) (t : List UInt8) (n : Nat), (∀ s, s ∈ S → s.length = 64) → t.length = n → n ≤ 64 →
    S.flatten.take (64 * i) ++ t ++ S.flatten.drop (64 * i + n) = (S.set i (t ++ S[i].drop n)).flatten
  | s :: S, 0, _, t, n, h, ht, hn => by
    have hs := h s List.mem_cons_self
    rw [List.flatten_cons, Nat.mul_zero, List.take_zero, List.nil_append, Nat.zero_add, List.set_cons_zero, List.flatten_cons, List.drop_append_of_le_length (by omega), List.append_assoc]
    rfl
  | s :: S, i + 1, hi, t, n, h, ht, hn => by
    have hs := h s List.mem_cons_self
    have ih := flat_put S i (by simpa using hi) t n (fun x hx => h x (List.mem_cons_of_mem _ hx)) ht hn
    rw [List.flatten_cons, List.set_cons_succ, List.flatten_cons]
    have e1 : 64 * (i + 1) = s.length + 64 * i := by omega
    rw [e1, List.take_append, List.take_of_length_le (show s.length ≤ s.length + 64 * i by omega), Nat.add_sub_cancel_left, Nat.add_assoc, ← List.drop_drop, List.drop_left, List.append_assoc, List.append_assoc, ← List.append_assoc (S.flatten.take _), ih]
    rfl
structure DevAt (w : World) (b g m N sz : Nat) (S : List (List UInt8)) (f : Cache) (fuse : Int) (down : Bool) : Prop where
  box : w.heap[b]? = some (.cells #[.slice (some ⟨g, 0, none⟩) (64 * S.length) (64 * S.length), .map (some m), .int .i64 fuse, .bool down] 100 (0, 0))
  row : RowB w g S.flatten
  cache : MapI w m N sz f
  ok : SecOk S f
  fuse : 0 ≤ fuse ∧ fuse ≤ 1048576
section
variable {w w' : World} {b g m N sz : Nat} {S : List (List UInt8)} {f : Cache} {fuse : Int} {down : Bool}
theorem DevAt.cells (h : DevAt w b g m N sz S f fuse down) : w.cell? ⟨b, 0, none⟩ = some (.slice (some ⟨g, 0, none⟩) (64 * S.length) (64 * S.length)) ∧ w.cell? ⟨b, 1, none⟩ = some (.map (some m)) ∧ w.cell? ⟨b, 2, none⟩ = some (.int .i64 fuse) ∧ w.cell? ⟨b, 3, none⟩ = some (.bool down) :=
  ⟨(blk_cell h.box 0).trans rfl, (blk_cell h.box 1).trans rfl, (blk_cell h.box 2).trans rfl, (blk_cell h.box 3).trans rfl⟩
theorem DevAt.kept (h : DevAt w b g m N sz S f fuse down) {row : Option Nat} (hg : w.grownBy w' row) (h1 : some b ≠ row) (h2 : some g ≠ row) (h3 : some m ≠ row) : DevAt w' b g m N sz S f fuse down :=
  ⟨blk_grown h.box hg h1, blk_grown h.row hg h2, h.cache.kept hg h3, h.ok, h.fuse⟩
theorem DevAt.below (h : DevAt w b g m N sz S f fuse down) (hb : Below w.heap.size w w') : DevAt w' b g m N sz S f fuse down := h.kept (grownBy_of_below hb none) (by simp) (by simp) (by simp)
theorem DevAt.lt (h : DevAt w b g m N sz S f fuse down) : b < w.heap.size ∧ g < w.heap.size ∧ m < w.heap.size :=
  ⟨(List.getElem?_eq_some_iff.1 (by simpa using h.box)).1, (List.getElem?_eq_some_iff.1 (by simpa [RowB] using h.row)).1, h.cache.lt⟩
theorem DevAt.apart (h : DevAt w b g m N sz S f fuse down) : b ≠ g ∧ b ≠ m ∧ g ≠ m :=
  ⟨(fun e => by
    have h1 := h.box
    rw [e, h.row] at h1
    injection h1 with h1
    injection h1 with _ h1 _
    cases h1), fun e => h.cache.not_cells (by rw [← e]; exact h.box), fun e => h.cache.not_cells (by rw [← e]; exact h.row)⟩
end
theorem set_grown (w : World) (b i : Nat) (v : Value) : w.grownBy (w.setCell ⟨b, i, none⟩ v) (some b) := ⟨rfl, rfl, rfl, by simp, fun j hj hne => Below.heap_setCell _ _ _ _ (fun e => hne (by rw [e]))⟩
theorem some_ne {a b : Nat} (h : a ≠ b) : (some a : Option Nat) ≠ some b := fun e => h (by injection e)
theorem DevAt.rebox {w w' : World} {b g m N sz : Nat} {S : List (List UInt8)} {f : Cache} {fuse fuse' : Int} {down down' : Bool} (h : DevAt w b g m N sz S f fuse down) (hg : w.grownBy w' (some b))
    (hb : w'.heap[b]? = some (.cells #[.slice (some ⟨g, 0, none⟩) (64 * S.length) (64 * S.length), .map (some m), .int .i64 fuse', .bool down'] 100 (0, 0))) (hf : 0 ≤ fuse' ∧ fuse' ≤ 1048576) : DevAt w' b g m N sz S f fuse' down' :=
  ⟨hb, blk_grown h.row hg (some_ne h.apart.1.symm), h.cache.kept hg (some_ne h.apart.2.1.symm), h.ok, hf⟩
def devWrong (n : Nat) (down : Bool) (i : Int) : Int := if down = true then 90 else if i < 0 ∨ (n : Int) ≤ i then 1 else 0
def burned (fuse : Int) (down : Bool) : Int × Bool := if 0 < fuse then (fuse - 1, fuse - 1 == 0) else (fuse, down)
theorem burned_ok {fuse : Int} {down : Bool} (h : 0 ≤ fuse ∧ fuse ≤ 1048576) : 0 ≤ (burned fuse down).1 ∧ (burned fuse down).1 ≤ 1048576 := by
  unfold burned
  split
  · simp only; omega
  · exact h
section
variable {w : World} {b g m N sz : Nat} {S : List (List UInt8)} {f : Cache} {fuse : Int} {down : Bool}
set_option maxRecDepth 100000 in
theorem size_walk (h : DevAt w b g m N sz S f fuse down) : Calls Try.prog 34 #[.pointer (some ⟨b, 0, none⟩)] w fun e w' => e = .returned (.int .i64 (S.length : Int)) ∧ Below w.heap.size w w' := by
  obtain ⟨c0, c1, c2, c3⟩ := h.cells
  have hf := h.ok.few
  have e : (((64 * S.length : Nat) : Int)).tdiv 64 = (S.length : Int) := by rw [Int.tdiv_eq_ediv_of_nonneg (by omega)]; omega
  have HE := Aside0.mk e
  clear h e
  go_enter Try.func34, Try.ntmps34
  go_wp2
  go_ret
  exact ⟨by rw [← HE.out]; rfl, Below.refl _ _⟩
set_option maxRecDepth 100000 in
theorem wrongD_walk (h : DevAt w b g m N sz S f fuse down) (i : Int) : Calls Try.prog 48 #[.pointer (some ⟨b, 0, none⟩), .int .i64 i] w fun e w' => e = .returned (.int .i64 (devWrong S.length down i)) ∧ Below w.heap.size w w' := by
  obtain ⟨c0, c1, c2, c3⟩ := h.cells
  have HS := Aside0.mk (size_walk h)
  have HW : Aside0 (devWrong S.length down i = if down = true then 90 else if i < 0 ∨ (S.length : Int) ≤ i then 1 else 0) := ⟨rfl⟩
  have hfew := h.ok.few
  clear h
  generalize hr : devWrong S.length down i = r at *
  clear hr
  cases down with
  | true =>
    rw [if_pos rfl] at HW
    go_enter Try.func48, Try.ntmps48
    go_wp2
    go_ret
    exact ⟨by rw [HW.out]; rfl, Below.refl _ _⟩
  | false =>
    rw [if_neg (by decide)] at HW
    by_cases h0 : i < 0
    · rw [if_pos (.inl h0)] at HW
      go_enter Try.func48, Try.ntmps48
      go_wp2
      go_ret
      exact ⟨by rw [HW.out]; rfl, Below.refl _ _⟩
    · by_cases h1 : (S.length : Int) ≤ i
      · rw [if_pos (.inr h1)] at HW
        go_enter Try.func48, Try.ntmps48
        go_wp2_with fail
        refine HS.out.mono ?_
        rintro e w1 ⟨rfl, hb⟩
        go_wp2
        go_ret
        exact ⟨by rw [HW.out]; rfl, hb⟩
      · rw [if_neg (fun h => h.elim h0 h1)] at HW
        go_enter Try.func48, Try.ntmps48
        go_wp2_with fail
        refine HS.out.mono ?_
        rintro e w1 ⟨rfl, hb⟩
        go_wp2
        go_ret
        exact ⟨by rw [HW.out]; rfl, hb⟩
set_option maxRecDepth 100000 in
theorem bytes_walk (h : DevAt w b g m N sz S f fuse down) (i : Nat) (hi : i < S.length) : Calls Try.prog 50 #[.pointer (some ⟨b, 0, none⟩), .int .i64 (i : Int)] w fun e w' => e = .returned (.slice (some ⟨g, 64 * i, none⟩) 64 (64 * S.length - 64 * i)) ∧ w' = w := by
  obtain ⟨c0, c1, c2, c3⟩ := h.cells
  have hfew := h.ok.few
  clear h
  go_enter Try.func50, Try.ntmps50
  go_wp2
  go_ret
  refine ⟨?_, rfl⟩
  have e1 : i * 64 = 64 * i := Nat.mul_comm _ _
  have e2 : (i + 1) * 64 - i * 64 = 64 := by omega
  show Ending.returned (Value.slice (some ⟨g, i * 64, none⟩) ((i + 1) * 64 - i * 64) (64 * S.length - i * 64)) = _
  rw [e2, e1]
set_option maxRecDepth 100000 in
theorem dirty_walk (h : DevAt w b g m N sz S f fuse down) : Calls Try.prog 29 #[.pointer (some ⟨b, 0, none⟩)] w fun e w' => e = .returned (.int .i64 (sz : Int)) ∧ Below w.heap.size w w' := by
  obtain ⟨c0, c1, c2, c3⟩ := h.cells
  have H := Aside0.mk h
  clear h
  go_enter Try.func29, Try.ntmps29
  go_wp2_with (first | (at_len; refine MapI.len H.out.cache rfl _ rfl rfl ?_))
  go_ret
  exact ⟨rfl, Below.refl _ _⟩
set_option maxRecDepth 100000 in
theorem burn_walk (h : DevAt w b g m N sz S f fuse down) : Calls Try.prog 49 #[.pointer (some ⟨b, 0, none⟩)] w fun e w' => e = .returned (.bool (burned fuse down).2) ∧ w.grownBy w' (some b) ∧ DevAt w' b g m N sz S f (burned fuse down).1 (burned fuse down).2 := by
  obtain ⟨c0, c1, c2, c3⟩ := h.cells
  have fz2 := blk_frozen h.box 2
  have fz3 := blk_frozen h.box 3
  have hfu := h.fuse
  have H := Aside0.mk h
  have HO := Aside0.mk (burned_ok (down := down) hfu)
  have HB : Aside0 (burned fuse down = if 0 < fuse then (fuse - 1, fuse - 1 == 0) else (fuse, down)) := ⟨rfl⟩
  clear h
  generalize burned fuse down = r at *
  obtain ⟨r1, r2⟩ := r
  by_cases hp : 0 < fuse
  · rw [if_pos hp] at HB
    go_enter Try.func49, Try.ntmps49
    go_wp2
    go_ret
    have e := HB.out
    injection e with e1 e2
    have hg : w.grownBy ((w.setCell ⟨b, 2, none⟩ (.int .i64 (fuse - 1))).setCell ⟨b, 3, none⟩ (.bool (fuse - 1 == 0))) (some b) := (set_grown w b 2 _).trans (set_grown _ b 3 _)
    exact ⟨by rw [e2]; rfl, hg, H.out.rebox hg (by rw [e1, e2]; exact blk_put (blk_put H.out.box 2 _ rfl) 3 _ rfl) HO.out⟩
  · rw [if_neg hp] at HB
    go_enter Try.func49, Try.ntmps49
    go_wp2
    go_ret
    have e := HB.out
    injection e with e1 e2
    exact ⟨by rw [e2]; rfl, World.grownBy.refl _ _, by rw [e1, e2]; exact H.out⟩
/-! Fuse, Write -/
def fuseV (down : Bool) (n : Int) : Int := if down = true then 90 else if n < 0 ∨ 1048576 < n then 1 else 0
set_option maxRecDepth 100000 in
theorem fuse_walk (h : DevAt w b g m N sz S f fuse down) (n : Int) : Calls Try.prog 36 #[.pointer (some ⟨b, 0, none⟩), .int .i64 n] w fun e w' => e = .returned (.int .i64 (fuseV down n)) ∧ w.grownBy w' (some b) ∧ DevAt w' b g m N sz S f (if fuseV down n = 0 then n else fuse) down := by
  obtain ⟨c0, c1, c2, c3⟩ := h.cells
  have fz2 := blk_frozen h.box 2
  have H := Aside0.mk h
  have HV : Aside0 (fuseV down n = if down = true then 90 else if n < 0 ∨ 1048576 < n then 1 else 0) := ⟨rfl⟩
  obtain ⟨u, hu⟩ : ∃ u, u = (if fuseV down n = 0 then n else fuse) := ⟨_, rfl⟩
  rw [← hu]
  have HU := Aside0.mk hu
  clear hu h
  generalize fuseV down n = r at *
  cases down with
  | true =>
    rw [if_pos rfl] at HV
    go_enter Try.func36, Try.ntmps36
    go_wp2
    go_ret
    exact ⟨by rw [HV.out]; rfl, World.grownBy.refl _ _, by rw [HU.out, HV.out, if_neg (by decide)]; exact H.out⟩
  | false =>
    rw [if_neg (by decide)] at HV
    by_cases h0 : n < 0
    · rw [if_pos (.inl h0)] at HV
      go_enter Try.func36, Try.ntmps36
      go_wp2
      go_ret
      exact ⟨by rw [HV.out]; rfl, World.grownBy.refl _ _, by rw [HU.out, HV.out, if_neg (by decide)]; exact H.out⟩
    · by_cases h1 : 1048576 < n
      · rw [if_pos (.inr h1)] at HV
        go_enter Try.func36, Try.ntmps36
        go_wp2
        go_ret
        exact ⟨by rw [HV.out]; rfl, World.grownBy.refl _ _, by rw [HU.out, HV.out, if_neg (by decide)]; exact H.out⟩
      · rw [if_neg (fun h => h.elim h0 h1)] at HV
        go_enter Try.func36, Try.ntmps36
        go_wp2
        go_ret
        exact ⟨by rw [HV.out]; rfl, set_grown w b 2 _, by rw [HU.out, HV.out, if_pos rfl]; exact H.out.rebox (set_grown w b 2 _) (blk_put H.out.box 2 _ rfl) (by omega)⟩
def writeD (n : Nat) (fuse : Int) (down : Bool) (i : Int) (t : ByteArray) : Int :=
  if devWrong n down i = 0 then (if t.size = 64 then (if (burned fuse down).2 = true then 90 else 0) else 3) else devWrong n down i
/-- Whether a write comes to the fuse. -/
def writeB (n : Nat) (down : Bool) (i : Int) (t : ByteArray) : Bool := devWrong n down i == 0 && t.size == 64
theorem wrong_range {n : Nat} {down : Bool} {i : Int} (h : devWrong n down i = 0) : down = false ∧ 0 ≤ i ∧ i < n := by
  unfold devWrong at h
  split at h
  · cases h
  · split at h
    · cases h
    · rename_i h1 h2
      exact ⟨by simpa using h1, by omega, by omega⟩
/-- Nothing but the device's blocks has changed. -/
structure Chg (w w' : World) (b g m : Nat) : Prop where
  os : w'.os = w.os
  tape : w'.tape = w.tape
  output : w'.output = w.output
  size : w.heap.size ≤ w'.heap.size
  block : ∀ k, k < w.heap.size → k ≠ b → k ≠ g → k ≠ m → w'.heap[k]? = w.heap[k]?
theorem Chg.trans {w w1 w2 : World} {b g m : Nat} (h : Chg w w1 b g m) (h2 : Chg w1 w2 b g m) : Chg w w2 b g m :=
  ⟨h2.os.trans h.os, h2.tape.trans h.tape, h2.output.trans h.output, Nat.le_trans h.size h2.size, fun k hk h1 h3 h4 => (h2.block k (Nat.lt_of_lt_of_le hk h.size) h1 h3 h4).trans (h.block k hk h1 h3 h4)⟩
theorem Chg.of {w w' : World} {b g m : Nat} {row : Option Nat} (h : w.grownBy w' row) (hr : ∀ k, row = some k → k = b ∨ k = g ∨ k = m) : Chg w w' b g m :=
  ⟨h.os, h.tape, h.output, h.size, fun k hk h1 h2 h3 => h.block k hk (fun e => by rcases hr k e.symm with h | h | h; exact h1 h; exact h2 h; exact h3 h)⟩
theorem Chg.of_below {w w' : World} {b g m : Nat} (h : Below w.heap.size w w') : Chg w w' b g m := Chg.of (grownBy_of_below h none) (fun k e => by cases e)
theorem Chg.below {w0 w w' : World} {b g m n : Nat} (h : Chg w w' b g m) (hb : Below n w0 w) (hn : n ≤ w.heap.size) (h1 : n ≤ b) (h2 : n ≤ g) (h3 : n ≤ m) : Below n w0 w' :=
  ⟨h.os.trans hb.os, h.tape.trans hb.tape, h.output.trans hb.output, Nat.le_trans hb.size h.size, fun k hk => (h.block k (by omega) (by omega) (by omega) (by omega)).trans (hb.block k hk)⟩
set_option maxRecDepth 100000 in
set_option maxHeartbeats 1000000 in
theorem writeD_walk (h : DevAt w b g m N sz S f fuse down) (i : Int) (t : ByteArray) (hN : N < maxLen) : Calls Try.prog 27 #[.pointer (some ⟨b, 0, none⟩), .int .i64 i, .string t] w fun e w' => e = .returned (.int .i64 (writeD S.length fuse down i t)) ∧ Chg w w' b g m ∧
      DevAt w' b g m (N + 1) (if writeD S.length fuse down i t = 0 then (if (f i).isSome then sz else sz + 1) else sz) S (if writeD S.length fuse down i t = 0 then cput f i t else f) (if writeB S.length down i t = true then (burned fuse down).1 else fuse) (if writeB S.length down i t = true then (burned fuse down).2 else down) := by
  have H := Aside0.mk h
  have HW := Aside0.mk (wrongD_walk h i)
  have HN := Aside0.mk hN
  have HV : Aside0 (writeD S.length fuse down i t = if devWrong S.length down i = 0 then (if t.size = 64 then (if (burned fuse down).2 = true then 90 else 0) else 3) else devWrong S.length down i) := ⟨rfl⟩
  have HB : Aside0 (writeB S.length down i t = (devWrong S.length down i == 0 && t.size == 64)) := ⟨rfl⟩
  obtain ⟨z1, hz1⟩ : ∃ u, u = (if writeD S.length fuse down i t = 0 then (if (f i).isSome then sz else sz + 1) else sz) := ⟨_, rfl⟩
  obtain ⟨f1, hf1⟩ : ∃ u, u = (if writeD S.length fuse down i t = 0 then cput f i t else f) := ⟨_, rfl⟩
  obtain ⟨u1, hu1⟩ : ∃ u, u = (if writeB S.length down i t = true then (burned fuse down).1 else fuse) := ⟨_, rfl⟩
  obtain ⟨d1, hd1⟩ : ∃ u, u = (if writeB S.length down i t = true then (burned fuse down).2 else down) := ⟨_, rfl⟩
  rw [← hz1, ← hf1, ← hu1, ← hd1]
  have HE : Aside0 (z1 = (if writeD S.length fuse down i t = 0 then (if (f i).isSome then sz else sz + 1) else sz) ∧ f1 = (if writeD S.length fuse down i t = 0 then cput f i t else f) ∧ u1 = (if writeB S.length down i t = true then (burned fuse down).1 else fuse) ∧ d1 = (if writeB S.length down i t = true then (burned fuse down).2 else down)) := ⟨hz1, hf1, hu1, hd1⟩
  have HR := Aside0.mk (@wrong_range S.length down i)
  clear hz1 hf1 hu1 hd1 h hN
  generalize writeD S.length fuse down i t = r at *
  generalize writeB S.length down i t = q at *
  generalize devWrong S.length down i = v at *
  go_enter Try.func27, Try.ntmps27
  go_wp2_with fail
  refine HW.out.mono ?_
  rintro e w1 ⟨rfl, hb⟩
  have H1 := Aside0.mk (H.out.below hb)
  have HC := Aside0.mk (Chg.of_below (b := b) (g := g) (m := m) hb)
  clear hb HW
  by_cases hv : v = 0
  · rw [if_pos hv] at HV
    have hr := HR.out hv
    subst hv
    by_cases ht : t.size = 64
    · rw [if_pos ht] at HV
      have HQ : Aside0 (q = true) := ⟨by rw [HB.out, ht]; rfl⟩
      have HT := Aside0.mk ht
      have htb : ((t.size : Int) != 64) = false := by rw [ht]; rfl
      have HR2 := Aside0.mk hr
      clear ht hr
      go_wp2_with fail
      refine (burn_walk H1.out).mono ?_
      rintro e w2 ⟨rfl, hg, h2⟩
      have H2 := Aside0.mk h2
      have HC2 := Aside0.mk (HC.out.trans (Chg.of (b := b) (g := g) (m := m) hg (fun k e => .inl (by injection e with e; exact e.symm))))
      obtain ⟨c0, c1, c2, c3⟩ := H2.out.cells
      clear hg h2
      cases hbd : (burned fuse down).2 with
      | true =>
        rw [hbd, if_pos rfl] at HV
        have HBD := Aside0.mk hbd
        clear hbd
        go_wp2
        go_ret
        refine ⟨by rw [HV.out]; rfl, HC2.out, ?_⟩
        rw [HE.out.1, HE.out.2.1, HE.out.2.2.1, HE.out.2.2.2, HV.out, HQ.out, if_neg (by decide), if_neg (by decide), if_pos rfl, if_pos rfl]
        exact ⟨H2.out.box, H2.out.row, H2.out.cache.mono (Nat.le_succ _), H2.out.ok, H2.out.fuse⟩
      | false =>
        rw [hbd, if_neg (by decide)] at HV
        have HBD := Aside0.mk hbd
        clear hbd
        have hfew := H2.out.ok.few
        go_wp2_with (first
          | (at_mapUpdate; refine MapI.store H2.out.cache rfl _ _ _ rfl HN.out rfl i rfl (by have := HR2.out; omega) t rfl ?_; intro w3 hm3 hg3))
        go_ret
        refine ⟨by rw [HV.out]; rfl, HC2.out.trans (Chg.of hg3 (fun k e => .inr (.inr (by injection e with e; exact e.symm)))), ?_⟩
        rw [HE.out.1, HE.out.2.1, HE.out.2.2.1, HE.out.2.2.2, HV.out, HQ.out, if_pos rfl, if_pos rfl, if_pos rfl, if_pos rfl]
        refine ⟨blk_grown H2.out.box hg3 (some_ne H2.out.apart.2.1), blk_grown H2.out.row hg3 (some_ne H2.out.apart.2.2), hm3, ⟨H2.out.ok.len, H2.out.ok.few, H2.out.ok.some_, fun j s hj => ?_⟩, H2.out.fuse⟩
        unfold cput at hj
        split at hj
        · rename_i e
          cases hj
          rw [e]
          exact ⟨HR2.out.2.1, HR2.out.2.2, HT.out⟩
        · exact H2.out.ok.cached j s hj
    · rw [if_neg ht] at HV
      have HQ : Aside0 (q = false) := ⟨by rw [HB.out]; simp [ht]⟩
      have htb : ((t.size : Int) != 64) = true := by simp; omega
      go_wp2
      go_ret
      refine ⟨by rw [HV.out]; rfl, HC.out, ?_⟩
      rw [HE.out.1, HE.out.2.1, HE.out.2.2.1, HE.out.2.2.2, HV.out, HQ.out, if_neg (by decide), if_neg (by decide), if_neg (by decide), if_neg (by decide)]
      exact ⟨H1.out.box, H1.out.row, H1.out.cache.mono (Nat.le_succ _), H1.out.ok, H1.out.fuse⟩
  · rw [if_neg hv] at HV
    have hvb : (v != 0) = true := by simpa using hv
    have HQ : Aside0 (q = false) := ⟨by rw [HB.out]; simp [hv]⟩
    have HVN := Aside0.mk hv
    clear hv
    go_wp2
    go_ret
    refine ⟨by rw [HV.out]; rfl, HC.out, ?_⟩
    rw [HE.out.1, HE.out.2.1, HE.out.2.2.1, HE.out.2.2.2, HV.out, HQ.out, if_neg HVN.out, if_neg HVN.out, if_neg (by decide), if_neg (by decide)]
    exact ⟨H1.out.box, H1.out.row, H1.out.cache.mono (Nat.le_succ _), H1.out.ok, H1.out.fuse⟩
set_option maxRecDepth 100000 in
set_option maxHeartbeats 1000000 in
/-- up. -/
theorem up_walk (h : DevAt w b g m N sz S f fuse down) : Calls Try.prog 53 #[.pointer (some ⟨b, 0, none⟩)] w fun e w' => e = .returned (.tuple #[]) ∧ Chg w w' b g m ∧ DevAt w' b g m 0 0 S (fun _ => none) 0 false := by
  obtain ⟨c0, c1, c2, c3⟩ := h.cells
  have H := Aside0.mk h
  clear h
  go_enter Try.func53, Try.ntmps53
  go_wp2_with (first
    | (refine MapI.clear H.out.cache rfl _ rfl rfl ?_; intro w1 hm1 hg1; have H1 := Aside0.mk (And.intro hm1 (And.intro hg1 (And.intro (blk_grown H.out.box hg1 (some_ne H.out.apart.2.1)) (blk_grown H.out.row hg1 (some_ne H.out.apart.2.2))))); clear hm1 hg1; have fz2 := blk_frozen H1.out.2.2.1 2; have fz3 := blk_frozen H1.out.2.2.1 3; have e2 : w1.cell? ⟨b, 2, none⟩ = some (.int .i64 fuse) := (blk_cell H1.out.2.2.1 2).trans rfl; have e3 : w1.cell? ⟨b, 3, none⟩ = some (.bool down) := (blk_cell H1.out.2.2.1 3).trans rfl))
  go_end0
  have hg2 : w1.grownBy ((w1.setCell ⟨b, 2, none⟩ (.int .i64 0)).setCell ⟨b, 3, none⟩ (.bool false)) (some b) := (set_grown w1 b 2 _).trans (set_grown _ b 3 _)
  refine ⟨rfl, (Chg.of H1.out.2.1 (fun k e => .inr (.inr (by injection e with e; exact e.symm)))).trans (Chg.of hg2 (fun k e => .inl (by injection e with e; exact e.symm))), ?_⟩
  exact ⟨blk_put (blk_put H1.out.2.2.1 2 _ rfl) 3 _ rfl, blk_grown H1.out.2.2.2 hg2 (some_ne H.out.apart.1.symm), H1.out.1.kept hg2 (some_ne H.out.apart.2.1.symm), ⟨H.out.ok.len, H.out.ok.few, H.out.ok.some_, fun _ _ h => by cases h⟩, by decide⟩
def readD (S : List (List UInt8)) (f : Cache) (down : Bool) (i : Int) : ByteArray × Int := if devWrong S.length down i = 0 then (match f i with | some s => (s, 0) | none => (⟨(S.getD i.toNat []).toArray⟩, 0)) else (⟨#[]⟩, devWrong S.length down i)
set_option maxRecDepth 100000 in
set_option maxHeartbeats 1000000 in
/-- Read. -/
theorem readD_walk (h : DevAt w b g m N sz S f fuse down) (i : Int) : Calls Try.prog 31 #[.pointer (some ⟨b, 0, none⟩), .int .i64 i] w fun e w' => e = .returned (.tuple #[.string (readD S f down i).1, .int .i64 (readD S f down i).2]) ∧ Below w.heap.size w w' := by
  have H := Aside0.mk h
  have HW := Aside0.mk (wrongD_walk h i)
  have HV : Aside0 (readD S f down i = if devWrong S.length down i = 0 then (match f i with | some s => (s, 0) | none => (⟨(S.getD i.toNat []).toArray⟩, 0)) else (⟨#[]⟩, devWrong S.length down i)) := ⟨rfl⟩
  have HR := Aside0.mk (@wrong_range S.length down i)
  clear h
  generalize readD S f down i = r at *
  generalize devWrong S.length down i = v at *
  go_enter Try.func31, Try.ntmps31
  go_wp2_with fail
  refine HW.out.mono ?_
  rintro e w1 ⟨rfl, hb⟩
  have H1 := Aside0.mk (H.out.below hb)
  have HB := Aside0.mk hb
  clear hb HW
  by_cases hv : v = 0
  · rw [if_pos hv] at HV
    have hr := HR.out hv
    subst hv
    obtain ⟨c0, c1, c2, c3⟩ := H1.out.cells
    have hfew := H1.out.ok.few
    have hi : -9223372036854775808 ≤ i ∧ i ≤ 9223372036854775807 := by omega
    have HI := Aside0.mk hi
    have HR2 := Aside0.mk hr
    clear hi hr
    cases hf : f i with
    | some s =>
      rw [hf] at HV
      have HF := Aside0.mk hf
      go_wp2_with (first
        | (at_lookup; refine MapI.look H1.out.cache rfl _ _ rfl rfl i rfl HI.out ?_; rw [HF.out]))
      go_ret2
      exact ⟨by rw [HV.out]; rfl, HB.out⟩
    | none =>
      rw [hf] at HV
      have HF := Aside0.mk hf
      obtain ⟨n, rfl⟩ : ∃ n : Nat, i = (n : Int) := ⟨i.toNat, by have := HR2.out; omega⟩
      have hn : n < S.length := by have := HR2.out; omega
      have hrow := H1.out.row.text (64 * n) 64 (64 * S.length - 64 * n) (by rw [flat_len S H1.out.ok.len]; omega)
      rw [flat_at S n hn H1.out.ok.len] at hrow
      go_wp2_with (first
        | (at_lookup; refine MapI.look H1.out.cache rfl _ _ rfl rfl _ rfl HI.out ?_; rw [HF.out]))
      refine (bytes_walk H1.out n hn).mono ?_
      rintro e w2 ⟨rfl, rfl⟩
      have HG : Aside0 (S.getD (n : Int).toNat [] = S[n]) := ⟨by rw [Int.toNat_natCast, List.getD_eq_getElem?_getD, List.getElem?_eq_getElem hn, Option.getD_some]⟩
      go_wp2
      go_ret2
      exact ⟨by rw [HV.out, HG.out]; rfl, HB.out⟩
  · rw [if_neg hv] at HV
    have hvb : (v != 0) = true := by simpa using hv
    clear hv
    go_wp2
    go_ret2
    exact ⟨by rw [HV.out]; rfl, HB.out⟩
end
end Go.Proofs.Yteibcojjbcihbaa.Sec
