/- Whether two clash does not hang on who is first: the law, in plain. -/
import Derived.Test.YtpfhdgacjeklaaaHWorks
import Derived.Test.YtpfhdgacjeklaaaHOpen
namespace Go.Proofs.Ytpfhdgacjeklaaa.PLocks
open Go.RowKit Go.Proofs.YtpfhdgacjeklaaaW.PrintWords Go.Proofs.YtpfhdgacjeklaaaW.PrintLast Go.Proofs.YtpfhdgacjeklaaaW.PrintMore Go.Maps Mk
set_option linter.unusedVariables false
set_option linter.unusedSimpArgs false

theorem wrong_swap (a b : S25) : wrongV [a, b] = wrongV [b, a] := by
  unfold wrongV
  simp [Bool.and_comm]
theorem any_swap (a b : List (List UInt8)) : a.any (fun k => b.contains k) = b.any (fun k => a.contains k) := by
  rw [Bool.eq_iff_iff, List.any_eq_true, List.any_eq_true]
  constructor
  · rintro ⟨x, hx, h⟩; exact ⟨x, by simpa using h, by simpa using hx⟩
  · rintro ⟨x, hx, h⟩; exact ⟨x, by simpa using h, by simpa using hx⟩
theorem any_or (a : List (List UInt8)) (p q : List UInt8 → Bool) : a.any (fun k => p k || q k) = (a.any p || a.any q) := by
  induction a with
  | nil => rfl
  | cons x r ih => rw [List.any_cons, List.any_cons, List.any_cons, ih]; cases p x <;> cases q x <;> simp
theorem clashB_swap (l7 : List ByteArray) (l8 : List S62) (m7 : List ByteArray) (m8 : List S62) : clashB l7 l8 m7 m8 = clashB m7 m8 l7 l8 := by
  unfold clashB
  rw [any_or, any_or, any_swap (strs (wkeys l8)) (strs (wkeys m8))]
  cases (strs (wkeys l8)).any (fun k => (strs m7).contains k) <;> cases (strs (wkeys m8)).any (fun k => (strs l7).contains k) <;> cases (strs (wkeys m8)).any (fun k => (strs (wkeys l8)).contains k) <;> rfl
theorem clashB_self (l7 : List ByteArray) (l8 : List S62) : clashB l7 l8 l7 l8 = decide ((l8.length : Int) > 0) := by
  cases l8 with
  | nil => rfl
  | cons x r =>
    have : decide (((x :: r).length : Int) > 0) = true := by simp
    rw [this]
    simp [clashB, wkeys, strs]
theorem Clash_swap (a b : S25) : ClashV a b = ClashV b a := by
  unfold ClashV clashR
  rw [wrong_swap, clashB_swap]
theorem turns_last (a : S25) : (ClashV a a).2 = 0 → (ClashV a a).1 = decide ((a.f8.length : Int) > 0) := by
  unfold ClashV
  by_cases h : wrongV [a, a] = 0
  · rw [if_pos h]
    intro _
    exact clashB_self _ _
  · rw [if_neg h]
    intro h2
    exact absurd h2 h
theorem sizesOk_rec {r : S25} (h : okRec r) : sizesOk r := by
  unfold okRec at h
  unfold sizesOk
  omega
set_option maxRecDepth 100000 in
set_option maxHeartbeats 2000000 in
theorem locksTurns_walk (w : World) {a b : S25} {A0_7 : Option Addr} {c0_7 : Nat} {A0_8 : Option Addr} {c0_8 : Nat} {A1_7 : Option Addr} {c1_7 : Nat} {A1_8 : Option Addr} {c1_8 : Nat}
    (hr0_7 : Kd.C Kd.string w A0_7 a.f7.length a.f7) (hc0_7 : a.f7.length ≤ c0_7) (hr0_8 : Kd.C k62 w A0_8 a.f8.length a.f8) (hc0_8 : a.f8.length ≤ c0_8) (ga : okRec a)
    (hr1_7 : Kd.C Kd.string w A1_7 b.f7.length b.f7) (hc1_7 : b.f7.length ≤ c1_7) (hr1_8 : Kd.C k62 w A1_8 b.f8.length b.f8) (hc1_8 : b.f8.length ≤ c1_8) (gb : okRec b) :
    Calls Try.prog 3 #[.agg #[.int .i64 a.f0, .int .i64 a.f1, .int .i64 a.f2, .int .i64 a.f3, .string a.f4, .string a.f5, .bool a.f6, .slice A0_7 a.f7.length c0_7, .slice A0_8 a.f8.length c0_8],
      .agg #[.int .i64 b.f0, .int .i64 b.f1, .int .i64 b.f2, .int .i64 b.f3, .string b.f4, .string b.f5, .bool b.f6, .slice A1_7 b.f7.length c1_7, .slice A1_8 b.f8.length c1_8]] w fun e w' => e = .returned (.bool true) ∧ Below w.heap.size w w' := by
  have HA := Aside0.mk (And.intro hr0_7 (And.intro hr0_8 (And.intro hr1_7 hr1_8)))
  have HC := Aside0.mk (And.intro hc0_7 (And.intro hc0_8 (And.intro hc1_7 hc1_8)))
  have h1 := Clash_f 3 (by omega) a b (sizesOk_rec ga) (sizesOk_rec gb)
  have h2 := Clash_f 3 (by omega) b a (sizesOk_rec gb) (sizesOk_rec ga)
  have h3 := Clash_f 3 (by omega) a a (sizesOk_rec ga) (sizesOk_rec ga)
  rw [Clash_swap b a] at h2
  have h4 := turns_last a
  have hm := Kd.C_max hr0_8
  obtain ⟨⟨x, e⟩, hx⟩ : ∃ p, p = ClashV a b := ⟨_, rfl⟩
  obtain ⟨⟨z, g⟩, hz⟩ : ∃ p, p = ClashV a a := ⟨_, rfl⟩
  rw [← hx] at h1 h2
  rw [← hz] at h3 h4
  have H1 := Aside0.mk h1
  have H2 := Aside0.mk h2
  have H3 := Aside0.mk h3
  have H4 := Aside0.mk h4
  clear h1 h2 h3 h4 hx hz hr0_7 hr0_8 hr1_7 hr1_8 hc0_7 hc0_8 hc1_7 hc1_8 ga gb
  have hu25 := Try.underlying25
  go_enter Try.func3, Try.ntmps3
  go_wp2_with fail
  have ba := blk_alloc (blk_new w (.cells #[.int .i64 a.f0, .int .i64 a.f1, .int .i64 a.f2, .int .i64 a.f3, .string a.f4, .string a.f5, .bool a.f6, .slice A0_7 a.f7.length c0_7, .slice A0_8 a.f8.length c0_8] 25)) (.cells #[.int .i64 b.f0, .int .i64 b.f1, .int .i64 b.f2, .int .i64 b.f3, .string b.f4, .string b.f5, .bool b.f6, .slice A1_7 b.f7.length c1_7, .slice A1_8 b.f8.length c1_8] 25)
  have bb := blk_new (w.alloc (.cells #[.int .i64 a.f0, .int .i64 a.f1, .int .i64 a.f2, .int .i64 a.f3, .string a.f4, .string a.f5, .bool a.f6, .slice A0_7 a.f7.length c0_7, .slice A0_8 a.f8.length c0_8] 25)) (.cells #[.int .i64 b.f0, .int .i64 b.f1, .int .i64 b.f2, .int .i64 b.f3, .string b.f4, .string b.f5, .bool b.f6, .slice A1_7 b.f7.length c1_7, .slice A1_8 b.f8.length c1_8] 25)
  rw [show (w.alloc (.cells #[.int .i64 a.f0, .int .i64 a.f1, .int .i64 a.f2, .int .i64 a.f3, .string a.f4, .string a.f5, .bool a.f6, .slice A0_7 a.f7.length c0_7, .slice A0_8 a.f8.length c0_8] 25)).heap.size = w.heap.size + 1 from by simp] at bb
  have h0 := below_alloc (below_alloc (Below.refl _ w) (.cells #[.int .i64 a.f0, .int .i64 a.f1, .int .i64 a.f2, .int .i64 a.f3, .string a.f4, .string a.f5, .bool a.f6, .slice A0_7 a.f7.length c0_7, .slice A0_8 a.f8.length c0_8] 25)) (.cells #[.int .i64 b.f0, .int .i64 b.f1, .int .i64 b.f2, .int .i64 b.f3, .string b.f4, .string b.f5, .bool b.f6, .slice A1_7 b.f7.length c1_7, .slice A1_8 b.f8.length c1_8] 25)
  refine (works_walk _).mono ?_
  rintro e_ w1 ⟨rfl, hb⟩
  have HB1 : Aside0 (Below w.heap.size w w1) := ⟨h0.trans (hb.mono h0.size)⟩
  have BA1 := Aside0.mk (blk_below ba hb)
  have BB1 := Aside0.mk (blk_below bb hb)
  clear ba bb h0 hb
  obtain ⟨a0, a1, a2, a3, a4, a5, a6, a7, a8⟩ := rec_cells BA1.out
  obtain ⟨b0, b1, b2, b3, b4, b5, b6, b7, b8⟩ := rec_cells BB1.out
  go_wp2_with fail
  refine (locks_Clash.calls 3 a.f0 a.f1 a.f2 a.f3 a.f4 a.f5 a.f6 _ _ _ a.f7 _ _ _ a.f8 b.f0 b.f1 b.f2 b.f3 b.f4 b.f5 b.f6 _ _ _ b.f7 _ _ _ b.f8 x _ w1 (V_of Kd.heap_string (Kd.C_below HA.out.1 HB1.out) HC.out.1) (V_of k62_heap (Kd.C_below HA.out.2.1 HB1.out) HC.out.2.1) (V_of Kd.heap_string (Kd.C_below HA.out.2.2.1 HB1.out) HC.out.2.2.1) (V_of k62_heap (Kd.C_below HA.out.2.2.2 HB1.out) HC.out.2.2.2) H1.out).mono ?_
  rintro e_ w2 ⟨rfl, hb⟩
  have HB2 : Aside0 (Below w.heap.size w w2) := ⟨HB1.out.trans (hb.mono HB1.out.size)⟩
  have BA2 := Aside0.mk (blk_below BA1.out hb)
  have BB2 := Aside0.mk (blk_below BB1.out hb)
  clear hb BA1 BB1 a0 a1 a2 a3 a4 a5 a6 a7 a8 b0 b1 b2 b3 b4 b5 b6 b7 b8
  obtain ⟨a0, a1, a2, a3, a4, a5, a6, a7, a8⟩ := rec_cells BA2.out
  obtain ⟨b0, b1, b2, b3, b4, b5, b6, b7, b8⟩ := rec_cells BB2.out
  go_wp2_with fail
  refine (locks_Clash.calls 3 b.f0 b.f1 b.f2 b.f3 b.f4 b.f5 b.f6 _ _ _ b.f7 _ _ _ b.f8 a.f0 a.f1 a.f2 a.f3 a.f4 a.f5 a.f6 _ _ _ a.f7 _ _ _ a.f8 x _ w2 (V_of Kd.heap_string (Kd.C_below HA.out.2.2.1 HB2.out) HC.out.2.2.1) (V_of k62_heap (Kd.C_below HA.out.2.2.2 HB2.out) HC.out.2.2.2) (V_of Kd.heap_string (Kd.C_below HA.out.1 HB2.out) HC.out.1) (V_of k62_heap (Kd.C_below HA.out.2.1 HB2.out) HC.out.2.1) H2.out).mono ?_
  rintro e_ w3 ⟨rfl, hb⟩
  have HB3 : Aside0 (Below w.heap.size w w3) := ⟨HB2.out.trans (hb.mono HB2.out.size)⟩
  have BA3 := Aside0.mk (blk_below BA2.out hb)
  have BB3 := Aside0.mk (blk_below BB2.out hb)
  clear hb BA2 BB2 a0 a1 a2 a3 a4 a5 a6 a7 a8 b0 b1 b2 b3 b4 b5 b6 b7 b8
  obtain ⟨a0, a1, a2, a3, a4, a5, a6, a7, a8⟩ := rec_cells BA3.out
  obtain ⟨b0, b1, b2, b3, b4, b5, b6, b7, b8⟩ := rec_cells BB3.out
  go_wp2_with fail
  refine (locks_Clash.calls 3 a.f0 a.f1 a.f2 a.f3 a.f4 a.f5 a.f6 _ _ _ a.f7 _ _ _ a.f8 a.f0 a.f1 a.f2 a.f3 a.f4 a.f5 a.f6 _ _ _ a.f7 _ _ _ a.f8 z _ w3 (V_of Kd.heap_string (Kd.C_below HA.out.1 HB3.out) HC.out.1) (V_of k62_heap (Kd.C_below HA.out.2.1 HB3.out) HC.out.2.1) (V_of Kd.heap_string (Kd.C_below HA.out.1 HB3.out) HC.out.1) (V_of k62_heap (Kd.C_below HA.out.2.1 HB3.out) HC.out.2.1) H3.out).mono ?_
  rintro e_ w4 ⟨rfl, hb⟩
  have HB4 : Aside0 (Below w.heap.size w w4) := ⟨HB3.out.trans (hb.mono HB3.out.size)⟩
  have BA4 := Aside0.mk (blk_below BA3.out hb)
  have BB4 := Aside0.mk (blk_below BB3.out hb)
  clear hb BA3 BB3 a0 a1 a2 a3 a4 a5 a6 a7 a8 b0 b1 b2 b3 b4 b5 b6 b7 b8
  obtain ⟨a0, a1, a2, a3, a4, a5, a6, a7, a8⟩ := rec_cells BA4.out
  obtain ⟨b0, b1, b2, b3, b4, b5, b6, b7, b8⟩ := rec_cells BB4.out
  go_wp2
  · rename_i hg
    have HZ : Aside0 ((z == decide (0 < a.f8.length)) = true) := ⟨by rw [H4.out hg]; simp⟩
    go_ret
    refine ⟨?_, HB4.out⟩
    show Ending.returned (.bool (z == decide (0 < a.f8.length))) = _
    rw [HZ.out]
  · go_ret
    exact ⟨rfl, HB4.out⟩
end Go.Proofs.Ytpfhdgacjeklaaa.PLocks
