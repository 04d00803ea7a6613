/- locks.Blockers: which of a list clash with one. -/
import Derived.Test.YtpfhdgacjeklaaaHWorks
import Derived.Test.YtpfhdgacjeklaaaHOpen
namespace Go.Proofs.Ytpfhdgacjeklaaa.PLocks
open Go.RowKit Go.Proofs.YtpfhdgacjeklaaaW.PrintWords Go.Proofs.YtpfhdgacjeklaaaW.PrintLast Go.Proofs.YtpfhdgacjeklaaaW.PrintMore Go.Maps Mk
set_option linter.unusedVariables false
set_option linter.unusedSimpArgs false

/-- Those of the first k that clash with r. -/
def blockTo (l : List S25) (r : S25) : Nat → List Int
  | 0 => []
  | k + 1 => if clashR (rd_T25 l (k : Int)) r = true then blockTo l r k ++ [(k : Int)] else blockTo l r k
theorem blockTo_len (l : List S25) (r : S25) : ∀ k, (blockTo l r k).length ≤ k
  | 0 => by simp [blockTo]
  | k + 1 => by
    have := blockTo_len l r k
    unfold blockTo
    split
    · simp; omega
    · omega
def blockV (l : List S25) (r : S25) : List Int × Int := if wrongV l = 0 then (if wrongV [r] = 0 then (blockTo l r l.length, 0) else ([], wrongV [r])) else ([], wrongV l)

set_option maxRecDepth 100000 in
set_option maxHeartbeats 4000000 in
theorem block_walk (A0 : Option Addr) (c0 : Nat) (l0 : List (S25)) (r : S25) (A7 : Option Addr) (c7 : Nat) (A8 : Option Addr) (c8 : Nat) (w : World) (hr0 : Kd.C k25 w A0 l0.length l0) (hc0 : l0.length ≤ c0) (hs : ∀ r, r ∈ l0 → sizesOk r)
    (h7 : Kd.C Kd.string w A7 r.f7.length r.f7) (hc7 : r.f7.length ≤ c7) (h8 : Kd.C k62 w A8 r.f8.length r.f8) (hc8 : r.f8.length ≤ c8) (hsr : sizesOk r) :
    Calls Try.prog 15 #[.slice A0 l0.length c0, .agg #[.int .i64 r.f0, .int .i64 r.f1, .int .i64 r.f2, .int .i64 r.f3, .string r.f4, .string r.f5, .bool r.f6, .slice A7 r.f7.length c7, .slice A8 r.f8.length c8]] w fun e w' =>
      ∃ v0_ : Value, e = .returned (.tuple #[v0_, .int .i64 (blockV l0 r).2]) ∧ Kd.R (Kd.int .i64) 3 w' w.heap.size (fun _ => True) v0_ (blockV l0 r).1 ∧ Below w.heap.size w w' := by
  have hmax := Kd.C_max hr0
  have HR := Aside0.mk hr0
  have HC := Aside0.mk hc0
  have H78 := Aside0.mk (And.intro h7 (And.intro hc7 (And.intro h8 hc8)))
  have HW1 := Aside0.mk (wrong_f l0 hmax hs (l0.length + 1) (by omega))
  have HW2 := Aside0.mk (wrong_f [r] (by simp) (fun x hx => by rw [List.mem_singleton.1 hx]; exact hsr) 2 (by simp))
  clear hr0 hc0 hs h7 hc7 h8 hc8 hsr
  have hu25 := Try.underlying25
  go_enter Try.func15, Try.ntmps15
  go_wp2_with fail
  have hbk := blk_new w (.cells #[.int .i64 r.f0, .int .i64 r.f1, .int .i64 r.f2, .int .i64 r.f3, .string r.f4, .string r.f5, .bool r.f6, .slice A7 r.f7.length c7, .slice A8 r.f8.length c8] 25)
  refine (locks_wrong.calls _ A0 c0 l0 _ _ (Kd.C_alloc HR.out _) HC.out HW1.out).mono ?_
  rintro e w1 ⟨rfl, hb1⟩
  have BR := Aside0.mk (blk_below hbk hb1)
  have HB1 : Aside0 (Below w.heap.size w w1) := ⟨(below_alloc (Below.refl _ w) _).trans (hb1.mono (below_alloc (Below.refl _ w) _).size)⟩
  clear hbk hb1 HW1
  by_cases hv : wrongV l0 = 0
  · have HV := Aside0.mk (wrong_zero l0 hv)
    have HA : Aside0 (blockV l0 r = if wrongV [r] = 0 then (blockTo l0 r l0.length, 0) else ([], wrongV [r])) := ⟨by unfold blockV; rw [if_pos hv]⟩
    rw [hv]
    clear hv
    obtain ⟨b0, b1, b2, b3, b4, b5, b6, b7, b8⟩ := rec_cells BR.out
    go_wp2_with fail
    have hO : Kd.C k25 (w1.alloc (.cells #[.int .i64 r.f0, .int .i64 r.f1, .int .i64 r.f2, .int .i64 r.f3, .string r.f4, .string r.f5, .bool r.f6, .slice A7 r.f7.length c7, .slice A8 r.f8.length c8] 25)) (some ⟨w1.heap.size, 0, none⟩) [r].length [r] :=
      C_one1 (cs := #[.int .i64 r.f0, .int .i64 r.f1, .int .i64 r.f2, .int .i64 r.f3, .string r.f4, .string r.f5, .bool r.f6, .slice A7 r.f7.length c7, .slice A8 r.f8.length c8]) (t := 25) (blk_new _ _) (k25_mk _ r H78.out.2.1 (Kd.C_alloc (Kd.C_below H78.out.1 HB1.out) _) H78.out.2.2.2 (Kd.C_alloc (Kd.C_below H78.out.2.2.1 HB1.out) _))
    refine (locks_wrong.calls 2 (some ⟨w1.heap.size, 0, none⟩) 1 [r] _ _ hO (by simp) HW2.out).mono ?_
    rintro e w2 ⟨rfl, hb2⟩
    have HB2 : Aside0 (Below w.heap.size w w2) := ⟨(below_alloc HB1.out _).trans (hb2.mono (below_alloc HB1.out _).size)⟩
    have BR2 := Aside0.mk (blk_below (blk_alloc BR.out _) hb2)
    clear hb2 hO BR HB1 b0 b1 b2 b3 b4 b5 b6 b7 b8
    by_cases hv2 : wrongV [r] = 0
    · have HA2 : Aside0 (blockV l0 r = (blockTo l0 r l0.length, 0)) := ⟨by rw [HA.out, if_pos hv2]⟩
      have HSR : Aside0 (smallR r) := ⟨prep_small _ ((wrong_zero _ hv2).2 r (by simp))⟩
      rw [hv2]
      clear hv2 HA HW2
      go_wp2
      go_loopw [22, 7] (fun i v wr => ∃ k : Nat, k ≤ l0.length ∧ i = .int .i64 k ∧ Aside0 (Kd.R (Kd.int .i64) 3 wr w.heap.size (fun j => j ≠ w.heap.size) v (blockTo l0 r k)) ∧
          Aside0 (wr.heap[w.heap.size]? = some (.cells #[.int .i64 r.f0, .int .i64 r.f1, .int .i64 r.f2, .int .i64 r.f3, .string r.f4, .string r.f5, .bool r.f6, .slice A7 r.f7.length c7, .slice A8 r.f8.length c8] 25)) ∧ Aside0 (Below w.heap.size w wr))
        (fun i v _ => l0.length - (intOf i).toNat)
      case atStart => exact ⟨0, Nat.zero_le _, rfl, ⟨Kd.R_nil _ _ _ _ _⟩, BR2, HB2⟩
      case round =>
        clear BR2 HB2
        obtain ⟨k, hk, rfl, HO, BR, HB⟩ := hrel
        by_cases hlt : k < l0.length
        · obtain ⟨ad, B7, d7, B8, d8, rfl, q0, q1, q2, q3, q4, q5, q6, q7, q8, g7c, g7, g8c, g8⟩ := at_T25 (Kd.C_below HR.out HB.out) (k : Int) (by omega) (by omega)
          rw [Int.toNat_natCast] at q0 q1 q2 q3 q4 q5 q6 q7 q8
          obtain ⟨x, hx⟩ : ∃ x, x = rd_T25 l0 (k : Int) := ⟨_, rfl⟩
          rw [← hx] at q0 q1 q2 q3 q4 q5 q6 q7 q8 g7c g7 g8c g8
          obtain ⟨A5, c5, rfl, hlc, hC5⟩ := Kd.R_reads HO.out
          have HSX : Aside0 (smallR x) := ⟨by rw [hx, rd25_nat l0 k hlt]; exact prep_small _ (HV.out.2 _ (List.getElem_mem hlt))⟩
          have HSTEP : Aside0 (blockTo l0 r (k + 1) = if clashR x r = true then blockTo l0 r k ++ [(k : Int)] else blockTo l0 r k) := ⟨by rw [hx]; rfl⟩
          have HLEN := Aside0.mk (blockTo_len l0 r k)
          have HG := Aside0.mk (And.intro g7 g8)
          have HB2 : Aside0 (Below w.heap.size w (wr.alloc (.cells #[.int .i64 x.f0, .int .i64 x.f1, .int .i64 x.f2, .int .i64 x.f3, .string x.f4, .string x.f5, .bool x.f6, .slice B7 x.f7.length d7, .slice B8 x.f8.length d8] 25))) := ⟨HB.out.alloc HB.out.size _⟩
          obtain ⟨b0, b1, b2, b3, b4, b5, b6, b7, b8⟩ := rec_cells (blk_alloc BR.out (.cells #[.int .i64 x.f0, .int .i64 x.f1, .int .i64 x.f2, .int .i64 x.f3, .string x.f4, .string x.f5, .bool x.f6, .slice B7 x.f7.length d7, .slice B8 x.f8.length d8] 25))
          clear hx g7 g8 g7c g8c hlc hC5
          go_wp2_with fail
          refine (clash_walk _ _ _ _ _ _ _ _ _ _ _ _ _ _ _ _ _ _ _ _ _ _ _ _ _ _ _ (Kd.C_alloc HG.out.1 _) (Kd.C_alloc HG.out.2 _) HSX.out.1 HSX.out.2 (Kd.C_below H78.out.1 HB2.out) (Kd.C_below H78.out.2.2.1 HB2.out) HSR.out.1 HSR.out.2).mono ?_
          rintro e w3 ⟨rfl, hb3⟩
          have HO2 := Aside0.mk (Kd.R_below (Kd.R_alloc HO.out _) hb3)
          have BR2 := Aside0.mk (blk_below (blk_alloc BR.out _) hb3)
          have HB3 : Aside0 (Below w.heap.size w w3) := ⟨HB2.out.trans (hb3.mono HB2.out.size)⟩
          have HLT : Aside0 (w.heap.size < w3.heap.size) := ⟨blk_lt BR2.out⟩
          have HV2 : Aside0 (clashB x.f7 x.f8 r.f7 r.f8 = clashR x r) := ⟨rfl⟩
          have hl256 := HV.out.1
          clear hb3 HO BR HB HB2 HG q0 q1 q2 q3 q4 q5 q6 q7 q8 b0 b1 b2 b3 b4 b5 b6 b7 b8
          rw [HV2.out]
          clear HV2
          generalize clashR x r = v at *
          cases v with
          | false =>
            go_wp2_with fail
            go_roundw
            case rel => exact ⟨k + 1, by omega, by go_num, ⟨by rw [HSTEP.out]; exact HO2.out⟩, BR2, HB3⟩
            case measure => simp [intOf]; omega
          | true =>
            have hlen := HLEN.out
            go_wp2_with (first
              | (at_builtin
                 refine Kd.R_append (Kd.int .i64) (w0 := w) w.heap.size rfl (.tmp 30) (.tmp 32) 33 3 (.int .i64 0) 8 rfl Try.underlying33 info3 rfl (by decide) (by omega) _ (blockTo l0 r k) (k : Int) [.int .i64 (k : Int)] (fun j => j ≠ w.heap.size) (fun _ => False) rfl rfl rfl (fun _ hk => hk.elim) (fun j hj => by have := HLT.out; omega) HO2.out HB3.out HB3.out.size (by omega) ?_
                 intro v1 w4 ho hb hg hat
                 have HO3 := Aside0.mk ho
                 have HB4 := Aside0.mk hb
                 have BR3 := Aside0.mk (blk_grown BR2.out hg (fun h => HO2.out.1 w.heap.size h.symm rfl))
                 clear ho hb hg hat))
            go_roundw
            case rel => exact ⟨k + 1, by omega, by go_num, ⟨by rw [HSTEP.out]; exact HO3.out⟩, BR3, HB4⟩
            case measure => simp [intOf]; omega
        · obtain rfl : k = l0.length := by omega
          go_wp2
          go_ret2
          exact ⟨_, by rw [HA2.out]; rfl, by rw [HA2.out]; exact Kd.R_mono HO.out (fun _ _ => trivial), HB.out⟩
    · have HA2 : Aside0 (blockV l0 r = ([], wrongV [r])) := ⟨by rw [HA.out, if_neg hv2]⟩
      generalize wrongV [r] = v at *
      go_wp2
      go_ret2
      exact ⟨_, by rw [HA2.out]; rfl, by rw [HA2.out]; exact Kd.R_nil _ _ _ _ _, HB2.out⟩
  · have HA : Aside0 (blockV l0 r = ([], wrongV l0)) := ⟨by unfold blockV; rw [if_neg hv]⟩
    generalize wrongV l0 = v at *
    go_wp2
    go_ret2
    exact ⟨_, by rw [HA.out]; rfl, by rw [HA.out]; exact Kd.R_nil _ _ _ _ _, HB1.out⟩
def locks_Blockers.f (l0 : List (S25)) (a1_0 : Int) (a1_1 : Int) (a1_2 : Int) (a1_3 : Int) (a1_4 : ByteArray) (a1_5 : ByteArray) (a1_6 : Bool) (l1_7 : List ByteArray) (l1_8 : List (S62)) : Option (List Int × Int) :=
  if l0.all sizesOkB = true ∧ sizesOkB ⟨a1_0, a1_1, a1_2, a1_3, a1_4, a1_5, a1_6, l1_7, l1_8⟩ = true then some (blockV l0 ⟨a1_0, a1_1, a1_2, a1_3, a1_4, a1_5, a1_6, l1_7, l1_8⟩) else none
theorem locks_Blockers.calls (A0 : Option Addr) (c0 : Nat) (l0 : List (S25)) (a1_0 : Int) (a1_1 : Int) (a1_2 : Int) (a1_3 : Int) (a1_4 : ByteArray) (a1_5 : ByteArray) (a1_6 : Bool) (A1_7 : Option Addr) (c1_7 : Nat) (l1_7 : List ByteArray) (A1_8 : Option Addr) (c1_8 : Nat) (l1_8 : List (S62)) (r1 : List Int) (r2 : Int) (w : World) (hr0 : Kd.C k25 w A0 l0.length l0) (hc0 : l0.length ≤ c0) (hr1_7 : Kd.C Kd.string w A1_7 l1_7.length l1_7) (hc1_7 : l1_7.length ≤ c1_7) (hr1_8 : Kd.C k62 w A1_8 l1_8.length l1_8) (hc1_8 : l1_8.length ≤ c1_8) (h : locks_Blockers.f l0 a1_0 a1_1 a1_2 a1_3 a1_4 a1_5 a1_6 l1_7 l1_8 = some (r1, r2)) :
    Calls Try.prog 15 #[.slice A0 l0.length c0, .agg #[.int .i64 a1_0, .int .i64 a1_1, .int .i64 a1_2, .int .i64 a1_3, .string a1_4, .string a1_5, .bool a1_6, .slice A1_7 l1_7.length c1_7, .slice A1_8 l1_8.length c1_8]] w fun e w' => ∃ v0_ : Value, e = .returned (.tuple #[v0_, .int .i64 r2]) ∧ Kd.R (Kd.int .i64) 3 w' w.heap.size (fun _ => True) v0_ r1 ∧ Below w.heap.size w w' := by
  unfold locks_Blockers.f at h
  split at h
  · rename_i hs
    have he := Option.some.inj h
    have := block_walk A0 c0 l0 ⟨a1_0, a1_1, a1_2, a1_3, a1_4, a1_5, a1_6, l1_7, l1_8⟩ A1_7 c1_7 A1_8 c1_8 w hr0 hc0 (fun r hr => sizesOk_of r (List.all_eq_true.1 hs.1 r hr)) hr1_7 hc1_7 hr1_8 hc1_8 (sizesOk_of _ hs.2)
    rw [he] at this
    exact this
  · cases h
end Go.Proofs.Ytpfhdgacjeklaaa.PLocks
