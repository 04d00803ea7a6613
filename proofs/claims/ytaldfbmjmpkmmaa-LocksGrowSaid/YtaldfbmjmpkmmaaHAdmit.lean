/- locks.Admit: which of a list are admitted. -/
-- IMPORTS
-- END IMPORTS
import Derived.Test.YtaldfbmjmpkmmaaPL0
import Derived.Test.YtaldfbmjmpkmmaaPLf58
import Derived.Test.YtaldfbmjmpkmmaaHWrong
namespace Go.Proofs.Ytaldfbmjmpkmmaa.PL.Lk
open Go.Proofs.Ytaldfbmjmpkmmaa.PL Go.RowKit Go.Proofs.YtaldfbmjmpkmmaaW.PrintWords Go.Proofs.YtaldfbmjmpkmmaaW.PrintLast Go.Proofs.YtaldfbmjmpkmmaaW.PrintMore Go.Maps Mk
set_option linter.unusedVariables false
set_option linter.unusedSimpArgs false

theorem info3A : (Try.prog.info? 3).map (fun i => (i.zero, i.size, i.bytes)) = some (some (.int .i64 0), 1, 8) := by kernel_rfl
/-- Those of the first k that are admitted. -/
def admitTo (l : List S35) : Nat → List Int
  | 0 => []
  | k + 1 => if (admitTo l k).any (fun j => clashR (rd_T35 l j) (rd_T35 l (k : Int))) = true then admitTo l k else admitTo l k ++ [(k : Int)]
theorem admitTo_mem (l : List S35) : ∀ (k : Nat) (j : Int), j ∈ admitTo l k → 0 ≤ j ∧ j < k
  | 0, j, h => by cases h
  | k + 1, j, h => by
    unfold admitTo at h
    split at h
    · have := admitTo_mem l k j h; omega
    · rcases List.mem_append.1 h with h | h
      · have := admitTo_mem l k j h; omega
      · have : j = k := by simpa using h
        omega
theorem admitTo_len (l : List S35) : ∀ k, (admitTo l k).length ≤ k
  | 0 => by simp [admitTo]
  | k + 1 => by
    have := admitTo_len l k
    unfold admitTo
    split
    · omega
    · simp; omega
def sizesOkB (r : S35) : Bool := decide (r.f7.length < 8796093022208) && decide (r.f8.length < 8796093022208)
theorem sizesOk_of (r : S35) (h : sizesOkB r = true) : sizesOk r := by
  unfold sizesOkB at h
  simpa [sizesOk] using h
def admitV (l : List S35) : List Int × Int := if wrongV l = 0 then (admitTo l l.length, 0) else ([], wrongV l)
def locks_Admit.f (l0 : List (S35)) : Option (List Int × Int) := if l0.all sizesOkB = true then some (admitV l0) else none

set_option maxRecDepth 100000 in
set_option maxHeartbeats 2000000 in
theorem admit_walk (A0 : Option Addr) (c0 : Nat) (l0 : List (S35)) (w : World) (hr0 : Kd.C k35 w A0 l0.length l0) (hc0 : l0.length ≤ c0) (hs : ∀ r, r ∈ l0 → sizesOk r) :
    Calls Try.prog 27 #[.slice A0 l0.length c0] w fun e w' => ∃ v0_ : Value, e = .returned (.tuple #[v0_, .int .i64 (admitV l0).2]) ∧ Kd.R (Kd.int .i64) 3 w' w.heap.size (fun _ => True) v0_ (admitV l0).1 ∧ Below w.heap.size w w' := by
  have hmax := Kd.C_max hr0
  have HR := Aside0.mk hr0
  have HC := Aside0.mk hc0
  have hwf := wrong_f l0 hmax hs (l0.length + 1) (by omega)
  have HW := Aside0.mk hwf
  have HS := Aside0.mk hs
  clear hr0 hc0 hwf hs
  have hu35 := Try.underlying35
  go_enter Try.func27, Try.ntmps27
  go_wp2_with fail
  refine (locks_wrong.calls _ A0 c0 l0 _ _ (Kd.C_alloc HR.out _) HC.out HW.out).mono ?_
  rintro e w1 ⟨rfl, hb1⟩
  have hbk := blk_below (blk_new w (.cells #[.slice A0 l0.length c0] 22)) hb1
  have hB1 : Below w.heap.size w w1 := (below_alloc (Below.refl _ w) (.cells #[.slice A0 l0.length c0] 22)).trans (hb1.mono (by simp))
  have HBK := Aside0.mk hbk
  have HB := Aside0.mk hB1
  clear hbk hB1 hb1
  by_cases hv : wrongV l0 = 0
  · have HV := Aside0.mk (wrong_zero l0 hv)
    have HA : Aside0 (admitV l0 = (admitTo l0 l0.length, 0)) := ⟨by unfold admitV; rw [if_pos hv]⟩
    rw [hv]
    have p0 : w1.cell? ⟨w.heap.size, 0, none⟩ = some (.slice A0 l0.length c0) := (blk_cell HBK.out 0).trans rfl
    clear hv HW
    go_wp2
    go_loopw [15, 5] (fun i v wr => ∃ k : Nat, k ≤ l0.length ∧ i = .int .i64 k ∧ Aside0 (Kd.R (Kd.int .i64) 3 wr w.heap.size (fun j => j ≠ w.heap.size) v (admitTo l0 k)) ∧
        Aside0 (wr.heap[w.heap.size]? = some (.cells #[.slice A0 l0.length c0] 22)) ∧ Aside0 (Below w.heap.size w wr))
      (fun i v _ => l0.length - (intOf i).toNat)
    case atStart => exact ⟨0, Nat.zero_le _, rfl, ⟨Kd.R_nil _ _ _ _ _⟩, HBK, HB⟩
    case round =>
      clear HBK HB p0
      obtain ⟨k, hk, rfl, HO, HBK, HB⟩ := hrel
      by_cases hlt : k < l0.length
      · obtain ⟨ad, A7, c7, A8, c8, rfl, q0, q1, q2, q3, q4, q5, q6, q7, q8, g7c, g7, g8c, g8⟩ := at_T35 (Kd.C_below HR.out HB.out) (k : Int) (by omega) (by omega)
        rw [Int.toNat_natCast] at q0 q1 q2 q3 q4 q5 q6 q7 q8
        obtain ⟨r, hr⟩ : ∃ r, r = rd_T35 l0 (k : Int) := ⟨_, rfl⟩
        rw [← hr] at q0 q1 q2 q3 q4 q5 q6 q7 q8 g7c g7 g8c g8
        have HRR := Aside0.mk hr
        obtain ⟨A5, c5, rfl, hlc, hC5⟩ := Kd.R_reads HO.out
        have hbr := blk_new wr (.cells #[.int .i64 r.f0, .int .i64 r.f1, .int .i64 r.f2, .int .i64 r.f3, .string r.f4, .string r.f5, .bool r.f6, .slice A7 r.f7.length c7, .slice A8 r.f8.length c8] 35)
        have hB2 : Below w.heap.size w (wr.alloc (.cells #[.int .i64 r.f0, .int .i64 r.f1, .int .i64 r.f2, .int .i64 r.f3, .string r.f4, .string r.f5, .bool r.f6, .slice A7 r.f7.length c7, .slice A8 r.f8.length c8] 35)) := HB.out.alloc HB.out.size _
        have HB2 := Aside0.mk hB2
        have hT : Tells (wr.alloc (.cells #[.int .i64 r.f0, .int .i64 r.f1, .int .i64 r.f2, .int .i64 r.f3, .string r.f4, .string r.f5, .bool r.f6, .slice A7 r.f7.length c7, .slice A8 r.f8.length c8] 35)) 60
            #[.pointer (some ⟨w.heap.size, 0, none⟩), .pointer (some ⟨wr.heap.size, 0, none⟩)] (admitTo l0 k) (fun j => clashR (rd_T35 l0 j) r) := by
          intro W hW x hx
          have hxm := admitTo_mem l0 k x hx
          obtain ⟨j, rfl⟩ : ∃ j : Nat, x = (j : Int) := ⟨x.toNat, by omega⟩
          have hjl : j < l0.length := by omega
          have hsj : smallR (rd_T35 l0 (j : Int)) := by rw [rd25_nat l0 j hjl]; exact prep_small _ (HV.out.2 _ (List.getElem_mem hjl))
          have hsr : smallR r := by rw [HRR.out, rd25_nat l0 k hlt]; exact prep_small _ (HV.out.2 _ (List.getElem_mem hlt))
          exact admit_one W w.heap.size wr.heap.size (some ad) c0 l0 r A7 c7 A8 c8 j hjl (Kd.C_below HR.out (hB2.trans (hW.mono hB2.size))) (Kd.C_below (Kd.C_alloc g7 _) hW) (Kd.C_below (Kd.C_alloc g8 _) hW)
            (blk_below (blk_alloc HBK.out _) hW) (blk_below hbr hW) hsj hsr
        have HT := Aside0.mk hT
        have HC5 := Aside0.mk hC5
        have HLC := Aside0.mk hlc
        have HSTEP : Aside0 (admitTo l0 (k + 1) = if (admitTo l0 k).any (fun j => clashR (rd_T35 l0 j) r) = true then admitTo l0 k else admitTo l0 k ++ [(k : Int)]) := ⟨by rw [HRR.out]; rfl⟩
        have HLEN := Aside0.mk (admitTo_len l0 k)
        clear hr g7 g8 g7c g8c hbr hB2 hT hC5 hlc
        go_wp2_with fail
        refine (contains_func _ A5 c5 (admitTo l0 k) _ _ _ (Kd.C_alloc HC5.out _) HT.out).mono ?_
        rintro e w2 ⟨rfl, hb2⟩
        have HO2 := Aside0.mk (Kd.R_below (Kd.R_alloc HO.out _) hb2)
        have HBK2 := Aside0.mk (blk_below (blk_alloc HBK.out _) hb2)
        have HB3 : Aside0 (Below w.heap.size w w2) := ⟨HB2.out.trans (hb2.mono HB2.out.size)⟩
        have HLT : Aside0 (w.heap.size < w2.heap.size) := ⟨blk_lt HBK2.out⟩
        clear hb2 HO HBK HB HC5 HT HB2 q0 q1 q2 q3 q4 q5 q6 q7 q8
        have hl256 := HV.out.1
        generalize (admitTo l0 k).any (fun j => clashR (rd_T35 l0 j) r) = v at *
        cases v with
        | true =>
          go_wp2_with fail
          go_roundw
          case rel => exact ⟨k + 1, by omega, by go_num, ⟨by rw [HSTEP.out]; exact HO2.out⟩, HBK2, HB3⟩
          case measure => simp [intOf]; omega
        | false =>
          have hlen := HLEN.out
          go_wp2_with (first
            | (at_builtin
               refine Kd.R_append (Kd.int .i64) (w0 := w) w.heap.size rfl (.tmp 24) (.tmp 26) 59 3 (.int .i64 0) 8 rfl Try.underlying59 info3A rfl (by decide) (by omega) _ (admitTo l0 k) (k : Int) [.int .i64 (k : Int)] (fun j => j ≠ w.heap.size) (fun _ => False) rfl rfl rfl (fun _ hk => hk.elim) (fun j hj => by have := HLT.out; omega) HO2.out HB3.out HB3.out.size (by omega) ?_
               intro v1 w3 ho hb hg hat
               have HO3 := Aside0.mk ho
               have HB4 := Aside0.mk hb
               have HBK3 : Aside0 (w3.heap[w.heap.size]? = some (.cells #[.slice (some ad) l0.length c0] 22)) := ⟨blk_grown HBK2.out hg (fun h => HO2.out.1 w.heap.size h.symm rfl)⟩
               clear ho hb hg hat))
          go_roundw
          case rel => exact ⟨k + 1, by omega, by go_num, ⟨by rw [HSTEP.out]; exact HO3.out⟩, HBK3, HB4⟩
          case measure => simp [intOf]; omega
      · obtain rfl : k = l0.length := by omega
        go_wp2
        go_ret2
        exact ⟨_, by rw [HA.out]; rfl, by rw [HA.out]; exact Kd.R_mono HO.out (fun _ _ => trivial), HB.out⟩
  · have HA : Aside0 (admitV l0 = ([], wrongV l0)) := ⟨by unfold admitV; rw [if_neg hv]⟩
    have hb : (wrongV l0 != 0) = true := by simpa using hv
    clear hv
    generalize wrongV l0 = v at *
    go_wp2
    go_ret2
    exact ⟨_, by rw [HA.out]; rfl, by rw [HA.out]; exact Kd.R_nil _ _ _ _ _, HB.out⟩
theorem locks_Admit.calls (A0 : Option Addr) (c0 : Nat) (l0 : List (S35)) (r1 : List Int) (r2 : Int) (w : World) (hr0 : Kd.C k35 w A0 l0.length l0) (hc0 : l0.length ≤ c0) (h : locks_Admit.f l0 = some (r1, r2)) :
    Calls Try.prog 27 #[.slice A0 l0.length c0] w fun e w' => ∃ v0_ : Value, e = .returned (.tuple #[v0_, .int .i64 r2]) ∧ Kd.R (Kd.int .i64) 3 w' w.heap.size (fun _ => True) v0_ r1 ∧ Below w.heap.size w w' := by
  unfold locks_Admit.f at h
  split at h
  · rename_i hs
    have he : admitV l0 = (r1, r2) := by simpa using h
    have := admit_walk A0 c0 l0 w hr0 hc0 (fun r hr => sizesOk_of r (List.all_eq_true.1 hs r hr))
    rw [he] at this
    exact this
  · cases h
end Go.Proofs.Ytaldfbmjmpkmmaa.PL.Lk
