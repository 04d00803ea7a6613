/- Texts of this proof, one behind the other (merged by a program of this session). -/
import Derived.Test.YtaldfbmjmpkmmaaMc5f0ce
import Derived.Test.YtaldfbmjmpkmmaaM76d209
import Derived.Lib.Strings
import Derived.Sort.Walk0
import Derived.Maps.Range
import Derived.Maps.RangeWalk
import Derived.Shelf.SlMaps.Clone
import Derived.Shelf.SlMaps.DeleteFunc
import Derived.StillTailTactics
import Derived.Lib.SliceRun
import Derived.Shelf.SlGeneric
import Derived.Shelf.SlSorted.Search
import Derived.Ground.SlsoProg
import Derived.Shelf.Spec.SlicesGrow
import Derived.Ground.Names8Prog
import Derived.Ground.SlmcProg
import Derived.Ground.SlmdProg
import Derived.Test.YtaldfbmjmpkmmaaProg
namespace Go.Proofs.Ytaldfbmjmpkmmaa.PL.Lk
open Go.Proofs.Ytaldfbmjmpkmmaa.PL Go.RowKit Go.Proofs.YtaldfbmjmpkmmaaW.PrintWords Go.Proofs.YtaldfbmjmpkmmaaW.PrintLast Go.Proofs.YtaldfbmjmpkmmaaW.PrintMore Go.Maps Mk
set_option linter.unusedVariables false
set_option linter.unusedSimpArgs false

def sizesOk (r : S35) : Prop := r.f7.length < 8796093022208 ∧ r.f8.length < 8796093022208
def recVR (r : S35) : Int := recV r.f0 r.f1 r.f2 r.f3 r.f4 r.f5 r.f6 r.f7 r.f8
def prepB (r : S35) : Bool := r.f0 == 1 && recVR r == 0
def wrongV (l : List S35) : Int := if 256 < l.length then 2 else if l.all prepB = true then 0 else 80
theorem check_f (r : S35) (h : sizesOk r) : record_Check.f r.f0 r.f1 r.f2 r.f3 r.f4 r.f5 r.f6 r.f7 r.f8 = some (recVR r) := by
  unfold record_Check.f recVR
  exact if_pos h
theorem rd25_nat (l : List S35) (i : Nat) (h : i < l.length) : rd_T35 l (i : Int) = l[i] := by
  unfold rd_T35; simp [List.getElem?_eq_getElem h]
theorem wrong_from (l : List S35) (hl : l.length ≤ 9223372036854775807) (hs : ∀ r, r ∈ l → sizesOk r) (d : Nat) : ∀ (k i : Nat), i + d = l.length → d < k →
    locks_wrong.l0 k l (l.length : Int) (i : Int) = some (if (l.drop i).all prepB = true then 0 else 80) := by
  induction d with
  | zero =>
    intro k i hd hk
    obtain ⟨k, rfl⟩ : ∃ m, k = m + 1 := ⟨k - 1, by omega⟩
    simp only [locks_wrong.l0]
    rw [if_neg (by omega), List.drop_of_length_le (by omega)]
    rfl
  | succ d ih =>
    intro k i hd hk
    obtain ⟨k, rfl⟩ : ∃ m, k = m + 1 := ⟨k - 1, by omega⟩
    have hi : i < l.length := by omega
    have e1 : l.drop i = l[i] :: l.drop (i + 1) := (List.drop_eq_getElem_cons hi)
    have e3 : wrap64 ((i : Int) + 1) = ((i + 1 : Nat) : Int) := by rw [w64 _ (by omega) (by omega)]; omega
    simp only [locks_wrong.l0]
    rw [if_pos (by omega), if_pos (by omega), if_pos (by omega), rd25_nat l i hi, check_f _ (hs _ (List.getElem_mem hi)), e1, List.all_cons, e3]
    by_cases h1 : l[i].f0 = 1
    · rw [if_pos h1, Option.bind_some]
      by_cases h2 : recVR l[i] = 0
      · rw [if_pos h2, ih k (i + 1) (by omega) (by omega)]
        simp [prepB, h1, h2]
      · rw [if_neg h2]
        simp [prepB, h1, h2]
    · rw [if_neg h1]
      simp [prepB, h1]
theorem wrong_f (l : List S35) (hl : l.length ≤ 9223372036854775807) (hs : ∀ r, r ∈ l → sizesOk r) (k : Nat) (hk : l.length < k) : locks_wrong.f k l = some (wrongV l) := by
  unfold locks_wrong.f wrongV
  by_cases h : 256 < l.length
  · rw [if_pos (by omega), if_pos h]
  · rw [if_neg (by omega), if_neg h]
    exact wrong_from l hl hs l.length k 0 (by omega) hk

theorem ris_size : ∀ (l : List ByteArray) (q : Option (List UInt8)), ris q l = true → ∀ s, s ∈ l → s.size ≤ 32
  | [], _, _, s, hs => by cases hs
  | a :: r, q, h, s, hs => by
    have hk : keyB a = true ∧ ris (some a.toList) r = true := by
      cases q <;> simp only [ris, Bool.and_eq_true] at h
      · exact h
      · exact ⟨h.1, h.2.2⟩
    rcases List.mem_cons.1 hs with rfl | hs
    · have := hk.1
      unfold keyB at this
      simp only [Bool.and_eq_true, decide_eq_true_eq] at this
      exact this.2
    · exact ris_size r _ hk.2 s hs
theorem listed_small (l7 : List ByteArray) (l8 : List S56) (h : listedB l7 l8 = true) : small l7 ∧ small (wkeys l8) ∧ l7.length ≤ 16 ∧ l8.length ≤ 16 := by
  unfold listedB writesB at h
  simp only [Bool.and_eq_true, decide_eq_true_eq] at h
  obtain ⟨h1, h2, h3, h4, h5⟩ := h
  refine ⟨⟨by omega, fun s hs => ?_⟩, ⟨by unfold wkeys; rw [List.length_map]; omega, fun s hs => ?_⟩, h1, h4⟩
  · have := ris_size l7 none h2 s hs; omega
  · have := ris_size _ none h5 s hs; omega
theorem recVR_listed (r : S35) (h : prepB r = true) : listedB r.f7 r.f8 = true := by
  unfold prepB at h
  simp only [Bool.and_eq_true, beq_iff_eq] at h
  obtain ⟨h1, h2⟩ := h
  unfold recVR recV at h2
  split at h2
  · cases h2
  · split at h2
    · rename_i hok
      rw [ok1 h1] at hok
      simp only [Bool.and_eq_true] at hok
      exact hok.1.1
    · cases h2
theorem prep_small (r : S35) (h : prepB r = true) : smallR r :=
  ⟨(listed_small _ _ (recVR_listed r h)).1, (listed_small _ _ (recVR_listed r h)).2.1⟩
theorem smallB_of (l : List ByteArray) (h : small l) : smallB l = true := by
  unfold smallB
  rw [Bool.and_eq_true, decide_eq_true_eq, List.all_eq_true]
  exact ⟨h.1, fun s hs => by simpa using h.2 s hs⟩
theorem clash_f (a b : S35) (ha : smallR a) (hb : smallR b) : locks_clash.f a.f0 a.f1 a.f2 a.f3 a.f4 a.f5 a.f6 a.f7 a.f8 b.f0 b.f1 b.f2 b.f3 b.f4 b.f5 b.f6 b.f7 b.f8 = some (clashR a b) := by
  unfold locks_clash.f
  rw [if_pos ⟨smallB_of _ ha.1, smallB_of _ ha.2, smallB_of _ hb.1, smallB_of _ hb.2⟩]
  rfl
theorem wrong_zero (l : List S35) (h : wrongV l = 0) : l.length ≤ 256 ∧ ∀ r, r ∈ l → prepB r = true := by
  unfold wrongV at h
  split at h
  · cases h
  · rename_i hl
    split at h
    · rename_i ha
      exact ⟨by omega, fun r hr => List.all_eq_true.1 ha r hr⟩
    · cases h
end Go.Proofs.Ytaldfbmjmpkmmaa.PL.Lk
namespace Go.Proofs.Ytaldfbmjmpkmmaa.PL.Lk
open Go.Proofs.Ytaldfbmjmpkmmaa.PL Go.RowKit Go.Proofs.YtaldfbmjmpkmmaaW.PrintWords Go.Proofs.YtaldfbmjmpkmmaaW.PrintLast Go.Proofs.YtaldfbmjmpkmmaaW.PrintMore Go.Maps Mk
set_option linter.unusedVariables false
set_option linter.unusedSimpArgs false

theorem info3A : (Try.prog.info? 3).map (fun i => (i.zero, i.size, i.bytes)) = some (some (.int .i64 0), 1, 8) := by kernel_rfl
/-- Those of the first k that are admitted. -/
def admitTo (l : List S35) : Nat → List Int
  | 0 => []
  | k + 1 => if (admitTo l k).any (fun j => clashR (rd_T35 l j) (rd_T35 l (k : Int))) = true then admitTo l k else admitTo l k ++ [(k : Int)]
theorem admitTo_mem (l : List S35) : ∀ (k : Nat) (j : Int), j ∈ admitTo l k → 0 ≤ j ∧ j < k
  | 0, j, h => by cases h
  | k + 1, j, h => by
    unfold admitTo at h
    split at h
    · have := admitTo_mem l k j h; omega
    · rcases List.mem_append.1 h with h | h
      · have := admitTo_mem l k j h; omega
      · have : j = k := by simpa using h
        omega
theorem admitTo_len (l : List S35) : ∀ k, (admitTo l k).length ≤ k
  | 0 => by simp [admitTo]
  | k + 1 => by
    have := admitTo_len l k
    unfold admitTo
    split
    · omega
    · simp; omega
def sizesOkB (r : S35) : Bool := decide (r.f7.length < 8796093022208) && decide (r.f8.length < 8796093022208)
theorem sizesOk_of (r : S35) (h : sizesOkB r = true) : sizesOk r := by
  unfold sizesOkB at h
  simpa [sizesOk] using h
def admitV (l : List S35) : List Int × Int := if wrongV l = 0 then (admitTo l l.length, 0) else ([], wrongV l)
def locks_Admit.f (l0 : List (S35)) : Option (List Int × Int) := if l0.all sizesOkB = true then some (admitV l0) else none

set_option maxRecDepth 100000 in
set_option maxHeartbeats 2000000 in
theorem admit_walk (A0 : Option Addr) (c0 : Nat) (l0 : List (S35)) (w : World) (hr0 : Kd.C k35 w A0 l0.length l0) (hc0 : l0.length ≤ c0) (hs : ∀ r, r ∈ l0 → sizesOk r) :
    Calls Try.prog 27 #[.slice A0 l0.length c0] w fun e w' => ∃ v0_ : Value, e = .returned (.tuple #[v0_, .int .i64 (admitV l0).2]) ∧ Kd.R (Kd.int .i64) 3 w' w.heap.size (fun _ => True) v0_ (admitV l0).1 ∧ Below w.heap.size w w' := by
  have hmax := Kd.C_max hr0
  have HR := Aside0.mk hr0
  have HC := Aside0.mk hc0
  have hwf := wrong_f l0 hmax hs (l0.length + 1) (by omega)
  have HW := Aside0.mk hwf
  have HS := Aside0.mk hs
  clear hr0 hc0 hwf hs
  have hu35 := Try.underlying35
  go_enter Try.func27, Try.ntmps27
  go_wp2_with fail
  refine (locks_wrong.calls _ A0 c0 l0 _ _ (Kd.C_alloc HR.out _) HC.out HW.out).mono ?_
  rintro e w1 ⟨rfl, hb1⟩
  have hbk := blk_below (blk_new w (.cells #[.slice A0 l0.length c0] 22)) hb1
  have hB1 : Below w.heap.size w w1 := (below_alloc (Below.refl _ w) (.cells #[.slice A0 l0.length c0] 22)).trans (hb1.mono (by simp))
  have HBK := Aside0.mk hbk
  have HB := Aside0.mk hB1
  clear hbk hB1 hb1
  by_cases hv : wrongV l0 = 0
  · have HV := Aside0.mk (wrong_zero l0 hv)
    have HA : Aside0 (admitV l0 = (admitTo l0 l0.length, 0)) := ⟨by unfold admitV; rw [if_pos hv]⟩
    rw [hv]
    have p0 : w1.cell? ⟨w.heap.size, 0, none⟩ = some (.slice A0 l0.length c0) := (blk_cell HBK.out 0).trans rfl
    clear hv HW
    go_wp2
    go_loopw [15, 5] (fun i v wr => ∃ k : Nat, k ≤ l0.length ∧ i = .int .i64 k ∧ Aside0 (Kd.R (Kd.int .i64) 3 wr w.heap.size (fun j => j ≠ w.heap.size) v (admitTo l0 k)) ∧
        Aside0 (wr.heap[w.heap.size]? = some (.cells #[.slice A0 l0.length c0] 22)) ∧ Aside0 (Below w.heap.size w wr))
      (fun i v _ => l0.length - (intOf i).toNat)
    case atStart => exact ⟨0, Nat.zero_le _, rfl, ⟨Kd.R_nil _ _ _ _ _⟩, HBK, HB⟩
    case round =>
      clear HBK HB p0
      obtain ⟨k, hk, rfl, HO, HBK, HB⟩ := hrel
      by_cases hlt : k < l0.length
      · obtain ⟨ad, A7, c7, A8, c8, rfl, q0, q1, q2, q3, q4, q5, q6, q7, q8, g7c, g7, g8c, g8⟩ := at_T35 (Kd.C_below HR.out HB.out) (k : Int) (by omega) (by omega)
        rw [Int.toNat_natCast] at q0 q1 q2 q3 q4 q5 q6 q7 q8
        obtain ⟨r, hr⟩ : ∃ r, r = rd_T35 l0 (k : Int) := ⟨_, rfl⟩
        rw [← hr] at q0 q1 q2 q3 q4 q5 q6 q7 q8 g7c g7 g8c g8
        have HRR := Aside0.mk hr
        obtain ⟨A5, c5, rfl, hlc, hC5⟩ := Kd.R_reads HO.out
        have hbr := blk_new wr (.cells #[.int .i64 r.f0, .int .i64 r.f1, .int .i64 r.f2, .int .i64 r.f3, .string r.f4, .string r.f5, .bool r.f6, .slice A7 r.f7.length c7, .slice A8 r.f8.length c8] 35)
        have hB2 : Below w.heap.size w (wr.alloc (.cells #[.int .i64 r.f0, .int .i64 r.f1, .int .i64 r.f2, .int .i64 r.f3, .string r.f4, .string r.f5, .bool r.f6, .slice A7 r.f7.length c7, .slice A8 r.f8.length c8] 35)) := HB.out.alloc HB.out.size _
        have HB2 := Aside0.mk hB2
        have hT : Tells (wr.alloc (.cells #[.int .i64 r.f0, .int .i64 r.f1, .int .i64 r.f2, .int .i64 r.f3, .string r.f4, .string r.f5, .bool r.f6, .slice A7 r.f7.length c7, .slice A8 r.f8.length c8] 35)) 60
            #[.pointer (some ⟨w.heap.size, 0, none⟩), .pointer (some ⟨wr.heap.size, 0, none⟩)] (admitTo l0 k) (fun j => clashR (rd_T35 l0 j) r) := by
          intro W hW x hx
          have hxm := admitTo_mem l0 k x hx
          obtain ⟨j, rfl⟩ : ∃ j : Nat, x = (j : Int) := ⟨x.toNat, by omega⟩
          have hjl : j < l0.length := by omega
          have hsj : smallR (rd_T35 l0 (j : Int)) := by rw [rd25_nat l0 j hjl]; exact prep_small _ (HV.out.2 _ (List.getElem_mem hjl))
          have hsr : smallR r := by rw [HRR.out, rd25_nat l0 k hlt]; exact prep_small _ (HV.out.2 _ (List.getElem_mem hlt))
          exact admit_one W w.heap.size wr.heap.size (some ad) c0 l0 r A7 c7 A8 c8 j hjl (Kd.C_below HR.out (hB2.trans (hW.mono hB2.size))) (Kd.C_below (Kd.C_alloc g7 _) hW) (Kd.C_below (Kd.C_alloc g8 _) hW)
            (blk_below (blk_alloc HBK.out _) hW) (blk_below hbr hW) hsj hsr
        have HT := Aside0.mk hT
        have HC5 := Aside0.mk hC5
        have HLC := Aside0.mk hlc
        have HSTEP : Aside0 (admitTo l0 (k + 1) = if (admitTo l0 k).any (fun j => clashR (rd_T35 l0 j) r) = true then admitTo l0 k else admitTo l0 k ++ [(k : Int)]) := ⟨by rw [HRR.out]; rfl⟩
        have HLEN := Aside0.mk (admitTo_len l0 k)
        clear hr g7 g8 g7c g8c hbr hB2 hT hC5 hlc
        go_wp2_with fail
        refine (contains_func _ A5 c5 (admitTo l0 k) _ _ _ (Kd.C_alloc HC5.out _) HT.out).mono ?_
        rintro e w2 ⟨rfl, hb2⟩
        have HO2 := Aside0.mk (Kd.R_below (Kd.R_alloc HO.out _) hb2)
        have HBK2 := Aside0.mk (blk_below (blk_alloc HBK.out _) hb2)
        have HB3 : Aside0 (Below w.heap.size w w2) := ⟨HB2.out.trans (hb2.mono HB2.out.size)⟩
        have HLT : Aside0 (w.heap.size < w2.heap.size) := ⟨blk_lt HBK2.out⟩
        clear hb2 HO HBK HB HC5 HT HB2 q0 q1 q2 q3 q4 q5 q6 q7 q8
        have hl256 := HV.out.1
        generalize (admitTo l0 k).any (fun j => clashR (rd_T35 l0 j) r) = v at *
        cases v with
        | true =>
          go_wp2_with fail
          go_roundw
          case rel => exact ⟨k + 1, by omega, by go_num, ⟨by rw [HSTEP.out]; exact HO2.out⟩, HBK2, HB3⟩
          case measure => simp [intOf]; omega
        | false =>
          have hlen := HLEN.out
          go_wp2_with (first
            | (at_builtin
               refine Kd.R_append (Kd.int .i64) (w0 := w) w.heap.size rfl (.tmp 24) (.tmp 26) 59 3 (.int .i64 0) 8 rfl Try.underlying59 info3A rfl (by decide) (by omega) _ (admitTo l0 k) (k : Int) [.int .i64 (k : Int)] (fun j => j ≠ w.heap.size) (fun _ => False) rfl rfl rfl (fun _ hk => hk.elim) (fun j hj => by have := HLT.out; omega) HO2.out HB3.out HB3.out.size (by omega) ?_
               intro v1 w3 ho hb hg hat
               have HO3 := Aside0.mk ho
               have HB4 := Aside0.mk hb
               have HBK3 : Aside0 (w3.heap[w.heap.size]? = some (.cells #[.slice (some ad) l0.length c0] 22)) := ⟨blk_grown HBK2.out hg (fun h => HO2.out.1 w.heap.size h.symm rfl)⟩
               clear ho hb hg hat))
          go_roundw
          case rel => exact ⟨k + 1, by omega, by go_num, ⟨by rw [HSTEP.out]; exact HO3.out⟩, HBK3, HB4⟩
          case measure => simp [intOf]; omega
      · obtain rfl : k = l0.length := by omega
        go_wp2
        go_ret2
        exact ⟨_, by rw [HA.out]; rfl, by rw [HA.out]; exact Kd.R_mono HO.out (fun _ _ => trivial), HB.out⟩
  · have HA : Aside0 (admitV l0 = ([], wrongV l0)) := ⟨by unfold admitV; rw [if_neg hv]⟩
    have hb : (wrongV l0 != 0) = true := by simpa using hv
    clear hv
    generalize wrongV l0 = v at *
    go_wp2
    go_ret2
    exact ⟨_, by rw [HA.out]; rfl, by rw [HA.out]; exact Kd.R_nil _ _ _ _ _, HB.out⟩
theorem locks_Admit.calls (A0 : Option Addr) (c0 : Nat) (l0 : List (S35)) (r1 : List Int) (r2 : Int) (w : World) (hr0 : Kd.C k35 w A0 l0.length l0) (hc0 : l0.length ≤ c0) (h : locks_Admit.f l0 = some (r1, r2)) :
    Calls Try.prog 27 #[.slice A0 l0.length c0] w fun e w' => ∃ v0_ : Value, e = .returned (.tuple #[v0_, .int .i64 r2]) ∧ Kd.R (Kd.int .i64) 3 w' w.heap.size (fun _ => True) v0_ r1 ∧ Below w.heap.size w w' := by
  unfold locks_Admit.f at h
  split at h
  · rename_i hs
    have he : admitV l0 = (r1, r2) := by simpa using h
    have := admit_walk A0 c0 l0 w hr0 hc0 (fun r hr => sizesOk_of r (List.all_eq_true.1 hs r hr))
    rw [he] at this
    exact this
  · cases h
end Go.Proofs.Ytaldfbmjmpkmmaa.PL.Lk
namespace Go.Proofs.Ytaldfbmjmpkmmaa.PL
open Go.RowKit
set_option linter.unusedVariables false
set_option linter.unusedSectionVars false
abbrev Ver := S29
abbrev Rec := S35
abbrev Wr := S56
abbrev Chain := List Ver
abbrev Key := List UInt8
/-! chains -/
def VerOk (v : Ver) : Prop := 1 ≤ v.f0 ∧ v.f0 ≤ 1125899906842624 ∧ v.f1.size ≤ 2052 ∧ (v.f2 = true → v.f1.toList = [])
structure ChainOk (l : Chain) : Prop where
  len : l.length ≤ 1024
  ver : ∀ v ∈ l, VerOk v
  rise : l.Pairwise (fun x y => x.f0 < y.f0)
def lastV (l : Chain) : Int := (l.getLast?.map (·.f0)).getD 0
/-- How many versions are not above a time. -/
def untilV (l : Chain) (t : Int) : Nat := (l.takeWhile (fun v => decide (v.f0 ≤ t))).length
def zVer : Ver := ⟨0, ⟨#[]⟩, false⟩
def atV (l : Chain) (t : Int) : Ver × Bool := if untilV l t = 0 then (zVer, false) else (l.getD (untilV l t - 1) zVer, true)
def sweepFrom (l : Chain) (t : Int) : Nat := if 0 < untilV l t ∧ (l.getD (untilV l t - 1) zVer).f2 = false then untilV l t - 1 else untilV l t
def sweepC (l : Chain) (t : Int) : Chain := l.drop (sweepFrom l t)
theorem ChainOk.nil : ChainOk [] := ⟨by simp, by simp, by simp⟩
theorem ChainOk.drop {l : Chain} (h : ChainOk l) (n : Nat) : ChainOk (l.drop n) :=
  ⟨by rw [List.length_drop]; have := h.len; omega, fun v hv => h.ver v (List.mem_of_mem_drop hv), h.rise.sublist (List.drop_sublist _ _)⟩
theorem last_all {l : Chain} (h : ChainOk l) : ∀ v ∈ l, v.f0 ≤ lastV l := fun v hv => by
  unfold lastV
  cases hl : l.getLast? with
  | none => rw [List.getLast?_eq_none_iff.1 hl] at hv; simp at hv
  | some u =>
    simp only [Option.map_some, Option.getD_some]
    obtain ⟨ys, e⟩ := List.getLast?_eq_some_iff.1 hl
    have hr := h.rise
    rw [e] at hv hr
    rcases List.mem_append.1 hv with hv | hv
    · have := (List.pairwise_append.1 hr).2.2 v hv u (by simp)
      omega
    · rw [List.mem_singleton.1 hv]
      exact Int.le_refl _
theorem ChainOk.snoc {l : Chain} (h : ChainOk l) {v : Ver} (hv : VerOk v) (hl : l.length < 1024) (ht : lastV l < v.f0) : ChainOk (l ++ [v]) :=
  ⟨by rw [List.length_append]; simp; omega, fun u hu => by
    rcases List.mem_append.1 hu with hu | hu
    · exact h.ver u hu
    · rw [List.mem_singleton.1 hu]; exact hv, List.pairwise_append.2 ⟨h.rise, by simp, fun a ha b hb => by
    rw [List.mem_singleton.1 hb]
    have := last_all h a ha
    omega⟩⟩
theorem last_snoc (l : Chain) (v : Ver) : lastV (l ++ [v]) = v.f0 := by unfold lastV; simp
theorem last_nil : lastV [] = 0 := rfl
/-! the shelf -/
structure Sh where
  K : List (Key × Chain)
  P : List Rec
  E : List (Int × Int)
  over : Int
def kb (s : ByteArray) : Key := s.data.toList
theorem kb_toList (s : ByteArray) : s.toList = kb s := Lib.toList_data s
def look : List (Key × Chain) → Key → Chain
  | [], _ => []
  | (k, c) :: r, q => if k = q then c else look r q
def kput : List (Key × Chain) → Key → Chain → List (Key × Chain)
  | [], q, c => [(q, c)]
  | (k, d) :: r, q, c => if k = q then (q, c) :: r else if Op.bytesLess k q = true then (k, d) :: kput r q c else (q, c) :: (k, d) :: r
def pput : List Rec → Rec → List Rec
  | [], r => [r]
  | x :: l, r => if x.f1 < r.f1 then x :: pput l r else r :: x :: l
def stateV (s : Sh) (t : Int) : Int × Int :=
  if s.P.any (fun r => decide (r.f1 = t)) = true then (1, 0)
  else match s.E.find? (fun e => decide (e.1 = t)) with
  | none => (0, 0)
  | some e => if e.2 = 0 then (3, 0) else (2, e.2)
def wrote (r : Rec) (k : Key) : Bool := r.f8.any (fun w => kb w.f0 == k)
def watches (r : Rec) (k : Key) : Bool := r.f7.any (fun q => kb q == k)
def heldR (r : Rec) (k : Key) (write : Bool) : Bool := wrote r k || (write && watches r k)
def heldV (s : Sh) (k : Key) (write : Bool) : Bool := s.P.any (fun r => heldR r k write)
def prepV (s : Sh) (r : Rec) : Int × Sh :=
  if 0 < (stateV s r.f1).1 then (6, s)
  else if (r.f7.any (fun k => heldV s (kb k) false) || r.f8.any (fun w => heldV s (kb w.f0) true)) = true then (180, s)
  else if 1024 ≤ s.P.length then (2, s)
  else (0, { s with P := pput s.P r })
def wkey (w : Wr) : Key := kb w.f0
/-- The keys counted with w's. -/
def cntK (K : List (Key × Chain)) (n : Nat) (w : Wr) : Nat := if (look K (wkey w)).isEmpty = true then n + 1 else n
/-- .. while there is room. -/
def roomN (K : List (Key × Chain)) : Nat → List Wr → Int
  | _, [] => 0
  | n, w :: l => if 1024 ≤ (look K (wkey w)).length ∨ 1024 < cntK K n w then 2 else roomN K (cntK K n w) l
def roomV (s : Sh) (l : List Wr) (ts : Int) : Int :=
  if l.any (fun w => decide (ts ≤ lastV (look s.K (wkey w)))) = true then 110 else roomN s.K s.K.length l
def put1 (ts : Int) (K : List (Key × Chain)) (w : Wr) : List (Key × Chain) := kput K (wkey w) (look K (wkey w) ++ [⟨ts, w.f1, w.f2⟩])
def putV (K : List (Key × Chain)) (l : List Wr) (ts : Int) : List (Key × Chain) := l.foldl (put1 ts) K
def endE (E : List (Int × Int)) (x : Int × Int) : List (Int × Int) := if 1024 < (E ++ [x]).length then (E ++ [x]).drop 1 else E ++ [x]
def endV (s : Sh) (t ts : Int) : Sh := { s with P := s.P.filter (fun r => !decide (r.f1 = t)), E := endE s.E (t, ts) }
def writesOf (s : Sh) (t : Int) : List Wr := ((s.P.find? (fun r => decide (r.f1 = t))).map (·.f8)).getD []
def doV (s : Sh) (t ts : Int) : Int × Sh :=
  if 1 < (stateV s t).1 ∧ (stateV s t).2 = ts then (6, s)
  else if 1 < (stateV s t).1 then (120, s)
  else if (stateV s t).1 = 1 ∧ 0 < ts then
    (if roomV s (writesOf s t) ts = 0 then (0, endV { s with K := putV s.K (writesOf s t) ts } t ts) else (roomV s (writesOf s t) ts, s))
  else (0, endV s t ts)
def sweepK (K : List (Key × Chain)) (t : Int) : List (Key × Chain) := (K.map (fun p => (p.1, sweepC p.2 t))).filter (fun p => !p.2.isEmpty)
def sweepV (s : Sh) (t : Int) : Int × Sh := if t < s.over then (110, s) else (0, { s with over := t, K := sweepK s.K t })
def okR (r : Rec) : Int := recV r.f0 r.f1 r.f2 r.f3 r.f4 r.f5 r.f6 r.f7 r.f8
def verW (r : Rec) : Wr := ⟨r.f4, r.f5, r.f6⟩
def applyV (s : Sh) (r : Rec) : Int × Sh :=
  if okR r = 0 then
    (if r.f0 = 1 then prepV s r
    else if r.f0 = 2 then doV s r.f1 r.f2
    else if r.f0 = 4 then sweepV s r.f2
    else if r.f0 = 3 then (if roomV s [verW r] r.f2 = 0 then (0, { s with K := putV s.K [verW r] r.f2 }) else (roomV s [verW r] r.f2, s))
    else (80, s))
  else (okR r, s)
def readV (s : Sh) (k : Key) (t : Int) : Int × Ver :=
  if t < s.over then (4, zVer)
  else if heldV s k false = true then (3, zVer)
  else if (atV (look s.K k) t).2 = false then (0, (atV (look s.K k) t).1)
  else if (atV (look s.K k) t).1.f2 = true then (2, (atV (look s.K k) t).1)
  else (1, (atV (look s.K k) t).1)
def sh0 : Sh := ⟨[], [], [], 0⟩
def madeV (l : List Rec) : Sh := (l.take 60).foldl (fun s r => (applyV s r).2) sh0
end Go.Proofs.Ytaldfbmjmpkmmaa.PL
namespace Go.Proofs.Ytaldfbmjmpkmmaa.PL
open Go.RowKit
set_option linter.unusedVariables false
set_option linter.unusedSectionVars false
set_option linter.unusedSimpArgs false
/-! keys -/
theorem kl_irrefl (k : Key) : Op.bytesLess k k = false := by
  rw [Go.Proofs.bytesLess_eq]
  simp [List.lt_irrefl]
theorem kl_trans {a b c : Key} (h1 : Op.bytesLess a b = true) (h2 : Op.bytesLess b c = true) : Op.bytesLess a c = true := by
  rw [Go.Proofs.bytesLess_eq] at *
  simp only [decide_eq_true_eq] at *
  exact List.lt_trans h1 h2
theorem kl_tri {a b : Key} (h : Op.bytesLess a b = false) (hne : a ≠ b) : Op.bytesLess b a = true := by
  have := Mk.bytesLess_or_eq a b
  rw [h] at this
  have e : (a == b) = false := by simpa using hne
  rw [e] at this
  simpa using this
theorem kl_ne {a b : Key} (h : Op.bytesLess a b = true) : a ≠ b := fun e => by
  subst e
  rw [kl_irrefl] at h
  cases h
def keysK (K : List (Key × Chain)) : List Key := K.map (·.1)
def Rising (l : List Key) : Prop := l.Pairwise (fun a b => Op.bytesLess a b = true)
theorem Rising.nodup {l : List Key} (h : Rising l) : l.Nodup := h.imp (fun h => kl_ne h)
theorem look_kput (K : List (Key × Chain)) (q x : Key) (c : Chain) : look (kput K q c) x = if q = x then c else look K x := by
  induction K with
  | nil => simp [kput, look]
  | cons p r ih =>
    obtain ⟨k, d⟩ := p
    unfold kput
    by_cases h : k = q
    · subst h
      rw [if_pos rfl]
      simp only [look]
      split <;> rfl
    · rw [if_neg h]
      split
      · simp only [look]
        by_cases hx : k = x
        · subst hx
          rw [if_pos rfl, if_neg (fun e => h e.symm), if_pos rfl]
        · rw [if_neg hx, if_neg hx, ih]
      · simp only [look]
theorem kput_keys (K : List (Key × Chain)) (q x : Key) (c : Chain) : x ∈ keysK (kput K q c) ↔ x = q ∨ x ∈ keysK K := by
  induction K with
  | nil => simp [kput, keysK]
  | cons p r ih =>
    obtain ⟨k, d⟩ := p
    unfold kput
    by_cases h : k = q
    · subst h
      rw [if_pos rfl]
      simp [keysK]
    · rw [if_neg h]
      split
      · simp only [keysK, List.map_cons, List.mem_cons] at ih ⊢
        rw [ih]
        constructor
        · rintro (h1 | h1 | h1)
          · exact .inr (.inl h1)
          · exact .inl h1
          · exact .inr (.inr h1)
        · rintro (h1 | h1 | h1)
          · exact .inr (.inl h1)
          · exact .inl h1
          · exact .inr (.inr h1)
      · simp [keysK]
theorem kput_rising {K : List (Key × Chain)} (h : Rising (keysK K)) (q : Key) (c : Chain) : Rising (keysK (kput K q c)) := by
  induction K with
  | nil => simp [kput, keysK, Rising]
  | cons p r ih =>
    obtain ⟨k, d⟩ := p
    have h' : Rising (k :: keysK r) := h
    obtain ⟨h1, h2⟩ := List.pairwise_cons.1 h'
    unfold kput
    by_cases e : k = q
    · subst e
      rw [if_pos rfl]
      exact h'
    · rw [if_neg e]
      split
      · rename_i hl
        refine List.pairwise_cons.2 ⟨fun y hy => ?_, ih h2⟩
        rcases (kput_keys r q y c).1 hy with rfl | hy
        · exact hl
        · exact h1 y hy
      · rename_i hl
        have hq : Op.bytesLess q k = true := kl_tri (by simpa using hl) e
        refine List.pairwise_cons.2 ⟨fun y hy => ?_, h'⟩
        rcases List.mem_cons.1 hy with rfl | hy
        · exact hq
        · exact kl_trans hq (h1 y hy)
theorem kput_mem {K : List (Key × Chain)} {q : Key} {c : Chain} {p : Key × Chain} (h : p ∈ kput K q c) : p = (q, c) ∨ p ∈ K := by
  induction K with
  | nil => simpa [kput] using h
  | cons x r ih =>
    obtain ⟨k, d⟩ := x
    unfold kput at h
    split at h
    · rcases List.mem_cons.1 h with h | h
      · exact .inl h
      · exact .inr (List.mem_cons_of_mem _ h)
    · split at h
      · rcases List.mem_cons.1 h with h | h
        · exact .inr (by rw [h]; exact List.mem_cons_self)
        · rcases ih h with h | h
          · exact .inl h
          · exact .inr (List.mem_cons_of_mem _ h)
      · rcases List.mem_cons.1 h with h | h
        · exact .inl h
        · exact .inr h
theorem kput_len {K : List (Key × Chain)} (h : Rising (keysK K)) (q : Key) (c : Chain) : (kput K q c).length = if q ∈ keysK K then K.length else K.length + 1 := by
  induction K with
  | nil => simp [kput, keysK]
  | cons p r ih =>
    obtain ⟨k, d⟩ := p
    have h' : Rising (k :: keysK r) := h
    obtain ⟨h1, h2⟩ := List.pairwise_cons.1 h'
    unfold kput
    by_cases e : k = q
    · subst e
      rw [if_pos rfl, if_pos (by simp [keysK])]
      rfl
    · rw [if_neg e]
      split
      · rename_i hl
        have := ih h2
        simp only [List.length_cons]
        rw [this]
        have e2 : (q ∈ keysK ((k, d) :: r)) ↔ q ∈ keysK r := by
          simp only [keysK, List.map_cons, List.mem_cons]
          exact ⟨fun h => h.elim (fun h => absurd h.symm e) id, .inr⟩
        by_cases hq : q ∈ keysK r
        · rw [if_pos hq, if_pos (e2.2 hq)]
        · rw [if_neg hq, if_neg (fun h => hq (e2.1 h))]
      · rename_i hl
        have hq : Op.bytesLess q k = true := kl_tri (by simpa using hl) e
        rw [if_neg]
        · rfl
        · intro hm
          rcases List.mem_cons.1 hm with hm | hm
          · exact e hm.symm
          · have := kl_trans hq (h1 q hm)
            rw [kl_irrefl] at this
            cases this
theorem look_mem {K : List (Key × Chain)} {q : Key} (h : look K q ≠ []) : (q, look K q) ∈ K := by
  induction K with
  | nil => exact absurd rfl h
  | cons p r ih =>
    obtain ⟨k, d⟩ := p
    simp only [look] at h ⊢
    split at h
    · rename_i e
      rw [if_pos e, e]
      exact List.mem_cons_self
    · rename_i e
      rw [if_neg e]
      exact List.mem_cons_of_mem _ (ih h)
theorem look_of_mem {K : List (Key × Chain)} (hs : Rising (keysK K)) {q : Key} {c : Chain} (hm : (q, c) ∈ K) : look K q = c := by
  induction K with
  | nil => simp at hm
  | cons p r ih =>
    obtain ⟨k, d⟩ := p
    have h' : Rising (k :: keysK r) := hs
    obtain ⟨h1, h2⟩ := List.pairwise_cons.1 h'
    simp only [look]
    rcases List.mem_cons.1 hm with hm | hm
    · injection hm with e1 e2
      rw [if_pos e1.symm, e2]
    · have : q ∈ keysK r := List.mem_map.2 ⟨_, hm, rfl⟩
      rw [if_neg (kl_ne (h1 q this)), ih h2 hm]
theorem look_none {K : List (Key × Chain)} {q : Key} (h : q ∉ keysK K) : look K q = [] := by
  cases hl : look K q with
  | nil => rfl
  | cons a b =>
    have := look_mem (K := K) (q := q) (by rw [hl]; simp)
    exact absurd (List.mem_map.2 ⟨_, this, rfl⟩) h
/-- Keys and chains that may be. -/
structure KOk (K : List (Key × Chain)) : Prop where
  rise : Rising (keysK K)
  chain : ∀ p ∈ K, p.2 ≠ [] ∧ ChainOk p.2
  few : K.length ≤ 1024
theorem KOk.nil : KOk [] := ⟨by simp [keysK, Rising], by simp, by simp⟩
theorem KOk.look {K : List (Key × Chain)} (h : KOk K) (q : Key) : ChainOk (look K q) := by
  by_cases e : PL.look K q = []
  · rw [e]; exact ChainOk.nil
  · exact (h.chain _ (look_mem e)).2
theorem KOk.iff {K : List (Key × Chain)} (h : KOk K) (q : Key) : PL.look K q = [] ↔ q ∉ keysK K := by
  constructor
  · intro e hq
    obtain ⟨p, hp, rfl⟩ := List.mem_map.1 hq
    have := look_of_mem h.rise (q := p.1) (c := p.2) hp
    exact (h.chain p hp).1 (this.symm.trans e)
  · exact look_none
/-! chains -/
theorem until_le (c : Chain) (t : Int) : untilV c t ≤ c.length := (List.takeWhile_prefix _).length_le
theorem until_cons (v : Ver) (c : Chain) (t : Int) : untilV (v :: c) t = if v.f0 ≤ t then untilV c t + 1 else 0 := by
  unfold untilV
  rw [List.takeWhile_cons]
  by_cases h : v.f0 ≤ t
  · rw [if_pos h, if_pos (by simpa using h)]
    rfl
  · rw [if_neg h, if_neg (by simpa using h)]
    rfl
theorem until_mono {t u : Int} (h : t ≤ u) (c : Chain) : untilV c t ≤ untilV c u := by
  induction c with
  | nil => exact Nat.le_refl _
  | cons v r ih =>
    rw [until_cons, until_cons]
    by_cases h1 : v.f0 ≤ t
    · rw [if_pos h1, if_pos (by omega)]; omega
    · rw [if_neg h1]; omega
theorem until_snoc (c : Chain) (v : Ver) (t : Int) (h : t < v.f0) : untilV (c ++ [v]) t = untilV c t := by
  induction c with
  | nil =>
    rw [List.nil_append, until_cons, if_neg (by omega)]
    rfl
  | cons x r ih => rw [List.cons_append, until_cons, until_cons, ih]
theorem until_drop (j : Nat) : ∀ (c : Chain) (t : Int), j ≤ untilV c t → untilV (c.drop j) t = untilV c t - j := by
  induction j with
  | zero => intro c t _; rfl
  | succ j ih =>
    intro c t h
    cases c with
    | nil => simp [untilV] at h
    | cons v r =>
      rw [until_cons] at h ⊢
      by_cases h1 : v.f0 ≤ t
      · rw [if_pos h1] at h ⊢
        rw [List.drop_succ_cons, ih r t (by omega)]
        omega
      · rw [if_neg h1] at h
        omega
theorem getD_drop (c : Chain) (j i : Nat) (z : Ver) : (c.drop j).getD i z = c.getD (j + i) z := by simp [List.getD_eq_getElem?_getD, List.getElem?_drop]
theorem at_snoc (c : Chain) (v : Ver) (t : Int) (h : t < v.f0) : atV (c ++ [v]) t = atV c t := by
  unfold atV
  rw [until_snoc c v t h]
  split
  · rfl
  · have := until_le c t
    rw [List.getD_eq_getElem?_getD, List.getD_eq_getElem?_getD, List.getElem?_append_left (by omega)]
theorem sweep_at (c : Chain) (T t : Int) (h : T ≤ t) : atV (sweepC c T) t = atV c t ∨ ((atV c t).2 = true ∧ (atV c t).1.f2 = true ∧ atV (sweepC c T) t = (zVer, false)) := by
  have hm := until_mono h c
  have hj : sweepFrom c T ≤ untilV c T := by unfold sweepFrom; split <;> omega
  have hd := until_drop (sweepFrom c T) c t (by omega)
  by_cases h0 : untilV c t = sweepFrom c T
  · have e1 : atV (sweepC c T) t = (zVer, false) := by
      unfold atV sweepC
      rw [hd, if_pos (by omega)]
    by_cases hz : untilV c t = 0
    · left
      rw [e1]
      unfold atV
      rw [if_pos hz]
    · right
      have h1 : untilV c T = untilV c t := by omega
      have h2 : sweepFrom c T = untilV c T := by omega
      have hdead : (c.getD (untilV c T - 1) zVer).f2 = true := by
        unfold sweepFrom at h2
        split at h2
        · omega
        · rename_i hn
          cases hb : (c.getD (untilV c T - 1) zVer).f2 with
          | true => rfl
          | false => exact absurd ⟨by omega, hb⟩ hn
      refine ⟨?_, ?_, e1⟩
      · unfold atV; rw [if_neg hz]
      · unfold atV; rw [if_neg hz, ← h1]; exact hdead
  · left
    unfold atV
    rw [show untilV (sweepC c T) t = untilV c t - sweepFrom c T from hd, if_neg (by omega), if_neg (by omega)]
    unfold sweepC
    rw [getD_drop]
    congr 2
    omega
theorem look_sweep {K : List (Key × Chain)} (h : Rising (keysK K)) (t : Int) (q : Key) : look (sweepK K t) q = sweepC (look K q) t := by
  induction K with
  | nil => rfl
  | cons p r ih =>
    obtain ⟨k, d⟩ := p
    have h' : Rising (k :: keysK r) := h
    obtain ⟨h1, h2⟩ := List.pairwise_cons.1 h'
    have ih' := ih h2
    have hs : sweepK ((k, d) :: r) t = if (sweepC d t).isEmpty = true then sweepK r t else (k, sweepC d t) :: sweepK r t := by
      unfold sweepK
      rw [List.map_cons, List.filter_cons]
      cases (sweepC d t).isEmpty <;> rfl
    rw [hs]
    simp only [look]
    by_cases e : k = q
    · subst e
      rw [if_pos rfl]
      split
      · rename_i he
        have hr : look r k = [] := look_none (fun hm => by have := h1 k hm; rw [kl_irrefl] at this; cases this)
        rw [ih', hr]
        have : sweepC d t = [] := by simpa using he
        rw [this]
        rfl
      · simp [look]
    · rw [if_neg e]
      split
      · exact ih'
      · simp only [look]
        rw [if_neg e, ih']
theorem KOk.sweep {K : List (Key × Chain)} (h : KOk K) (t : Int) : KOk (sweepK K t) := by
  refine ⟨?_, fun p hp => ?_, ?_⟩
  · refine List.Pairwise.sublist ?_ h.rise
    unfold keysK sweepK
    have : (K.map (fun p => (p.1, sweepC p.2 t))).map (fun x => x.1) = K.map (fun x => x.1) := by rw [List.map_map]; rfl
    rw [← this]
    exact List.Sublist.map _ List.filter_sublist
  · obtain ⟨h1, h2⟩ := List.mem_filter.1 hp
    obtain ⟨x, hx, rfl⟩ := List.mem_map.1 h1
    exact ⟨by simpa using h2, ((h.chain x hx).2).drop _⟩
  · have := List.length_filter_le (fun p : Key × Chain => !p.2.isEmpty) (K.map (fun p => (p.1, sweepC p.2 t)))
    rw [List.length_map] at this
    have h2 := h.few
    unfold sweepK
    omega
/-! versions that are put -/
structure PutOk (K : List (Key × Chain)) (l : List Wr) (ts : Int) : Prop where
  apart : (l.map wkey).Nodup
  last : ∀ w ∈ l, lastV (look K (wkey w)) < ts
  ver : ∀ w ∈ l, VerOk ⟨ts, w.f1, w.f2⟩
  room : roomN K K.length l = 0
theorem cntK_le {K : List (Key × Chain)} {n : Nat} {w : Wr} {l : List Wr} (h : roomN K n (w :: l) = 0) : (look K (wkey w)).length < 1024 ∧ cntK K n w ≤ 1024 ∧ roomN K (cntK K n w) l = 0 := by
  have e : roomN K n (w :: l) = if 1024 ≤ (look K (wkey w)).length ∨ 1024 < cntK K n w then 2 else roomN K (cntK K n w) l := rfl
  rw [e] at h
  by_cases hc : 1024 ≤ (look K (wkey w)).length ∨ 1024 < cntK K n w
  · rw [if_pos hc] at h
    cases h
  · rw [if_neg hc] at h
    exact ⟨by omega, by omega, h⟩
theorem roomN_other (K : List (Key × Chain)) (q : Key) (c : Chain) : ∀ (l : List Wr) (n : Nat), (∀ w ∈ l, wkey w ≠ q) → roomN (kput K q c) n l = roomN K n l
  | [], _, _ => rfl
  | w :: l, n, h => by
    have e : look (kput K q c) (wkey w) = look K (wkey w) := by
      rw [look_kput, if_neg (fun e => h w List.mem_cons_self e.symm)]
    have e2 : cntK (kput K q c) n w = cntK K n w := by
      unfold cntK
      rw [e]
    simp only [roomN]
    rw [e, e2, roomN_other K q c l _ (fun x hx => h x (List.mem_cons_of_mem _ hx))]
theorem put1_ok {K : List (Key × Chain)} {ts : Int} {w : Wr} {l : List Wr} (h : KOk K) (hp : PutOk K (w :: l) ts) : KOk (put1 ts K w) ∧ PutOk (put1 ts K w) l ts := by
  obtain ⟨h1, h2⟩ := List.nodup_cons.1 hp.apart
  obtain ⟨r1, r2, r3⟩ := cntK_le hp.room
  have hne : ∀ x ∈ l, wkey x ≠ wkey w := fun x hx e => h1 (List.mem_map.2 ⟨x, hx, e⟩)
  have hlen : (put1 ts K w).length = cntK K K.length w := by
    unfold put1 cntK
    rw [kput_len h.rise]
    by_cases e : look K (wkey w) = []
    · rw [if_neg ((h.iff _).1 e), if_pos (by rw [e]; rfl)]
    · have e0 : ¬ (look K (wkey w)).isEmpty = true := by simpa using e
      have : wkey w ∈ keysK K := by
        by_cases hq : wkey w ∈ keysK K
        · exact hq
        · exact absurd ((h.iff _).2 hq) e
      rw [if_pos this, if_neg e0]
  refine ⟨⟨kput_rising h.rise _ _, fun p hp' => ?_, by rw [hlen]; exact r2⟩, ⟨h2, fun x hx => ?_, fun x hx => hp.ver x (List.mem_cons_of_mem _ hx), ?_⟩⟩
  · rcases kput_mem hp' with rfl | hp'
    · exact ⟨by simp, (h.look _).snoc (hp.ver w List.mem_cons_self) r1 (hp.last w List.mem_cons_self)⟩
    · exact h.chain p hp'
  · unfold put1
    rw [look_kput, if_neg (fun e => hne x hx e.symm)]
    exact hp.last x (List.mem_cons_of_mem _ hx)
  · rw [hlen]
    unfold put1
    rw [roomN_other _ _ _ _ _ hne]
    exact r3
theorem putV_ok : ∀ (l : List Wr) {K : List (Key × Chain)} {ts : Int}, KOk K → PutOk K l ts → KOk (putV K l ts)
  | [], _, _, h, _ => h
  | w :: l, K, ts, h, hp => putV_ok l (put1_ok h hp).1 (put1_ok h hp).2
theorem put_at : ∀ (l : List Wr) (K : List (Key × Chain)) (ts t : Int) (q : Key), t < ts → atV (look (putV K l ts) q) t = atV (look K q) t
  | [], _, _, _, _, _ => rfl
  | w :: l, K, ts, t, q, h => by
    show atV (look (putV (put1 ts K w) l ts) q) t = _
    rw [put_at l _ ts t q h]
    unfold put1
    rw [look_kput]
    split
    · rename_i e
      rw [at_snoc _ _ _ h, e]
    · rfl
end Go.Proofs.Ytaldfbmjmpkmmaa.PL
namespace Go.Proofs.Ytaldfbmjmpkmmaa.PL
open Go.RowKit
set_option linter.unusedVariables false
/-! records -/
theorem okR_all {r : Rec} (h : okR r = 0) : (0 ≤ r.f1 ∧ r.f1 ≤ 1125899906842623) ∧ (0 ≤ r.f2 ∧ r.f2 ≤ 1125899906842624) ∧ recOk r.f0 r.f1 r.f2 r.f3 r.f4 r.f5 r.f6 r.f7 r.f8 = true := by
  unfold okR recV at h
  split at h
  · cases h
  · rename_i hb
    split at h
    · rename_i hk
      unfold rangeBad at hb
      simp only [Bool.or_eq_true, decide_eq_true_eq, not_or] at hb
      exact ⟨by omega, by omega, hk⟩
    · cases h
theorem ris_keys : ∀ (l : List ByteArray) (q : Option (List UInt8)), ris q l = true → ∀ k ∈ l, keyB k = true
  | [], _, _, k, hk => by cases hk
  | s :: r, none, h, k, hk => by
    rw [ris, Bool.and_eq_true] at h
    rcases List.mem_cons.1 hk with rfl | hk
    · exact h.1
    · exact ris_keys r _ h.2 k hk
  | s :: r, some q, h, k, hk => by
    rw [ris, Bool.and_eq_true, Bool.and_eq_true] at h
    rcases List.mem_cons.1 hk with rfl | hk
    · exact h.1
    · exact ris_keys r _ h.2.2 k hk
theorem ris_above : ∀ (l : List ByteArray) (q : List UInt8), ris (some q) l = true → (∀ k ∈ l, Op.bytesLess q (kb k) = true) ∧ l.Pairwise (fun a b => Op.bytesLess (kb a) (kb b) = true)
  | [], _, _ => ⟨by simp, by simp⟩
  | s :: r, q, h => by
    rw [ris, Bool.and_eq_true, Bool.and_eq_true, kb_toList] at h
    obtain ⟨h1, h2⟩ := ris_above r _ h.2.2
    refine ⟨fun k hk => ?_, List.pairwise_cons.2 ⟨h1, h2⟩⟩
    rcases List.mem_cons.1 hk with rfl | hk
    · exact h.2.1
    · exact kl_trans h.2.1 (h1 k hk)
theorem rising_pair {l : List ByteArray} (h : risingB l = true) : l.Pairwise (fun a b => Op.bytesLess (kb a) (kb b) = true) := by
  cases l with
  | nil => simp
  | cons s r =>
    unfold risingB at h
    rw [ris, Bool.and_eq_true, kb_toList] at h
    obtain ⟨h1, h2⟩ := ris_above r _ h.2
    exact List.pairwise_cons.2 ⟨h1, h2⟩
theorem key_size {s : ByteArray} (h : keyB s = true) : s.size ≤ 32 := by
  unfold keyB at h
  rw [Bool.and_eq_true] at h
  exact of_decide_eq_true h.2
structure ListsOk (r : Rec) : Prop where
  few7 : r.f7.length ≤ 16
  few8 : r.f8.length ≤ 16
  key7 : ∀ k ∈ r.f7, keyB k = true
  key8 : ∀ w ∈ r.f8, keyB w.f0 = true
  rise7 : r.f7.Pairwise (fun a b => Op.bytesLess (kb a) (kb b) = true)
  rise8 : r.f8.Pairwise (fun a b => Op.bytesLess (wkey a) (wkey b) = true)
  shard : ∀ w ∈ r.f8, w.f1.size ≤ 2052 ∧ (w.f2 = true → w.f1.toList = [])
theorem ListsOk.apart {r : Rec} (h : ListsOk r) : (r.f8.map wkey).Nodup := List.pairwise_map.2 (h.rise8.imp (fun h => kl_ne h))
theorem prep_lists {r : Rec} (h0 : r.f0 = 1) (h : okR r = 0) : ListsOk r ∧ 0 < r.f1 := by
  have h2 := (okR_all h).2.2
  unfold recOk at h2
  rw [if_pos h0, Bool.and_eq_true, Bool.and_eq_true] at h2
  obtain ⟨⟨hl, ht⟩, _⟩ := h2
  unfold listedB writesB at hl
  simp only [Bool.and_eq_true, decide_eq_true_eq, List.all_eq_true] at hl
  obtain ⟨a1, a2, a3, a4, a5⟩ := hl
  refine ⟨⟨a1, a4, ris_keys _ _ a2, fun w hw => ris_keys _ _ a5 _ (List.mem_map.2 ⟨w, hw, rfl⟩), rising_pair a2, List.pairwise_map.1 (rising_pair a5), fun w hw => ?_⟩, of_decide_eq_true ht⟩
  have := a3 w hw
  unfold shardB at this
  rw [Bool.and_eq_true, decide_eq_true_eq] at this
  refine ⟨this.1, fun hd => ?_⟩
  have h3 := this.2
  rw [hd] at h3
  simpa using h3
theorem do_facts {r : Rec} (h0 : r.f0 = 2) (h : okR r = 0) : 0 < r.f1 := by
  have h2 := (okR_all h).2.2
  unfold recOk at h2
  rw [if_neg (by omega), if_pos h0] at h2
  simp only [Bool.and_eq_true, decide_eq_true_eq] at h2
  exact h2.2.1
theorem ver_facts {r : Rec} (h0 : r.f0 = 3) (h : okR r = 0) : 0 < r.f2 ∧ keyB r.f4 = true ∧ r.f5.size ≤ 2052 ∧ (r.f6 = true → r.f5.toList = []) := by
  have h2 := (okR_all h).2.2
  unfold recOk at h2
  rw [if_neg (by omega), if_neg (by omega), if_neg (by omega), if_neg (by omega), if_pos h0] at h2
  simp only [Bool.and_eq_true, decide_eq_true_eq] at h2
  obtain ⟨_, h3, h4, h5, h6, _⟩ := h2
  refine ⟨h3, h4, h5, fun hd => ?_⟩
  rw [hd] at h6
  simpa using h6
/-! what a shelf has to be -/
/-- What a shelf's lists have to be. -/
structure ShOk (s : Sh) : Prop where
  keys : KOk s.K
  rise : s.P.Pairwise (fun a b => a.f1 < b.f1)
  few : s.P.length ≤ 1024
  recs : ∀ r ∈ s.P, r.f0 = 1 ∧ okR r = 0
  ends : s.E.length ≤ 1025
  over : 0 ≤ s.over ∧ s.over ≤ 1125899906842624
theorem sh0_ok : ShOk sh0 := ⟨KOk.nil, by simp [sh0], by simp [sh0], by simp [sh0], by simp [sh0], by simp [sh0]⟩
theorem state_cases (s : Sh) (t : Int) : (s.P.any (fun r => decide (r.f1 = t)) = true ∧ stateV s t = (1, 0)) ∨ (s.P.any (fun r => decide (r.f1 = t)) = false ∧
    ((s.E.find? (fun e => decide (e.1 = t)) = none ∧ stateV s t = (0, 0)) ∨ ∃ e, s.E.find? (fun e => decide (e.1 = t)) = some e ∧ ((e.2 = 0 ∧ stateV s t = (3, 0)) ∨ (e.2 ≠ 0 ∧ stateV s t = (2, e.2))))) := by
  unfold stateV
  cases hp : s.P.any (fun r => decide (r.f1 = t)) with
  | true => exact .inl ⟨rfl, rfl⟩
  | false =>
    refine .inr ⟨rfl, ?_⟩
    cases he : s.E.find? (fun e => decide (e.1 = t)) with
    | none => exact .inl ⟨rfl, rfl⟩
    | some e =>
      refine .inr ⟨e, rfl, ?_⟩
      by_cases h0 : e.2 = 0
      · exact .inl ⟨h0, by simp [h0]⟩
      · exact .inr ⟨h0, by simp [h0]⟩
theorem state_zero {s : Sh} {t : Int} (h : ¬ 0 < (stateV s t).1) : (∀ r ∈ s.P, r.f1 ≠ t) ∧ s.E.find? (fun e => decide (e.1 = t)) = none := by
  rcases state_cases s t with ⟨_, h2⟩ | ⟨h1, ⟨h2, h3⟩ | ⟨e, h2, ⟨_, h3⟩ | ⟨_, h3⟩⟩⟩
  · rw [h2] at h; simp at h
  · exact ⟨fun r hr e => by
      have := List.any_eq_false.1 h1 r hr
      exact this (decide_eq_true e), h2⟩
  · rw [h3] at h; simp at h
  · rw [h3] at h; simp at h
theorem pput_mem (r x : Rec) : ∀ l : List Rec, x ∈ pput l r ↔ x = r ∨ x ∈ l
  | [] => by simp [pput]
  | y :: l => by
    unfold pput
    split
    · rw [List.mem_cons, pput_mem r x l, List.mem_cons]
      constructor
      · rintro (h | h | h)
        · exact .inr (.inl h)
        · exact .inl h
        · exact .inr (.inr h)
      · rintro (h | h | h)
        · exact .inr (.inl h)
        · exact .inl h
        · exact .inr (.inr h)
    · rw [List.mem_cons]
theorem pput_len (r : Rec) : ∀ l : List Rec, (pput l r).length = l.length + 1
  | [] => rfl
  | y :: l => by
    unfold pput
    split
    · rw [List.length_cons, pput_len r l, List.length_cons]
    · rfl
theorem pput_rise (r : Rec) : ∀ {l : List Rec}, l.Pairwise (fun a b => a.f1 < b.f1) → (∀ x ∈ l, x.f1 ≠ r.f1) → (pput l r).Pairwise (fun a b => a.f1 < b.f1)
  | [], _, _ => by simp [pput]
  | y :: l, h, hn => by
    obtain ⟨h1, h2⟩ := List.pairwise_cons.1 h
    unfold pput
    split
    · rename_i hlt
      refine List.pairwise_cons.2 ⟨fun x hx => ?_, pput_rise r h2 (fun x hx => hn x (List.mem_cons_of_mem _ hx))⟩
      rcases (pput_mem r x l).1 hx with rfl | hx
      · exact hlt
      · exact h1 x hx
    · rename_i hlt
      have hy := hn y List.mem_cons_self
      refine List.pairwise_cons.2 ⟨fun x hx => ?_, h⟩
      rcases List.mem_cons.1 hx with rfl | hx
      · omega
      · have := h1 x hx
        omega
theorem prepV_ok {s : Sh} {r : Rec} (h : ShOk s) (h0 : r.f0 = 1) (hr : okR r = 0) : ShOk (prepV s r).2 := by
  unfold prepV
  split
  · exact h
  · rename_i hs
    split
    · exact h
    · split
      · exact h
      · rename_i hl
        refine ⟨h.keys, pput_rise r h.rise (state_zero hs).1, ?_, fun x hx => ?_, h.ends, h.over⟩
        · show (pput s.P r).length ≤ 1024
          rw [pput_len]
          omega
        · rcases (pput_mem r x s.P).1 hx with rfl | hx
          · exact ⟨h0, hr⟩
          · exact h.recs x hx
theorem endE_len {E : List (Int × Int)} {B : Nat} (hB : 1024 ≤ B) (h : E.length ≤ B) (x : Int × Int) : (endE E x).length ≤ B := by
  unfold endE
  split
  · rw [List.length_drop, List.length_append, List.length_singleton]
    omega
  · omega
theorem endV_ok {s : Sh} (h : ShOk s) (t ts : Int) : ShOk (endV s t ts) :=
  ⟨h.keys, h.rise.filter _, Nat.le_trans (List.length_filter_le _ _) h.few, fun r hr => h.recs r (List.mem_filter.1 hr).1, endE_len (by omega) h.ends _, h.over⟩
theorem room_put {s : Sh} {l : List Wr} {ts : Int} (h0 : roomV s l ts = 0) (hts : 1 ≤ ts ∧ ts ≤ 1125899906842624) (ha : (l.map wkey).Nodup) (hs : ∀ w ∈ l, w.f1.size ≤ 2052 ∧ (w.f2 = true → w.f1.toList = [])) : PutOk s.K l ts := by
  unfold roomV at h0
  split at h0
  · cases h0
  · rename_i hl
    refine ⟨ha, fun w hw => ?_, fun w hw => ⟨hts.1, hts.2, (hs w hw).1, (hs w hw).2⟩, h0⟩
    have : ¬ ts ≤ lastV (look s.K (wkey w)) := fun hc => hl (List.any_eq_true.2 ⟨w, hw, decide_eq_true hc⟩)
    omega
theorem writesOf_some {s : Sh} {t : Int} (h : (stateV s t).1 = 1) : ∃ r ∈ s.P, r.f1 = t ∧ writesOf s t = r.f8 := by
  unfold writesOf
  cases hf : s.P.find? (fun r => decide (r.f1 = t)) with
  | none =>
    rcases state_cases s t with ⟨h1, _⟩ | ⟨_, ⟨_, h3⟩ | ⟨e, _, ⟨_, h3⟩ | ⟨_, h3⟩⟩⟩
    · obtain ⟨r, hr, hrt⟩ := List.any_eq_true.1 h1
      exact absurd hrt (List.find?_eq_none.1 hf r hr)
    · rw [h3] at h; cases h
    · rw [h3] at h; cases h
    · rw [h3] at h; cases h
  | some r => exact ⟨r, List.mem_of_find?_eq_some hf, of_decide_eq_true (by simpa using List.find?_some hf), rfl⟩
theorem do_put {s : Sh} (h : ShOk s) {t ts : Int} (hts : 0 < ts ∧ ts ≤ 1125899906842624) (h1 : (stateV s t).1 = 1) (h0 : roomV s (writesOf s t) ts = 0) : PutOk s.K (writesOf s t) ts := by
  obtain ⟨r, hr, _, e⟩ := writesOf_some h1
  obtain ⟨hl, _⟩ := prep_lists (h.recs r hr).1 (h.recs r hr).2
  exact room_put h0 (by omega) (by rw [e]; exact hl.apart) (by rw [e]; exact hl.shard)
theorem doV_ok {s : Sh} (h : ShOk s) {t ts : Int} (hts : 0 ≤ ts ∧ ts ≤ 1125899906842624) : ShOk (doV s t ts).2 := by
  unfold doV
  split
  · exact h
  · split
    · exact h
    · split
      · rename_i hc
        split
        · rename_i h0
          have hp := do_put h (by omega) hc.1 h0
          exact endV_ok (s := { s with K := putV s.K (writesOf s t) ts }) ⟨putV_ok _ h.keys hp, h.rise, h.few, h.recs, h.ends, h.over⟩ t ts
        · exact h
      · exact endV_ok h t ts
theorem sweepV_ok {s : Sh} (h : ShOk s) {t : Int} (ht : t ≤ 1125899906842624) : ShOk (sweepV s t).2 := by
  unfold sweepV
  split
  · exact h
  · exact ⟨h.keys.sweep t, h.rise, h.few, h.recs, h.ends, ⟨by have := h.over; show 0 ≤ t; omega, ht⟩⟩
theorem ver_put {s : Sh} {r : Rec} (h0 : r.f0 = 3) (hr : okR r = 0) (hm : roomV s [verW r] r.f2 = 0) : PutOk s.K [verW r] r.f2 := by
  obtain ⟨h1, h2, h3, h4⟩ := ver_facts h0 hr
  exact room_put hm (by have := (okR_all hr).2.1; omega) (by simp) (fun w hw => by rw [List.mem_singleton.1 hw]; exact ⟨h3, h4⟩)
theorem applyV_ok {s : Sh} (h : ShOk s) (r : Rec) : ShOk (applyV s r).2 := by
  unfold applyV
  split
  · rename_i hr
    split
    · rename_i h0
      exact prepV_ok h h0 hr
    · split
      · exact doV_ok h (okR_all hr).2.1
      · split
        · exact sweepV_ok h (okR_all hr).2.1.2
        · split
          · rename_i h0
            split
            · rename_i hm
              exact ⟨putV_ok _ h.keys (ver_put h0 hr hm), h.rise, h.few, h.recs, h.ends, h.over⟩
            · exact h
          · exact h
  · exact h
theorem applyV_ends {s : Sh} (h : s.E.length ≤ 1024) (r : Rec) : (applyV s r).2.E.length ≤ 1024 := by
  unfold applyV
  split
  · split
    · unfold prepV
      split
      · exact h
      · split
        · exact h
        · split
          · exact h
          · exact h
    · split
      · unfold doV
        split
        · exact h
        · split
          · exact h
          · split
            · split
              · exact endE_len (Nat.le_refl _) h _
              · exact h
            · exact endE_len (Nat.le_refl _) h _
      · split
        · unfold sweepV
          split
          · exact h
          · exact h
        · split
          · split
            · exact h
            · exact h
          · exact h
  · exact h
theorem fold_ends : ∀ (l : List Rec) {s : Sh}, s.E.length ≤ 1024 → (l.foldl (fun s r => (applyV s r).2) s).E.length ≤ 1024
  | [], _, h => h
  | r :: l, _, h => fold_ends l (applyV_ends h r)
theorem madeV_ends (l : List Rec) : (madeV l).E.length ≤ 1024 := fold_ends _ (by simp [sh0])
theorem fold_ok : ∀ (l : List Rec) {s : Sh}, ShOk s → ShOk (l.foldl (fun s r => (applyV s r).2) s)
  | [], _, h => h
  | r :: l, _, h => fold_ok l (applyV_ok h r)
theorem madeV_ok (l : List Rec) : ShOk (madeV l) := fold_ok _ sh0_ok
/-! what is read stays -/
/-- What is read of a time: as it was, or what was dead is gone. -/
def Stays (s : Sh) (k : Key) (t : Int) (x : Ver × Bool) : Prop := s.over ≤ t ∧ (atV (look s.K k) t = x ∨ (x.2 = true ∧ x.1.f2 = true ∧ atV (look s.K k) t = (zVer, false)))
theorem stays_step {s : Sh} (h : ShOk s) {k : Key} {t : Int} {x : Ver × Bool} (hx : Stays s k t x) (r : Rec) (hc : ¬ (r.f0 ≠ 1 ∧ r.f0 ≠ 4 ∧ r.f2 ≠ 0 ∧ r.f2 ≤ t)) (hs : ¬ (r.f0 = 4 ∧ t < r.f2)) : Stays (applyV s r).2 k t x := by
  have hput : ∀ (l : List Wr) (ts : Int), t < ts → ∀ s' : Sh, s'.over = s.over → s'.K = putV s.K l ts → Stays s' k t x := fun l ts hlt s' ho hk => by
    refine ⟨by rw [ho]; exact hx.1, ?_⟩
    rw [hk, put_at l _ _ _ _ hlt]
    exact hx.2
  unfold applyV
  split
  · rename_i hr
    split
    · unfold prepV
      split
      · exact hx
      · split
        · exact hx
        · split
          · exact hx
          · exact hx
    · rename_i h1
      split
      · rename_i h2
        unfold doV
        split
        · exact hx
        · split
          · exact hx
          · split
            · rename_i hd
              split
              · exact hput _ r.f2 (by omega) _ rfl rfl
              · exact hx
            · exact hx
      · split
        · rename_i h4
          unfold sweepV
          split
          · exact hx
          · refine ⟨by show r.f2 ≤ t; omega, ?_⟩
            show atV (look (sweepK s.K r.f2) k) t = x ∨ _
            rw [look_sweep h.keys.rise]
            rcases sweep_at (look s.K k) r.f2 t (by omega) with e | ⟨e1, e2, e3⟩
            · rw [e]
              exact hx.2
            · rcases hx.2 with e | ⟨e4, e5, e6⟩
              · rw [e] at e1 e2
                exact .inr ⟨e1, e2, e3⟩
              · rw [e6] at e1
                cases e1
        · split
          · rename_i h3
            split
            · have := (ver_facts h3 hr).1
              exact hput _ r.f2 (by omega) _ rfl rfl
            · exact hx
          · exact hx
  · exact hx
/-- What is read first. -/
theorem stays_first {s : Sh} {k : Key} {t : Int} (h3 : (readV s k t).1 ≠ 3) (h4 : (readV s k t).1 ≠ 4) : Stays s k t (atV (look s.K k) t) := by
  refine ⟨?_, .inl rfl⟩
  by_cases hc : t < s.over
  · exact absurd (by unfold readV; rw [if_pos hc]) h4
  · omega
theorem readV_at {s : Sh} {k : Key} {t : Int} (h3 : (readV s k t).1 ≠ 3) (h4 : s.over ≤ t) :
    readV s k t = if (atV (look s.K k) t).2 = false then (0, (atV (look s.K k) t).1) else if (atV (look s.K k) t).1.f2 = true then (2, (atV (look s.K k) t).1) else (1, (atV (look s.K k) t).1) := by
  have ho : ¬ t < s.over := by omega
  by_cases hh : heldV s k false = true
  · exact absurd (by unfold readV; rw [if_neg ho, if_pos hh]) h3
  · unfold readV
    rw [if_neg ho, if_neg hh]
/-- .. and is read again. -/
theorem stays_read {s s1 : Sh} {k : Key} {t : Int} (h3 : (readV s k t).1 ≠ 3) (h4 : (readV s k t).1 ≠ 4) (hx : Stays s1 k t (atV (look s.K k) t)) (g3 : (readV s1 k t).1 ≠ 3) : readV s1 k t = readV s k t ∨ ((readV s k t).1 = 2 ∧ (readV s1 k t).1 = 0) := by
  rw [readV_at g3 hx.1, readV_at h3 (stays_first h3 h4).1]
  rcases hx.2 with e | ⟨e1, e2, e3⟩
  · rw [e]
    exact .inl rfl
  · rw [e3, e1, e2]
    exact .inr ⟨by simp, by simp⟩
end Go.Proofs.Ytaldfbmjmpkmmaa.PL
namespace Go.Proofs.Ytaldfbmjmpkmmaa.PL
set_option linter.unusedVariables false
/-- a clashes with b (a came first). -/
def clR (a b : Rec) : Bool := a.f8.any (fun w => watches b (kb w.f0) || wrote b (kb w.f0)) || b.f8.any (fun w => watches a (kb w.f0))
theorem held_clash (P : List Rec) (r : Rec) (s : Sh) (hs : s.P = P) :
    (r.f7.any (fun k => heldV s (kb k) false) || r.f8.any (fun w => heldV s (kb w.f0) true)) = P.any (fun p => clR p r) := by
  subst hs
  rw [Bool.eq_iff_iff]
  simp only [heldV, heldR, clR, wrote, watches, Bool.or_eq_true, List.any_eq_true, Bool.false_and, Bool.or_false, Bool.true_and, beq_iff_eq]
  constructor
  · rintro (⟨k, hk, p, hp, w, hw, e⟩ | ⟨w, hw, p, hp, (⟨w2, hw2, e⟩ | ⟨q, hq, e⟩)⟩)
    · exact ⟨p, hp, Or.inl ⟨w, hw, Or.inl ⟨k, hk, e.symm⟩⟩⟩
    · exact ⟨p, hp, Or.inl ⟨w2, hw2, Or.inr ⟨w, hw, e.symm⟩⟩⟩
    · exact ⟨p, hp, Or.inr ⟨w, hw, q, hq, e⟩⟩
  · rintro ⟨p, hp, (⟨w, hw, (⟨q, hq, e⟩ | ⟨w2, hw2, e⟩)⟩ | ⟨w, hw, q, hq, e⟩)⟩
    · exact Or.inl ⟨q, hq, p, hp, w, hw, e.symm⟩
    · exact Or.inr ⟨w2, hw2, p, hp, Or.inl ⟨w, hw, e.symm⟩⟩
    · exact Or.inr ⟨w, hw, p, hp, Or.inr ⟨q, hq, e⟩⟩
/-- The shelf holds just these prepared, and nothing else. -/
structure Just (s : Sh) (A : List Rec) : Prop where
  mem : ∀ p, p ∈ s.P ↔ p ∈ A
  len : s.P.length = A.length
  ends : s.E = []
theorem Just.none : Just sh0 [] := ⟨fun _ => Iff.rfl, rfl, rfl⟩
theorem Just.any {s : Sh} {A : List Rec} (h : Just s A) (f : Rec → Bool) : s.P.any f = A.any f := by
  rw [Bool.eq_iff_iff]
  simp only [List.any_eq_true]
  exact ⟨fun ⟨p, hp, e⟩ => ⟨p, (h.mem p).1 hp, e⟩, fun ⟨p, hp, e⟩ => ⟨p, (h.mem p).2 hp, e⟩⟩
/-- One that prepares, of a transaction that is not there. -/
theorem Just.step {s : Sh} {A : List Rec} (h : Just s A) {r : Rec} (h0 : r.f0 = 1) (hr : okR r = 0) (hA : A.length ≤ 256) (hd : ∀ p ∈ A, p.f1 ≠ r.f1) :
    (A.any (fun p => clR p r) = true → applyV s r = (180, s)) ∧
    (A.any (fun p => clR p r) = false → (applyV s r).1 = 0 ∧ Just (applyV s r).2 (A ++ [r])) := by
  have hst : (stateV s r.f1).1 = 0 := by
    have h1 : s.P.any (fun x => decide (x.f1 = r.f1)) = false := by
      rw [h.any]
      simp only [List.any_eq_false, decide_eq_true_eq]
      exact hd
    unfold stateV
    rw [h1, h.ends]
    rfl
  have hc := held_clash s.P r s rfl
  rw [h.any] at hc
  have hP : ¬ 1024 ≤ s.P.length := by rw [h.len]; omega
  unfold applyV
  rw [if_pos hr, if_pos h0]
  unfold prepV
  rw [if_neg (by rw [hst]; decide), hc]
  constructor
  · intro hx
    rw [if_pos hx]
  · intro hx
    rw [if_neg (by rw [hx]; decide), if_neg hP]
    refine ⟨rfl, ⟨fun p => ?_, ?_, h.ends⟩⟩
    · show p ∈ pput s.P r ↔ _
      rw [pput_mem, h.mem, List.mem_append, List.mem_singleton]
      exact Or.comm
    · show (pput s.P r).length = _
      rw [pput_len, h.len]
      simp
end Go.Proofs.Ytaldfbmjmpkmmaa.PL
namespace Go.Proofs.Ytaldfbmjmpkmmaa.PL
open Go.Proofs.Ytaldfbmjmpkmmaa.PL.Lk
set_option linter.unusedVariables false
theorem clR_clash (a b : Rec) : clR a b = clashR a b := by
  rw [Bool.eq_iff_iff]
  simp only [clR, watches, wrote, clashR, clashB, strs, wkeys, kb, Bool.or_eq_true, List.any_eq_true, List.contains_iff_mem, List.mem_map, beq_iff_eq]
  constructor
  · rintro (⟨w, hw, (⟨q, hq, e⟩ | ⟨w2, hw2, e⟩)⟩ | ⟨w, hw, q, hq, e⟩)
    · exact Or.inl ⟨_, ⟨_, ⟨w, hw, rfl⟩, rfl⟩, Or.inl ⟨q, hq, e⟩⟩
    · exact Or.inl ⟨_, ⟨_, ⟨w, hw, rfl⟩, rfl⟩, Or.inr ⟨_, ⟨w2, hw2, rfl⟩, e⟩⟩
    · exact Or.inr ⟨_, ⟨_, ⟨w, hw, rfl⟩, rfl⟩, ⟨q, hq, e⟩⟩
  · rintro (⟨_, ⟨_, ⟨w, hw, rfl⟩, rfl⟩, (⟨q, hq, e⟩ | ⟨_, ⟨w2, hw2, rfl⟩, e⟩)⟩ | ⟨_, ⟨_, ⟨w, hw, rfl⟩, rfl⟩, ⟨q, hq, e⟩⟩)
    · exact Or.inl ⟨w, hw, Or.inl ⟨q, hq, e⟩⟩
    · exact Or.inl ⟨w, hw, Or.inr ⟨w2, hw2, e⟩⟩
    · exact Or.inr ⟨w, hw, q, hq, e⟩
def someTo (l : List S35) (k : Nat) : List S35 := (admitTo l k).map (rd_T35 l)
def clashes (s : List S35) (r : S35) : Bool := s.any (fun x => clashR x r)
theorem some_any (l : List S35) (k : Nat) (r : S35) : (admitTo l k).any (fun j => clashR (rd_T35 l j) r) = clashes (someTo l k) r := by
  unfold clashes someTo
  rw [List.any_map]
  rfl
theorem admit_succ (l : List S35) (k : Nat) : admitTo l (k + 1) = if clashes (someTo l k) (rd_T35 l (k : Int)) = true then admitTo l k else admitTo l k ++ [(k : Int)] := by
  rw [← some_any]; rfl
theorem some_succ (l : List S35) (k : Nat) : someTo l (k + 1) = if clashes (someTo l k) (rd_T35 l (k : Int)) = true then someTo l k else someTo l k ++ [rd_T35 l (k : Int)] := by
  show (admitTo l (k + 1)).map (rd_T35 l) = _
  rw [admit_succ]
  split
  · rfl
  · rw [List.map_append]; rfl
theorem some_len (l : List S35) (k : Nat) : (someTo l k).length = (admitTo l k).length := by simp [someTo]
theorem some_mem (l : List S35) (k : Nat) (hk : k ≤ l.length) (x : S35) (h : x ∈ someTo l k) : x ∈ l := by
  unfold someTo at h
  obtain ⟨j, hj, rfl⟩ := List.mem_map.1 h
  have := admitTo_mem l k j hj
  obtain ⟨n, rfl⟩ : ∃ n : Nat, j = (n : Int) := ⟨j.toNat, by omega⟩
  rw [rd25_nat l n (by omega)]
  exact List.getElem_mem _
theorem admit_prefix (l : List S35) : ∀ (n k : Nat), k ≤ n → ∃ rest, admitTo l n = admitTo l k ++ rest ∧ ∀ j, j ∈ rest → (k : Int) ≤ j
  | 0, k, h => ⟨[], by obtain rfl : k = 0 := by omega
                       simp, fun j hj => by cases hj⟩
  | n + 1, k, h => by
    by_cases e : k = n + 1
    · subst e
      exact ⟨[], by simp, fun j hj => by cases hj⟩
    · obtain ⟨rest, hr, hm⟩ := admit_prefix l n k (by omega)
      rw [admit_succ]
      split
      · exact ⟨rest, hr, hm⟩
      · refine ⟨rest ++ [(n : Int)], by rw [hr, List.append_assoc], ?_⟩
        intro j hj
        rcases List.mem_append.1 hj with hj | hj
        · exact hm j hj
        · rw [List.mem_singleton.1 hj]; omega
/-- Is record k the next one that is admitted? -/
theorem admit_at (l : List S35) (n k : Nat) (hk : k < n) :
    (clashes (someTo l k) (rd_T35 l (k : Int)) = false → (admitTo l k).length < (admitTo l n).length ∧ (admitTo l n)[(admitTo l k).length]? = some (k : Int)) ∧
    (clashes (someTo l k) (rd_T35 l (k : Int)) = true → ∀ j, (admitTo l n)[(admitTo l k).length]? = some j → j ≠ (k : Int)) := by
  obtain ⟨rest, hr, hm⟩ := admit_prefix l n (k + 1) (by omega)
  rw [admit_succ] at hr
  constructor
  · intro h
    rw [h, if_neg (by decide)] at hr
    rw [hr]
    constructor
    · simp
    · simp
  · intro h j hj
    rw [h, if_pos rfl] at hr
    rw [hr, List.getElem?_append_right (Nat.le_refl _), Nat.sub_self] at hj
    have := hm j (List.mem_of_getElem? hj)
    omega
theorem some_is (l : List Rec) (k : Nat) (p : Rec) (h : p ∈ someTo l k) : ∃ j : Nat, j < k ∧ p = rd_T35 l (j : Int) := by
  unfold someTo at h
  obtain ⟨j, hj, rfl⟩ := List.mem_map.1 h
  have := admitTo_mem l k j hj
  exact ⟨j.toNat, by omega, by rw [Int.toNat_of_nonneg this.1]⟩
/-- A round: record k is applied to the shelf. -/
theorem lk_step (l : List Rec) (hw : wrongV l = 0) (k : Nat) (hk : k < l.length) (hd : ∀ j : Nat, j < k → (rd_T35 l (j : Int)).f1 ≠ (rd_T35 l (k : Int)).f1) {s : Sh} (h : Just s (someTo l k)) :
    (clashes (someTo l k) (rd_T35 l (k : Int)) = true → applyV s (rd_T35 l (k : Int)) = (180, s) ∧ Just s (someTo l (k + 1))) ∧
    (clashes (someTo l k) (rd_T35 l (k : Int)) = false → (applyV s (rd_T35 l (k : Int))).1 = 0 ∧ Just (applyV s (rd_T35 l (k : Int))).2 (someTo l (k + 1))) := by
  have hl : l.length ≤ 256 ∧ l.all prepB = true := by
    unfold wrongV at hw
    split at hw
    · cases hw
    · split at hw
      · exact ⟨by omega, by assumption⟩
      · cases hw
  have hp : prepB (rd_T35 l (k : Int)) = true := by
    rw [rd25_nat l k hk]
    exact List.all_eq_true.1 hl.2 _ (List.getElem_mem _)
  simp only [prepB, Bool.and_eq_true, beq_iff_eq] at hp
  have hlen : (someTo l k).length ≤ 256 := by
    have := admitTo_len l k
    rw [some_len]; omega
  have hst := h.step (r := rd_T35 l (k : Int)) hp.1 hp.2 hlen (fun p hpm => by
    obtain ⟨j, hj, rfl⟩ := some_is l k p hpm
    exact hd j hj)
  have hcl : (someTo l k).any (fun p => clR p (rd_T35 l (k : Int))) = clashes (someTo l k) (rd_T35 l (k : Int)) := by
    unfold clashes
    congr 1
    funext p
    exact clR_clash p _
  rw [hcl] at hst
  constructor
  · intro hc
    rw [some_succ, if_pos hc]
    exact ⟨hst.1 hc, h⟩
  · intro hc
    rw [some_succ, if_neg (by rw [hc]; decide)]
    exact hst.2 hc
end Go.Proofs.Ytaldfbmjmpkmmaa.PL
namespace Go.Proofs.Ytaldfbmjmpkmmaa.Mk
open Go.RowKit Go.Maps Go.WideMaps
set_option linter.unusedVariables false
/-- At most n entries, sz of them; f tells each key's element. -/
def MapV (P : Program) (k : TypeId) (w : World) (b n sz : Nat) (f : List UInt8 → Option Value) : Prop :=
  ∃ D : DataW Value, w.ownsMap P k Rv b n D ∧ Maps.size D = sz ∧ (∀ s, Maps.has D (.string s) = (f s).isSome) ∧ ∀ s v, f s = some v → ∀ z, D.atKey (.string s) z = .held v
section
variable {P : Program} {k : TypeId} {w w' : World} {b n sz : Nat} {f : List UInt8 → Option Value}
theorem MapV.made (P : Program) (k : TypeId) (w : World) : MapV P k (w.alloc (.map #[] 0)) w.heap.size 0 0 (fun _ => none) :=
  ⟨.map [], World.ownsMap_made _ _ _ _, rfl, fun _ => rfl, fun _ _ h => by cases h⟩
theorem MapV.kept (h : MapV P k w b n sz f) {row : Option Nat} (hg : w.grownBy w' row) (hne : some b ≠ row) : MapV P k w' b n sz f := by
  obtain ⟨D, ho, h1, h2, h3⟩ := h
  exact ⟨D, ho.kept hg hne, h1, h2, h3⟩
theorem MapV.below (h : MapV P k w b n sz f) (hb : Below w.heap.size w w') : MapV P k w' b n sz f := h.kept (grownBy_of_below hb none) (by simp)
theorem MapV.lt (h : MapV P k w b n sz f) : b < w.heap.size := by
  obtain ⟨D, ho, _⟩ := h
  exact ho.lt
theorem MapV.ne (h : MapV P k w b n sz f) {a : Addr} {v : Value} (hc : w.cell? a = some v) : a.block ≠ b := by
  obtain ⟨D, ho, _⟩ := h
  exact owns_ne ho hc
theorem MapV.sz_le (h : MapV P k w b n sz f) : sz ≤ n := by
  obtain ⟨D, ho, h1, _⟩ := h
  rw [← h1]
  exact ho.size_le
/-- 'v, ok := m[key]'. -/
theorem MapV.look {ops : Array Oper} {rest : List Oper} {o : Oper} {a : Act} {Q : Exit → Act → World → Prop} (h : MapV P k w b n sz f) (hg : o.guard = none) (m x : Operand) (t e : TypeId) (hop : o.op = Op.lookup t m x true) (hk : P.underlying k = some .string)
    (ht : P.underlying t = some (.map k e)) {z : Value} (hz : (zeroValue e).run P w = .ok z w) (hm : a.eval m = .map (some b)) (s : ByteArray) (hx : a.eval x = .string s) (hs : s.size ≤ maxLen)
    (hK : wpList P ops Q rest (a.put o.dst (.tuple #[(f s.data.toList).getD z, .bool (f s.data.toList).isSome])) w) : wpList P ops Q (o :: rest) a w := by
  obtain ⟨D, ho, h1, h2, h3⟩ := h
  refine wpList_lookup_own_ok w hg m x t hop k e (string_keyed hk) ht Rv hz (.held z) [] rfl b n D hm ho _ (.string s.data.toList) hx (key_str hk hs) (fun v ps hv => ?_)
  rw [h2 s.data.toList]
  cases hf : f s.data.toList with
  | none =>
    rw [hf] at hK
    have hno : Maps.has D (.string s.data.toList) = false := by rw [h2, hf]; rfl
    rw [Maps.atKey_of_not_has hno] at hv
    have : v = z := by
      have := congrArg (fun q => q.map (·.1)) hv
      simpa [Rv] using this
    subst this
    exact hK
  | some u =>
    rw [hf] at hK
    rw [h3 _ u hf] at hv
    have : v = u := by
      have := congrArg (fun q => q.map (·.1)) hv
      simpa [Rv] using this
    subst this
    exact hK
/-- 'm[key] = val'. -/
theorem MapV.store {ops : Array Oper} {rest : List Oper} {o : Oper} {a : Act} {Q : Exit → Act → World → Prop} (h : MapV P k w b n sz f) (hg : o.guard = none) (m x y : Operand) (t e : TypeId) (hop : o.op = Op.mapUpdate t m x y) (hk : P.underlying k = some .string)
    (ht : P.underlying t = some (.map k e)) (hn : n < maxLen) (hm : a.eval m = .map (some b)) (s : ByteArray) (hx : a.eval x = .string s) (hs : s.size ≤ maxLen) (val : Value) (hy : a.eval y = val)
    (hK : ∀ w', MapV P k w' b (n + 1) (if (f s.data.toList).isSome then sz else sz + 1) (fun q => if q = s.data.toList then some val else f q) → w.grownBy w' (some b) → wpList P ops Q rest (a.put o.dst undef) w') : wpList P ops Q (o :: rest) a w := by
  obtain ⟨D, ho, h1, h2, h3⟩ := h
  refine wpList_mapUpdate_own w hg m x y t hop k e (string_keyed hk) ht Rv b n D hm ho hn _ val (.string s.data.toList) hx hy (key_str hk hs) (.held val) [] rfl (fun w' ho' hg' => hK w' ?_ hg')
  refine ⟨_, ho', ?_, fun q => ?_, fun q v hq zz => ?_⟩
  · rw [Maps.size_put (ho.tidy (string_keyed hk)), h2, h1]
  · by_cases e1 : q = s.data.toList
    · rw [e1, has_put_same ho.isMap (show WideAt.IsKeyLit (Lit.string s.data.toList) from trivial)]
      simp
    · rw [has_put_other (fun h => e1 (by injection h)), h2]
      simp [e1]
  · by_cases e1 : q = s.data.toList
    · have hq' : some val = some v := by simpa [e1] using hq
      cases hq'
      rw [e1]
      exact atKey_put_same ho.isMap (show WideAt.IsKeyLit (Lit.string s.data.toList) from trivial) _ _
    · have hq' : f q = some v := by simpa [e1] using hq
      rw [atKey_put_other (fun h => e1 (by injection h))]
      exact h3 q v hq' zz
/-- 'len(m)'. -/
theorem MapV.len {ops : Array Oper} {rest : List Oper} {o : Oper} {a : Act} {Q : Exit → Act → World → Prop} (h : MapV P k w b n sz f) (hg : o.guard = none) (m : Operand) (t e : TypeId) (hop : o.op = Op.call { callee := Callee.builtin Builtin.len, args := #[m], argTypes := #[t] })
    (ht : P.underlying t = some (.map k e)) (hm : a.eval m = .map (some b)) (hK : wpList P ops Q rest (a.put o.dst (.int .i64 sz)) w) : wpList P ops Q (o :: rest) a w := by
  obtain ⟨D, ho, h1, _⟩ := h
  exact wpList_len_own w hg m t hop k e ht Rv b n D hm ho (by rw [h1]; exact hK)
end
end Go.Proofs.Ytaldfbmjmpkmmaa.Mk
namespace Go.Proofs.Ytaldfbmjmpkmmaa.Mk
open Go.RowKit Go.Maps Go.WideMaps Go.ChangeMaps Go.MapKept Go.WideShapes
open Go.WideElems (Fit rd rg pl rd_key rd_val rg_of other_key rd_mk)
open Go.Maps (Keyed)
set_option linter.unusedVariables false
set_option linter.unusedSectionVars false
section
variable {H : Type} {P : Program} {k : TypeId} {R : Value → Option (DataW H × List MemPlace)} {w : World} {b r n : Nat} {D : DataW H} {left : Lit → Bool} {cnt : Nat}
theorem born_modify (es : Array MapEntry) (j : Nat) (key val : Value) : (es.modify j (fun e' => { e' with key := key, val := val })).toList.map (·.born) = es.toList.map (·.born) := by
  apply List.ext_getElem?
  intro i
  rw [List.getElem?_map, List.getElem?_map, Array.getElem?_toList, Array.getElem?_toList, Array.getElem?_modify]
  by_cases h : j = i
  · rw [if_pos h, Option.map_map]
    rfl
  · rw [if_neg h]
theorem left_len (es : Array MapEntry) (seen : Array Nat) : (leftOf es seen).size = ((es.toList.map (·.born)).filter fun b => !seen.contains b).length := by
  unfold leftOf
  rw [← Array.length_toList, Array.toList_filter, List.filter_map, List.length_map]
  rfl
/-- 'm[k] = v' in the round, at a key that is there. -/
theorem ranges_put (h : w.ranges P k R b r n D left cnt) (K : Keyed P k) {t e : TypeId} (ht : P.underlying t = some (.map k e)) (hn : n < maxLen) {key val : Value} {kl : Lit} {d : DataW H} {ps : List MemPlace}
    (hkey : keyOf P k key = some kl) (hv : R val = some (d, ps)) (hhas : Maps.has D kl = true) :
    ∃ w', (Instr.mapUpdate t (.map (some b)) key val).run P w = .ok () w' ∧ w'.ranges P k R b r n (D.put kl d) left cnt ∧ w.grownBy w' (some b) := by
  have hne := h.ne
  obtain ⟨es, clock, since, seen, c0, hb, F, hs, rfl, hr, hold, rfl, hl1, hl2, hsc, hsk⟩ := h
  obtain ⟨es', clock', hrun, F', hput, _⟩ := Maps.fit_store (R' := R) K ht hb F (Nat.lt_of_le_of_lt hs hn) (fun _ _ _ _ hz => hz) hkey hv
  rcases K.find w hkey es.toList F.keys with ⟨h1, h2⟩ | ⟨j, e0, h1, h2, h3⟩
  · exfalso
    obtain ⟨p, hp, hpk⟩ := List.any_eq_true.1 hhas
    obtain ⟨x, hx, rfl⟩ := List.mem_map.1 (mem_sorted.1 hp)
    obtain ⟨y, hy⟩ := F.reads x hx
    have e1 := WideAt.sameKey_eq hpk
    rw [rg_of hy] at e1
    exact h2 x hx (K.inj (e1 ▸ rd_key hy) hkey)
  · have hj : es[j]? = some e0 := by simpa using h2
    have hrun2 : (Instr.mapUpdate t (.map (some b)) key val).run P w = .ok () (setBlock w b (.map (es.modify j (fun e' => { e' with key := key, val := val })) clock)) := by
      simp [Instr.mapUpdate, run_underlying ht, MapKept.run_getObj_map hb, K.check w false hkey, h1, hj, h3, K.stays w hkey, MapKept.run_setObj_map _ hb, Result.andThen, setBlock]
    rw [hrun2] at hrun
    have hw : setBlock w b (.map (es.modify j (fun e' => { e' with key := key, val := val })) clock) = setBlock w b (.map es' clock') := by injection hrun
    have hob : (Obj.map (es.modify j (fun e' => { e' with key := key, val := val })) clock) = .map es' clock' := by
      have g1 := heap_setBlock_same hb (.map (es.modify j (fun e' => { e' with key := key, val := val })) clock)
      have g2 := heap_setBlock_same hb (.map es' clock')
      rw [hw, g2] at g1
      injection g1 with g1
      exact g1.symm
    injection hob with he1 he2
    subst he1 he2
    have hlist : (es.modify j (fun e' => { e' with key := key, val := val })).toList = es.toList.set j { e0 with key := key, val := val } := by
      apply List.ext_getElem?
      intro i
      rw [Array.getElem?_toList, Array.getElem?_modify, List.getElem?_set]
      have hjl : j < es.toList.length := (List.getElem?_eq_some_iff.1 h2).1
      by_cases hji : j = i
      · subst hji
        rw [if_pos rfl, if_pos rfl, if_pos hjl, hj]
        rfl
      · rw [if_neg hji, if_neg hji, Array.getElem?_toList]
    have hjl : j < es.toList.length := (List.getElem?_eq_some_iff.1 h2).1
    have he0 : e0 ∈ es.toList := List.mem_of_getElem? h2
    have who : ∀ x ∈ es.toList.set j { e0 with key := key, val := val }, x = { e0 with key := key, val := val } ∨ x ∈ es.toList := by
      intro x hx
      rcases List.mem_or_eq_of_mem_set hx with hx | hx
      · exact .inr hx
      · exact .inl hx
    have hk0 : (rg P k R e0).1 = kl := by
      obtain ⟨y, hy⟩ := F.reads e0 he0
      rw [rg_of hy]
      have := rd_key hy
      rw [h3, hkey] at this
      injection this with this
      exact this.symm
    have hnew : ∀ bn, (rg P k R { e0 with key := key, val := val, born := bn }).1 = kl := fun bn => by rw [rg_of (rd_mk hkey hv)]
    refine ⟨_, hrun2, ⟨_, clock, since, seen, c0, heap_setBlock_same hb _, F', by simpa using hs, by rw [DataW.put_eq, hput], (heap_setBlock_other hb _ hne).trans hr, ?_, ?_, ?_, ?_, hsc, hsk⟩, ⟨rfl, rfl, rfl, by simp [setBlock], fun i _ hi => heap_setBlock_other hb _ (fun e => hi (by rw [e]))⟩⟩
    · intro x hx
      rw [hlist] at hx
      rcases who x hx with rfl | hx
      · exact hold e0 he0
      · exact hold x hx
    · rw [left_len, left_len, born_modify]
    · intro x hx
      rw [hlist] at hx
      rcases who x hx with rfl | hx
      · show left (rg P k R { e0 with key := key, val := val, born := e0.born }).1 = _
        rw [hnew, ← hk0, hl1 e0 he0]
      · exact hl1 x hx
    · intro q hq
      obtain ⟨x, hx, rfl⟩ := hl2 q hq
      rw [hlist]
      obtain ⟨i, hi, ei⟩ := List.getElem_of_mem hx
      by_cases hji : j = i
      · subst hji
        have : x = e0 := by
          rw [List.getElem?_eq_getElem hi, ei] at h2
          exact Option.some.inj h2
        subst this
        exact ⟨_, List.mem_of_getElem? (List.getElem?_set_self hjl), by rw [hnew x.born]; exact hk0.symm⟩
      · refine ⟨x, List.mem_of_getElem? (i := i) ?_, rfl⟩
        rw [List.getElem?_set_ne hji, List.getElem?_eq_getElem hi, ei]
end
end Go.Proofs.Ytaldfbmjmpkmmaa.Mk
namespace Go.Proofs.Ytaldfbmjmpkmmaa.Mk
open Go.RowKit Go.Maps Go.WideMaps
set_option linter.unusedVariables false
set_option linter.unusedSectionVars false
/-- f tells each key's element. -/
def MapL (P : Program) (k : TypeId) (w : World) (b n : Nat) (f : Lit → Option Value) : Prop :=
  ∃ D : DataW Value, w.ownsMap P k Rv b n D ∧ (∀ q, Maps.has D q = (f q).isSome) ∧ ∀ q v, f q = some v → ∀ z, D.atKey q z = .held v
/-- A range under way: 'left' tells the keys that are still to come. -/
def RangeL (P : Program) (k : TypeId) (w : World) (b r n : Nat) (f : Lit → Option Value) (left : Lit → Bool) (cnt : Nat) : Prop :=
  ∃ D : DataW Value, w.ranges P k Rv b r n D left cnt ∧ (∀ q, Maps.has D q = (f q).isSome) ∧ (∀ q v, f q = some v → ∀ z, D.atKey q z = .held v) ∧ ∀ q, left q = true → (f q).isSome = true
def lput (f : Lit → Option Value) (q : Lit) (v : Value) : Lit → Option Value := fun x => if x.sameKey q = true then some v else f x
def ldel (f : Lit → Option Value) (q : Lit) : Lit → Option Value := fun x => if x.sameKey q = true then none else f x
section
variable {P : Program} {k : TypeId} {w w' : World} {b n : Nat} {f : Lit → Option Value}
theorem MapL.made (P : Program) (k : TypeId) (w : World) : MapL P k (w.alloc (.map #[] 0)) w.heap.size 0 (fun _ => none) :=
  ⟨.map [], World.ownsMap_made _ _ _ _, fun _ => rfl, fun _ _ h => by cases h⟩
theorem MapL.kept (h : MapL P k w b n f) {row : Option Nat} (hg : w.grownBy w' row) (hne : some b ≠ row) : MapL P k w' b n f := by
  obtain ⟨D, ho, h2, h3⟩ := h
  exact ⟨D, ho.kept hg hne, h2, h3⟩
theorem MapL.below (h : MapL P k w b n f) (hb : Below w.heap.size w w') : MapL P k w' b n f := h.kept (grownBy_of_below hb none) (by simp)
theorem MapL.mono (h : MapL P k w b n f) {m : Nat} (hm : n ≤ m) : MapL P k w b m f := by
  obtain ⟨D, ho, h2⟩ := h
  exact ⟨D, ho.mono hm, h2⟩
theorem MapL.lt (h : MapL P k w b n f) : b < w.heap.size := by
  obtain ⟨D, ho, _⟩ := h
  exact ho.lt
theorem MapL.ne (h : MapL P k w b n f) {a : Addr} {v : Value} (hc : w.cell? a = some v) : a.block ≠ b := by
  obtain ⟨D, ho, _⟩ := h
  exact owns_ne ho hc
theorem MapL.not_cells (h : MapL P k w b n f) {cells : Array Value} {t : TypeId} : w.heap[b]? ≠ some (.cells cells t (0, 0)) := by
  obtain ⟨D, ho, _⟩ := h
  obtain ⟨es, clock, hb, _⟩ := ho
  rw [hb]
  intro e
  injection e with e
  cases e
theorem MapL.key (h : MapL P k w b n f) (K : Keyed P k) {q : Lit} (hq : (f q).isSome = true) : WideAt.IsKeyLit q := by
  obtain ⟨D, ho, h2, _⟩ := h
  obtain ⟨es, rfl, _, hk⟩ := ho.entries K
  rw [← h2] at hq
  obtain ⟨p, hp, hs⟩ := List.any_eq_true.1 hq
  rw [← WideAt.sameKey_eq hs]
  exact hk p hp
/-- How many keys there are. -/
theorem MapL.size (h : MapL P k w b n f) (K : Keyed P k) (ks : List Lit) (hd : ks.Nodup) (hk : ∀ q, (f q).isSome = true ↔ q ∈ ks) : ∃ D : DataW Value, w.ownsMap P k Rv b n D ∧ Maps.size D = ks.length := by
  obtain ⟨D, ho, h2, _⟩ := h
  obtain ⟨es, rfl, hp, hl⟩ := ho.entries K
  refine ⟨_, ho, ?_⟩
  show es.length = ks.length
  rw [show es.length = (es.map Prod.fst).length from by simp]
  refine List.Perm.length_eq ((List.perm_ext_iff_of_nodup ?_ hd).2 (fun q => ?_))
  · exact List.pairwise_map.2 hp
  · rw [← hk, ← h2, List.mem_map]
    constructor
    · rintro ⟨p, hp, rfl⟩
      exact List.any_eq_true.2 ⟨p, hp, WideAt.sameKey_self (hl p hp)⟩
    · intro hq
      obtain ⟨p, hp, hs⟩ := List.any_eq_true.1 hq
      exact ⟨p, hp, WideAt.sameKey_eq hs⟩
variable {ops : Array Oper} {rest : List Oper} {o : Oper} {a : Act} {Q : Exit → Act → World → Prop}
theorem MapL.get_ (h : MapL P k w b n f) (K : Keyed P k) {t e : TypeId} (ht : P.underlying t = some (.map k e)) {z : Value} (hz : (zeroValue e).run P w = .ok z w) {key : Value} {q : Lit} (hkey : keyOf P k key = some q) :
    (Instr.lookup t (.map (some b)) key false).run P w = .ok ((f q).getD z) w ∧ (Instr.lookup t (.map (some b)) key true).run P w = .ok (.tuple #[(f q).getD z, .bool (f q).isSome]) w := by
  obtain ⟨D, ho, h2, h3⟩ := h
  have hval : ∀ v ps, Rv v = some (D.atKey q (.held z), ps) → v = (f q).getD z := fun v ps hv => by
    have e1 : DataW.held v = D.atKey q (.held z) := by
      have := congrArg (fun q => q.map (·.1)) hv
      simpa [Rv] using this
    cases hf : f q with
    | none =>
      have hno : Maps.has D q = false := by rw [h2, hf]; rfl
      rw [Maps.atKey_of_not_has hno] at e1
      injection e1
    | some u =>
      rw [h3 q u hf] at e1
      injection e1
  refine ⟨?_, ?_⟩
  · obtain ⟨v, ps, hrun, hR⟩ := ho.lookup K ht hz (zd := .held z) (zp := []) rfl hkey
    rw [hval v ps hR] at hrun
    exact hrun
  · obtain ⟨v, ps, hrun, hR⟩ := ho.look_ok K ht hz (zd := .held z) (zp := []) rfl hkey
    rw [hval v ps hR, h2] at hrun
    exact hrun
/-- 'v, ok := m[key]'. -/
theorem MapL.look (h : MapL P k w b n f) (K : Keyed P k) (hg : o.guard = none) (m x : Operand) (t e : TypeId) (hop : o.op = Op.lookup t m x true)
    (ht : P.underlying t = some (.map k e)) {z : Value} (hz : (zeroValue e).run P w = .ok z w) (hm : a.eval m = .map (some b)) {key : Value} {q : Lit} (hx : a.eval x = key) (hkey : keyOf P k key = some q)
    (hK : wpList P ops Q rest (a.put o.dst (.tuple #[(f q).getD z, .bool (f q).isSome])) w) : wpList P ops Q (o :: rest) a w := by
  refine wpList_plain hg fun K' hK' => ?_
  unfold Oper.wp
  simp [execOp, hop, hm, hx, (h.get_ K ht hz hkey).2, Result.andThen]
  exact hK' _ _ hK
/-- 'v, ok := m[key]' at a step of a region that draws its order. -/
theorem MapL.step_look {K' : Act → World → Prop} {Q' : Exit → Act → World → Prop} {E : Prop} (h : MapL P k w b n f) (K : Keyed P k) (hg : o.guard = none) (m x : Operand) (t e : TypeId) (hop : o.op = Op.lookup t m x true)
    (ht : P.underlying t = some (.map k e)) {z : Value} (hz : (zeroValue e).run P w = .ok z w) (hm : a.eval m = .map (some b)) {key : Value} {q : Lit} (hx : a.eval x = key) (hkey : keyOf P k key = some q)
    (hK : K' (a.put o.dst (.tuple #[(f q).getD z, .bool (f q).isSome])) w) : if Region.wanted o (yielded ops a.tmps) = true then Oper.wp P o a w K' Q' else E := by
  have hw : Region.wanted o (yielded ops a.tmps) = true := by simp [Region.wanted, hg]
  rw [if_pos hw]
  unfold Oper.wp
  simp [execOp, hop, hm, hx, (h.get_ K ht hz hkey).2, Result.andThen]
  exact hK
/-- 'm[key]' at a step of a region that draws its order. -/
theorem MapL.step_at {K' : Act → World → Prop} {Q' : Exit → Act → World → Prop} {E : Prop} (h : MapL P k w b n f) (K : Keyed P k) (hg : o.guard = none) (m x : Operand) (t e : TypeId) (hop : o.op = Op.lookup t m x false)
    (ht : P.underlying t = some (.map k e)) {z : Value} (hz : (zeroValue e).run P w = .ok z w) (hm : a.eval m = .map (some b)) {key : Value} {q : Lit} (hx : a.eval x = key) (hkey : keyOf P k key = some q)
    (hK : K' (a.put o.dst ((f q).getD z)) w) : if Region.wanted o (yielded ops a.tmps) = true then Oper.wp P o a w K' Q' else E := by
  have hw : Region.wanted o (yielded ops a.tmps) = true := by simp [Region.wanted, hg]
  rw [if_pos hw]
  unfold Oper.wp
  simp [execOp, hop, hm, hx, (h.get_ K ht hz hkey).1, Result.andThen]
  exact hK
/-- 'm[key]'. -/
theorem MapL.at_ (h : MapL P k w b n f) (K : Keyed P k) (hg : o.guard = none) (m x : Operand) (t e : TypeId) (hop : o.op = Op.lookup t m x false)
    (ht : P.underlying t = some (.map k e)) {z : Value} (hz : (zeroValue e).run P w = .ok z w) (hm : a.eval m = .map (some b)) {key : Value} {q : Lit} (hx : a.eval x = key) (hkey : keyOf P k key = some q)
    (hK : wpList P ops Q rest (a.put o.dst ((f q).getD z)) w) : wpList P ops Q (o :: rest) a w := by
  refine wpList_plain hg fun K' hK' => ?_
  unfold Oper.wp
  simp [execOp, hop, hm, hx, (h.get_ K ht hz hkey).1, Result.andThen]
  exact hK' _ _ hK
theorem put_fits {D : DataW Value} (hD : Maps.IsMap D) {q : Lit} (hq : WideAt.IsKeyLit q) (v : Value) (h2 : ∀ q, Maps.has D q = (f q).isSome) (h3 : ∀ q v, f q = some v → ∀ z, D.atKey q z = .held v) :
    (∀ x, Maps.has (D.put q (.held v)) x = (lput f q v x).isSome) ∧ ∀ x u, lput f q v x = some u → ∀ z, (D.put q (.held v)).atKey x z = .held u := by
  refine ⟨fun x => ?_, fun x u hu z => ?_⟩
  · unfold lput
    split
    · rename_i hs
      obtain rfl := WideAt.sameKey_eq hs
      rw [has_put_same hD hq]
      rfl
    · rename_i hs
      rw [has_put_other (fun e => hs (by rw [e]; exact WideAt.sameKey_self hq)), h2]
  · unfold lput at hu
    split at hu
    · rename_i hs
      obtain rfl := WideAt.sameKey_eq hs
      obtain rfl := Option.some.inj hu
      exact atKey_put_same hD hq _ _
    · rename_i hs
      rw [atKey_put_other (fun e => hs (by rw [e]; exact WideAt.sameKey_self hq))]
      exact h3 x u hu z
theorem MapL.put_ (h : MapL P k w b n f) (K : Keyed P k) {t e : TypeId} (ht : P.underlying t = some (.map k e)) (hn : n < maxLen) {key : Value} {q : Lit} (hkey : keyOf P k key = some q) (val : Value) :
    ∃ w', (Instr.mapUpdate t (.map (some b)) key val).run P w = .ok () w' ∧ MapL P k w' b (n + 1) (lput f q val) ∧ w.grownBy w' (some b) := by
  obtain ⟨D, ho, h2, h3⟩ := h
  obtain ⟨w', hrun, ho', hg'⟩ := ho.update K ht hn hkey (Rv_mk val)
  exact ⟨w', hrun, ⟨_, ho', put_fits ho.isMap (K.key hkey) val h2 h3⟩, hg'⟩
/-- 'm[key] = val'. -/
theorem MapL.store (h : MapL P k w b n f) (K : Keyed P k) (hg : o.guard = none) (m x y : Operand) (t e : TypeId) (hop : o.op = Op.mapUpdate t m x y)
    (ht : P.underlying t = some (.map k e)) (hn : n < maxLen) (hm : a.eval m = .map (some b)) {key : Value} {q : Lit} (hx : a.eval x = key) (hkey : keyOf P k key = some q) (val : Value) (hy : a.eval y = val)
    (hK : ∀ w', MapL P k w' b (n + 1) (lput f q val) → w.grownBy w' (some b) → wpList P ops Q rest (a.put o.dst undef) w') : wpList P ops Q (o :: rest) a w := by
  obtain ⟨w', hrun, h', hg'⟩ := h.put_ K ht hn hkey val
  refine wpList_plain hg fun K' hK' => ?_
  unfold Oper.wp
  simp [execOp, hop, hm, hx, hy, hrun, Result.andThen]
  exact hK' _ _ (hK w' h' hg')
/-- 'delete(m, key)'. -/
theorem MapL.drop (h : MapL P k w b n f) (K : Keyed P k) (hg : o.guard = none) (m x : Operand) (t e : TypeId) (hop : o.op = Op.call { callee := Callee.builtin Builtin.delete, args := #[m, x], argTypes := #[t, k] })
    (ht : P.underlying t = some (.map k e)) (hm : a.eval m = .map (some b)) {key : Value} {q : Lit} (hx : a.eval x = key) (hkey : keyOf P k key = some q)
    (hK : ∀ w', MapL P k w' b n (ldel f q) → w.grownBy w' (some b) → wpList P ops Q rest (a.put o.dst (.tuple #[])) w') : wpList P ops Q (o :: rest) a w := by
  obtain ⟨D, ho, h2, h3⟩ := h
  refine wpList_delete_own w hg m x t k hop e K ht Rv b n D hm ho key q hx hkey (fun w' ho' ht' => hK w' ⟨_, ho', fun x => ?_, fun x u hu z => ?_⟩ ht'.grown)
  · unfold ldel
    split
    · rename_i hs
      obtain rfl := WideAt.sameKey_eq hs
      rw [has_del_same]
      rfl
    · rename_i hs
      rw [has_del_other (fun e => hs (by rw [e]; exact WideAt.sameKey_self (K.key hkey))), h2]
  · unfold ldel at hu
    split at hu
    · cases hu
    · rename_i hs
      rw [atKey_del_other (fun e => hs (by rw [e]; exact WideAt.sameKey_self (K.key hkey)))]
      exact h3 x u hu z
/-- 'len(m)'. -/
theorem MapL.len (h : MapL P k w b n f) (K : Keyed P k) (hg : o.guard = none) (m : Operand) (t e : TypeId) (hop : o.op = Op.call { callee := Callee.builtin Builtin.len, args := #[m], argTypes := #[t] })
    (ht : P.underlying t = some (.map k e)) (hm : a.eval m = .map (some b)) (ks : List Lit) (hd : ks.Nodup) (hk : ∀ q, (f q).isSome = true ↔ q ∈ ks)
    (hK : wpList P ops Q rest (a.put o.dst (.int .i64 ks.length)) w) : wpList P ops Q (o :: rest) a w := by
  obtain ⟨D, ho, hs⟩ := h.size K ks hd hk
  exact wpList_len_own w hg m t hop k e ht Rv b n D hm ho (by rw [hs]; exact hK)
/-! ranges -/
variable {r cnt : Nat} {left : Lit → Bool}
theorem RangeL.map (h : RangeL P k w b r n f left cnt) : MapL P k w b n f := by
  obtain ⟨D, hr, h2, h3, _⟩ := h
  exact ⟨D, hr.owns, h2, h3⟩
theorem RangeL.kept {row : Option Nat} (h : RangeL P k w b r n f left cnt) (hg : w.grownBy w' row) (h1 : some b ≠ row) (h2 : some r ≠ row) : RangeL P k w' b r n f left cnt := by
  obtain ⟨D, hr, h3⟩ := h
  exact ⟨D, hr.kept hg h1 h2, h3⟩
theorem RangeL.below (h : RangeL P k w b r n f left cnt) (hb : Below w.heap.size w w') : RangeL P k w' b r n f left cnt := h.kept (grownBy_of_below hb none) (by simp) (by simp)
theorem RangeL.lt (h : RangeL P k w b r n f left cnt) : r < w.heap.size := by
  obtain ⟨D, hr, _⟩ := h
  exact hr.lt
theorem RangeL.ne (h : RangeL P k w b r n f left cnt) : r ≠ b := by
  obtain ⟨D, hr, _⟩ := h
  exact hr.ne
theorem RangeL.left_eq (h : RangeL P k w b r n f left cnt) : w.rangeLeft b r = cnt := by
  obtain ⟨D, hr, _⟩ := h
  exact hr.left_eq
theorem RangeL.not_cells (h : RangeL P k w b r n f left cnt) {cells : Array Value} {t : TypeId} : w.heap[r]? ≠ some (.cells cells t (0, 0)) := by
  obtain ⟨D, hr, _⟩ := h
  obtain ⟨es, clock, since, seen, c0, _, _, _, _, hb, _⟩ := hr
  rw [hb]
  intro e
  injection e with e
  cases e
/-- 'range m'. -/
theorem MapL.range (h : MapL P k w b n f) (K : Keyed P k) (hg : o.guard = none) (m : Operand) (t e : TypeId) (hop : o.op = Op.range t m) (ht : P.underlying t = some (.map k e)) (hm : a.eval m = .map (some b))
    (hK : ∀ w' cnt, RangeL P k w' b w.heap.size n f (fun q => (f q).isSome) cnt → Below w.heap.size w w' → w'.heap.size = w.heap.size + 1 → wpList P ops Q rest (a.put o.dst (.pointer (some ⟨w.heap.size, 0, none⟩))) w') : wpList P ops Q (o :: rest) a w := by
  obtain ⟨D, ho, h2, h3⟩ := h
  refine wpList_range_own w hg m t hop k e K ht Rv b n D hm ho (fun w' hr hg' hs' => hK w' (Maps.size D) ⟨D, ?_, h2, h3, fun q hq => hq⟩ ⟨hg'.os, hg'.tape, hg'.output, hg'.size, fun i hi => hg'.block i hi (by simp)⟩ hs')
  rw [show (fun q => (f q).isSome) = Maps.has D from funext (fun q => (h2 q).symm)]
  exact hr
/-- The step. -/
theorem RangeL.next (h : RangeL P k w b r n f left cnt) (K : Keyed P k) (hg : o.guard = none) (it : Operand) (hop : o.op = Op.next it false) (hit : a.eval it = .pointer (some ⟨r, 0, none⟩))
    (hDone : cnt = 0 → (∀ q, left q = false) → wpList P ops Q rest (a.put o.dst (.tuple #[.bool false])) w)
    (hMore : ∀ (key : Value) (q : Lit) (v : Value) (w' : World) (cnt' : Nat), keyOf P k key = some q → left q = true → f q = some v → RangeL P k w' b r n f (fun z => left z && !z.sameKey q) cnt' → cnt' < cnt →
      w.grownBy w' (some r) → w'.heap.size = w.heap.size → (Instr.entry (.pointer (some ⟨r, 0, none⟩))).run P w' = .ok (.tuple #[key, v]) w' → wpList P ops Q rest (a.put o.dst (.tuple #[.bool true, key, v])) w') :
    wpList P ops Q (o :: rest) a w := by
  obtain ⟨D, hr, h2, h3, h4⟩ := h
  refine wpList_next_ranges w hg it hop k K Rv (fun x : Value => x) (fun x : Value => x) (fun key kl hkey => ⟨key, rfl⟩) (fun v y hv => ⟨v, rfl⟩) b r n D left cnt hit hr hDone (fun key v q y w' cnt' hkey hl hv hat hr' hlt hgr hsz hen => ?_)
  obtain ⟨u, hu⟩ := Option.isSome_iff_exists.1 (h4 q hl)
  have e1 := hat .nil
  rw [h3 q u hu] at e1
  have e2 : y = (.held v, []) := by
    unfold Rv at hv
    exact (Option.some.inj hv).symm
  rw [e2] at e1
  have e3 : u = v := by injection e1
  subst e3
  exact hMore key q u w' cnt' hkey hl hu ⟨D, hr', h2, h3, fun x hx => h4 x (by simp at hx; exact hx.1)⟩ hlt hgr hsz hen
/-- 'm[key] = val' in the round, at a key that is there. -/
theorem RangeL.put_ (h : RangeL P k w b r n f left cnt) (K : Keyed P k) {t e : TypeId} (ht : P.underlying t = some (.map k e)) (hn : n < maxLen) {key : Value} {q : Lit} (hkey : keyOf P k key = some q) (val : Value) (hh : (f q).isSome = true) :
    ∃ w', (Instr.mapUpdate t (.map (some b)) key val).run P w = .ok () w' ∧ RangeL P k w' b r n (lput f q val) left cnt ∧ w.grownBy w' (some b) := by
  obtain ⟨D, hr, h2, h3, h4⟩ := h
  obtain ⟨w', hrun, hr', hg'⟩ := ranges_put hr K ht hn hkey (Rv_mk val) (by rw [h2]; exact hh)
  obtain ⟨p2, p3⟩ := put_fits hr.owns.isMap (K.key hkey) val h2 h3
  refine ⟨w', hrun, ⟨_, hr', p2, p3, fun x hx => ?_⟩, hg'⟩
  unfold lput
  split
  · rfl
  · exact h4 x hx
theorem RangeL.store (h : RangeL P k w b r n f left cnt) (K : Keyed P k) (hg : o.guard = none) (m x y : Operand) (t e : TypeId) (hop : o.op = Op.mapUpdate t m x y)
    (ht : P.underlying t = some (.map k e)) (hn : n < maxLen) (hm : a.eval m = .map (some b)) {key : Value} {q : Lit} (hx : a.eval x = key) (hkey : keyOf P k key = some q) (val : Value) (hy : a.eval y = val) (hh : (f q).isSome = true)
    (hK : ∀ w', RangeL P k w' b r n (lput f q val) left cnt → w.grownBy w' (some b) → wpList P ops Q rest (a.put o.dst undef) w') : wpList P ops Q (o :: rest) a w := by
  obtain ⟨w', hrun, h', hg'⟩ := h.put_ K ht hn hkey val hh
  refine wpList_plain hg fun K' hK' => ?_
  unfold Oper.wp
  simp [execOp, hop, hm, hx, hy, hrun, Result.andThen]
  exact hK' _ _ (hK w' h' hg')
end
/-! copies, and a strike by a predicate -/
section
open Go.Shelf
variable {P : Program} {k : TypeId} {w : World} {b n : Nat} {f : Lit → Option Value} {ρ : Ren}
theorem MapL.clone (L : SlLaysW.n5 P ρ) (h : MapL P k w b n f) : Calls P (ρ.f 5) #[.map (some b)] w fun e w' => e = .returned (.map (some w.heap.size)) ∧ MapL P k w' w.heap.size n f ∧ MapL P k w' b n f ∧ Below w.heap.size w w' := by
  obtain ⟨D, ho, h2⟩ := h
  refine (AnyW.maps_Clone_owns L k Rv b n D w ho).mono ?_
  rintro e w' ⟨he, h3, h4, h5⟩
  exact ⟨he, ⟨D, h3, h2⟩, ⟨D, h4, h2⟩, h5⟩
def heldOf : DataW Value → Value
  | .held v => v
  | _ => .tuple #[]
open Classical in
/-- Only values that are ok. -/
noncomputable def Ro (ok : Value → Prop) (v : Value) : Option (DataW Value × List MemPlace) := if ok v then Rv v else none
theorem Ro_Rv {ok : Value → Prop} {v : Value} {z : DataW Value × List MemPlace} (h : Ro ok v = some z) : ok v ∧ z = (.held v, []) := by
  unfold Ro at h
  split at h
  · rename_i ho
    exact ⟨ho, (Option.some.inj h).symm⟩
  · cases h
theorem Ro_mk {ok : Value → Prop} {v : Value} (h : ok v) : Ro ok v = some (.held v, []) := by
  unfold Ro
  rw [if_pos h]
  rfl
theorem owns_wide {ok : Value → Prop} {D : DataW Value} (h : w.ownsMap P k (Ro ok) b n D) : w.ownsMap P k Rv b n D := by
  obtain ⟨es, clock, hb, F, hs, rfl⟩ := h
  exact (World.ownsMap_of_fit hb F (fun x _ z hz => by rw [(Ro_Rv hz).2]; rfl)).mono hs
theorem owns_narrow {ok : Value → Prop} {D : DataW Value} (K : Keyed P k) (h : w.ownsMap P k Rv b n D) (h2 : ∀ q, Maps.has D q = (f q).isSome) (h3 : ∀ q v, f q = some v → ∀ z, D.atKey q z = .held v) (hok : ∀ q v, f q = some v → ok v) : w.ownsMap P k (Ro ok) b n D := by
  obtain ⟨es, clock, hb, F, hs, rfl⟩ := h
  refine (World.ownsMap_of_fit hb F (fun x hx z hz => ?_)).mono hs
  have hz' : z = (.held x.val, []) := (Option.some.inj hz).symm
  rw [hz']
  refine Ro_mk ?_
  obtain ⟨y, hy⟩ := F.reads x hx
  obtain ⟨z2, hz2, hzd⟩ := Go.WideElems.rd_val hy
  have hz3 : z2 = (.held x.val, []) := (Option.some.inj hz2).symm
  have hkey := Go.WideElems.rd_key hy
  have hat := (Go.WideShapes.atKey_sorted (es.toList.map (Go.WideElems.rg P k Rv)) (Maps.fit_rising K F) y.1 (K.key hkey)).2 (Go.WideElems.rg P k Rv x) (List.mem_map.2 ⟨x, hx, rfl⟩) (by rw [Go.WideElems.rg_of hy])
  have hhas : Maps.has (DataW.map ((es.toList.map (Go.WideElems.rg P k Rv)).foldr DataW.insert [])) y.1 = true :=
    List.any_eq_true.2 ⟨Go.WideElems.rg P k Rv x, mem_sorted.2 (List.mem_map.2 ⟨x, hx, rfl⟩), by rw [Go.WideElems.rg_of hy]; exact WideAt.sameKey_self (K.key hkey)⟩
  rw [h2] at hhas
  obtain ⟨v, hv⟩ := Option.isSome_iff_exists.1 hhas
  have e1 := h3 y.1 v hv .nil
  rw [hat .nil, Go.WideElems.rg_of hy, hzd, hz3] at e1
  have e2 : x.val = v := by injection e1
  rw [e2]
  exact hok _ _ hv
def strikeF (f : Lit → Option Value) (p : Lit → Value → Bool) : Lit → Option Value := fun q => match f q with | some v => if p q v = true then none else some v | none => none
theorem MapL.strike (L : SlLaysDf.n5 P ρ) (K : Keyed P (ρ.t 26)) (h : MapL P (ρ.t 26) w b n f) (ok : Value → Prop) (hok : ∀ q v, f q = some v → ok v) (p : Lit → Value → Bool) (g : Nat) (cb : Array Value) (eg : ∀ args w, (callFunc g args).run P w = .ok (.enter g args) w)
    (hdel : ∀ (W : World) (key val : Value) (q : Lit), w.grownBy W (some b) → keyOf P (ρ.t 26) key = some q → ok val → Calls P g (#[key, val] ++ cb) W fun e w' => e = .returned (.bool (p q val)) ∧ W.grownBy w' none) :
    Calls P (ρ.f 5) #[.map (some b), .func (.func g) #[] cb] w fun e w' => e = .returned (.tuple #[]) ∧ MapL P (ρ.t 26) w' b n (strikeF f p) ∧ w.grownBy w' (some b) := by
  obtain ⟨D, ho, h2, h3⟩ := h
  refine (AnyDf.maps_DeleteFunc L K (Ro ok) (fun q d => p q (heldOf d)) g cb b n D w eg (owns_narrow K ho h2 h3 hok) (fun W key val kl yd yp hg hk hv => ?_)).mono ?_
  · obtain ⟨hv1, hv2⟩ := Ro_Rv hv
    have e2 : yd = .held val := congrArg Prod.fst hv2
    subst e2
    exact hdel W key val kl hg hk hv1
  · rintro e w' ⟨he, ho', hg'⟩
    have ho2 := owns_wide ho'
    obtain ⟨es, rfl, hap, hl⟩ := ho.entries K
    have hat : ∀ x ∈ es, ∃ v, f x.1 = some v ∧ x.2 = .held v := fun x hx => by
      have hh : Maps.has (DataW.map es) x.1 = true := List.any_eq_true.2 ⟨x, hx, WideAt.sameKey_self (hl x hx)⟩
      rw [h2] at hh
      obtain ⟨v, hv⟩ := Option.isSome_iff_exists.1 hh
      exact ⟨v, hv, (WideAt.atKey_mem (.nil : DataW Value) (hl x hx) hap hx).symm.trans (h3 _ v hv .nil)⟩
    refine ⟨he, ⟨_, ho2, fun q => ?_, fun q v hq z => ?_⟩, hg'⟩
    · show (List.any (es.filter fun x => !p x.1 (heldOf x.2)) fun x => x.1.sameKey q) = _
      unfold strikeF
      cases hf : f q with
      | none =>
        have : Maps.has (DataW.map es) q = false := by rw [h2, hf]; rfl
        have h0 : (es.any fun x => x.1.sameKey q) = false := this
        simp only [Option.isSome_none]
        rw [Bool.eq_false_iff]
        intro hc
        obtain ⟨x, hx, hs⟩ := List.any_eq_true.1 hc
        exact absurd (List.any_eq_true.2 ⟨x, (List.mem_filter.1 hx).1, hs⟩) (by rw [h0]; simp)
      | some v =>
        have : Maps.has (DataW.map es) q = true := by rw [h2, hf]; rfl
        obtain ⟨x, hx, hs⟩ := List.any_eq_true.1 (show (es.any fun x => x.1.sameKey q) = true from this)
        have hxq := WideAt.sameKey_eq hs
        obtain ⟨u, hu, hxu⟩ := hat x hx
        rw [hxq, hf] at hu
        obtain rfl := Option.some.inj hu
        simp only
        cases hp : p q v with
        | true =>
          simp only [if_pos, Option.isSome_none]
          rw [Bool.eq_false_iff]
          intro hc
          obtain ⟨y, hy, hs2⟩ := List.any_eq_true.1 hc
          obtain ⟨hy1, hy2⟩ := List.mem_filter.1 hy
          obtain ⟨u2, hu2, hyu⟩ := hat y hy1
          have hyq := WideAt.sameKey_eq hs2
          rw [hyq, hf] at hu2
          obtain rfl := Option.some.inj hu2
          rw [hyq, hyu] at hy2
          simp [heldOf, hp] at hy2
        | false =>
          simp only [Bool.false_eq_true, if_false, Option.isSome_some]
          refine List.any_eq_true.2 ⟨x, List.mem_filter.2 ⟨hx, ?_⟩, hs⟩
          rw [hxq, hxu]
          simp [heldOf, hp]
    · unfold strikeF at hq
      cases hf : f q with
      | none => rw [hf] at hq; cases hq
      | some u =>
        rw [hf] at hq
        simp only at hq
        split at hq
        · cases hq
        · rename_i hp
          obtain rfl := Option.some.inj hq
          have : Maps.has (DataW.map es) q = true := by rw [h2, hf]; rfl
          obtain ⟨x, hx, hs⟩ := List.any_eq_true.1 (show (es.any fun x => x.1.sameKey q) = true from this)
          have hxq := WideAt.sameKey_eq hs
          obtain ⟨u2, hu2, hxu⟩ := hat x hx
          rw [hxq, hf] at hu2
          obtain rfl := Option.some.inj hu2
          have hm : x ∈ es.filter fun x => !p x.1 (heldOf x.2) := List.mem_filter.2 ⟨hx, by rw [hxq, hxu]; simp [heldOf, hp]⟩
          have hkq : WideAt.IsKeyLit q := by rw [← hxq]; exact hl x hx
          have := WideAt.atKey_mem (entries := es.filter fun x => !p x.1 (heldOf x.2)) (d := x.2) z hkq (hap.filter _) (by rw [← hxq]; exact hm)
          rw [hxu] at this
          exact this
end
end Go.Proofs.Ytaldfbmjmpkmmaa.Mk
namespace Go.Proofs.Ytaldfbmjmpkmmaa.PL
open Go.RowKit Go.Proofs.YtaldfbmjmpkmmaaW.PrintWords Go.Proofs.YtaldfbmjmpkmmaaW.PrintLast Go.Proofs.YtaldfbmjmpkmmaaW.PrintMore
set_option linter.unusedVariables false
set_option linter.unusedSimpArgs false
/-- An ended transaction. -/
def kEnd : Kd (Int × Int) := Kd.pair (Kd.int .i64) (Kd.int .i64)
theorem kEnd_open {w : World} {x : Int × Int} {cs : List Value} (h : kEnd.K w x cs) : cs = [.int .i64 x.1, .int .i64 x.2] := by
  obtain ⟨_, _, rfl, rfl, rfl⟩ := h
  exact rfl
theorem kEnd_mk (w : World) (x : Int × Int) : kEnd.K w x [.int .i64 x.1, .int .i64 x.2] := ⟨[.int .i64 x.1], [.int .i64 x.2], rfl, rfl, rfl⟩
theorem kEnd_mkM (w : World) (base : Nat) (ok : Nat → Prop) (x : Int × Int) : kEnd.M w base ok x [.int .i64 x.1, .int .i64 x.2] := ⟨[.int .i64 x.1], [.int .i64 x.2], rfl, rfl, rfl⟩
theorem infoV : (Try.prog.info? 29).map (fun i => (i.zero, i.size, i.bytes)) = some (some (.agg #[.int .i64 0, .string ⟨#[]⟩, .bool false]), 3, 32) := by kernel_rfl
theorem infoW : (Try.prog.info? 56).map (fun i => (i.zero, i.size, i.bytes)) = some (some (.agg #[.string ⟨#[]⟩, .string ⟨#[]⟩, .bool false]), 3, 40) := by kernel_rfl
theorem infoE : (Try.prog.info? 96).map (fun i => (i.zero, i.size, i.bytes)) = some (some (.agg #[.int .i64 0, .int .i64 0]), 2, 16) := by kernel_rfl
theorem infoS : (Try.prog.info? 9).map (fun i => (i.zero, i.size, i.bytes)) = some (some (.string ⟨#[]⟩), 1, 16) := by kernel_rfl
theorem C_none {α : Type} {d : Kd α} {w : World} {n : Nat} {xs : List α} (h : d.C w none n xs) : xs = [] := by
  have h1 := h.1
  rcases Nat.eq_zero_or_pos n with h0 | h0
  · exact List.eq_nil_of_length_eq_zero (by omega)
  · obtain ⟨ad, e, _⟩ := h.2.2 h0
    cases e
set_option maxRecDepth 100000 in
set_option maxHeartbeats 1000000 in
theorem clone_ver (w : World) (A : Option Addr) (c : Nat) (xs : List Ver) (hr : Kd.C k29 w A xs.length xs) (hl : xs.length ≤ 8192) :
    Calls Try.prog 114 #[.slice A xs.length c] w fun e w' => ∃ v, e = .returned v ∧ Kd.R k29 29 w' w.heap.size (fun _ => True) v xs ∧ Below w.heap.size w w' := by
  cases A with
  | none =>
    obtain rfl := C_none hr
    have q : ∀ w, (binOp .eql 81 (.slice none 0 c) (.slice none 0 0)).run Try.prog w = .ok (.bool true) w := fun w => Lib.run_eql_slice_nil (P := Try.prog) w 81 _ none 0 c 0 0 Try.underlying81
    show Calls Try.prog 114 #[.slice none 0 c] w _
    clear hr hl
    go_enter Try.func114, Try.ntmps114
    go_wp2
    go_ret
    exact ⟨_, rfl, Kd.R_nil _ _ _ _ _, Below.refl _ _⟩
  | some ad =>
    have q : ∀ w, (binOp .eql 81 (.slice (some ad) xs.length c) (.slice none 0 0)).run Try.prog w = .ok (.bool false) w := fun w => Lib.run_eql_slice_nil (P := Try.prog) w 81 _ (some ad) xs.length c 0 0 Try.underlying81
    have HR := Aside0.mk hr
    have HL := Aside0.mk hl
    clear hr hl
    go_enter Try.func114, Try.ntmps114
    go_wp2_with (first | ((with_reducible refine gate_dst (N := 5) rfl ?_); refine Kd.R_lit k29 _ 29 ?hg (N := 5) ?hd (xs := ([] : List Ver)) (inner := []) (ok := fun _ => True) (okp := fun _ => True) ?hr ?hp (fun _ hk => hk) trivial (Below.refl _ _) (Nat.le_refl _) (by simp) ?_; (case hd => rfl); (case hg => rfl); (case hr => first | (go_simp; done) | (go_simp; rfl)); (case hp => exact (Reps.none _ _)); intro v1 w1 ho hb hg_ hnew_; have HO := Aside0.mk ho; have HB := Aside0.mk hb; clear ho hb hg_ hnew_) | ((with_reducible refine gate_builtin (b := .append) (xs := #[.tmp 5, .tmp 6]) rfl ?_); at_builtin; refine Kd.R_append_rows k29 (w0 := w) w.heap.size rfl (.tmp 5) (.tmp 6) 81 29 (.agg #[.int .i64 0, .string ⟨#[]⟩, .bool false]) 32 rfl Try.underlying81 infoV rfl (by decide) (by omega) v1 [] xs (some ad) xs.length c (fun _ => True) (fun _ => False) rfl rfl HO.out (Kd.C_below HR.out HB.out) (fun _ _ h => h) (fun _ h => h.elim) (fun _ _ => trivial) HB.out HB.out.size (by have := HL.out; simp only [List.length_nil]; omega) ?_; intro v2 w2 ho hb hg hat; have HO2 := Aside0.mk ho; have HB2 := Aside0.mk hb; clear ho hb hg hat))
    go_ret
    exact ⟨_, rfl, by simpa using HO2.out, HB2.out⟩
set_option maxRecDepth 100000 in
set_option maxHeartbeats 1000000 in
theorem clone_wr (w : World) (A : Option Addr) (c : Nat) (xs : List Wr) (hr : Kd.C k56 w A xs.length xs) (hl : xs.length ≤ 8192) :
    Calls Try.prog 100 #[.slice A xs.length c] w fun e w' => ∃ v, e = .returned v ∧ Kd.R k56 56 w' w.heap.size (fun _ => True) v xs ∧ Below w.heap.size w w' := by
  cases A with
  | none =>
    obtain rfl := C_none hr
    have q : ∀ w, (binOp .eql 33 (.slice none 0 c) (.slice none 0 0)).run Try.prog w = .ok (.bool true) w := fun w => Lib.run_eql_slice_nil (P := Try.prog) w 33 _ none 0 c 0 0 Try.underlying33
    show Calls Try.prog 100 #[.slice none 0 c] w _
    clear hr hl
    go_enter Try.func100, Try.ntmps100
    go_wp2
    go_ret
    exact ⟨_, rfl, Kd.R_nil _ _ _ _ _, Below.refl _ _⟩
  | some ad =>
    have q : ∀ w, (binOp .eql 33 (.slice (some ad) xs.length c) (.slice none 0 0)).run Try.prog w = .ok (.bool false) w := fun w => Lib.run_eql_slice_nil (P := Try.prog) w 33 _ (some ad) xs.length c 0 0 Try.underlying33
    have HR := Aside0.mk hr
    have HL := Aside0.mk hl
    clear hr hl
    go_enter Try.func100, Try.ntmps100
    go_wp2_with (first | ((with_reducible refine gate_dst (N := 5) rfl ?_); refine Kd.R_lit k56 _ 56 ?hg (N := 5) ?hd (xs := ([] : List Wr)) (inner := []) (ok := fun _ => True) (okp := fun _ => True) ?hr ?hp (fun _ hk => hk) trivial (Below.refl _ _) (Nat.le_refl _) (by simp) ?_; (case hd => rfl); (case hg => rfl); (case hr => first | (go_simp; done) | (go_simp; rfl)); (case hp => exact (Reps.none _ _)); intro v1 w1 ho hb hg_ hnew_; have HO := Aside0.mk ho; have HB := Aside0.mk hb; clear ho hb hg_ hnew_) | ((with_reducible refine gate_builtin (b := .append) (xs := #[.tmp 5, .tmp 6]) rfl ?_); at_builtin; refine Kd.R_append_rows k56 (w0 := w) w.heap.size rfl (.tmp 5) (.tmp 6) 33 56 (.agg #[.string ⟨#[]⟩, .string ⟨#[]⟩, .bool false]) 40 rfl Try.underlying33 infoW rfl (by decide) (by omega) v1 [] xs (some ad) xs.length c (fun _ => True) (fun _ => False) rfl rfl HO.out (Kd.C_below HR.out HB.out) (fun _ _ h => h) (fun _ h => h.elim) (fun _ _ => trivial) HB.out HB.out.size (by have := HL.out; simp only [List.length_nil]; omega) ?_; intro v2 w2 ho hb hg hat; have HO2 := Aside0.mk ho; have HB2 := Aside0.mk hb; clear ho hb hg hat))
    go_ret
    exact ⟨_, rfl, by simpa using HO2.out, HB2.out⟩
set_option maxRecDepth 100000 in
set_option maxHeartbeats 1000000 in
theorem clone_str (w : World) (A : Option Addr) (c : Nat) (xs : List ByteArray) (hr : Kd.C Kd.string w A xs.length xs) (hl : xs.length ≤ 8192) :
    Calls Try.prog 99 #[.slice A xs.length c] w fun e w' => ∃ v, e = .returned v ∧ Kd.R Kd.string 9 w' w.heap.size (fun _ => True) v xs ∧ Below w.heap.size w w' := by
  cases A with
  | none =>
    obtain rfl := C_none hr
    have q : ∀ w, (binOp .eql 32 (.slice none 0 c) (.slice none 0 0)).run Try.prog w = .ok (.bool true) w := fun w => Lib.run_eql_slice_nil (P := Try.prog) w 32 _ none 0 c 0 0 Try.underlying32
    show Calls Try.prog 99 #[.slice none 0 c] w _
    clear hr hl
    go_enter Try.func99, Try.ntmps99
    go_wp2
    go_ret
    exact ⟨_, rfl, Kd.R_nil _ _ _ _ _, Below.refl _ _⟩
  | some ad =>
    have q : ∀ w, (binOp .eql 32 (.slice (some ad) xs.length c) (.slice none 0 0)).run Try.prog w = .ok (.bool false) w := fun w => Lib.run_eql_slice_nil (P := Try.prog) w 32 _ (some ad) xs.length c 0 0 Try.underlying32
    have HR := Aside0.mk hr
    have HL := Aside0.mk hl
    clear hr hl
    go_enter Try.func99, Try.ntmps99
    go_wp2_with (first | ((with_reducible refine gate_dst (N := 5) rfl ?_); refine Kd.R_lit Kd.string _ 9 ?hg (N := 5) ?hd (xs := ([] : List ByteArray)) (inner := []) (ok := fun _ => True) (okp := fun _ => True) ?hr ?hp (fun _ hk => hk) trivial (Below.refl _ _) (Nat.le_refl _) (by simp) ?_; (case hd => rfl); (case hg => rfl); (case hr => first | (go_simp; done) | (go_simp; rfl)); (case hp => exact (Reps.none _ _)); intro v1 w1 ho hb hg_ hnew_; have HO := Aside0.mk ho; have HB := Aside0.mk hb; clear ho hb hg_ hnew_) | ((with_reducible refine gate_builtin (b := .append) (xs := #[.tmp 5, .tmp 6]) rfl ?_); at_builtin; refine Kd.R_append_rows Kd.string (w0 := w) w.heap.size rfl (.tmp 5) (.tmp 6) 32 9 (.string ⟨#[]⟩) 16 rfl Try.underlying32 infoS rfl (by decide) (by omega) v1 [] xs (some ad) xs.length c (fun _ => True) (fun _ => False) rfl rfl HO.out (Kd.C_below HR.out HB.out) (fun _ _ h => h) (fun _ h => h.elim) (fun _ _ => trivial) HB.out HB.out.size (by have := HL.out; simp only [List.length_nil]; omega) ?_; intro v2 w2 ho hb hg hat; have HO2 := Aside0.mk ho; have HB2 := Aside0.mk hb; clear ho hb hg hat))
    go_ret
    exact ⟨_, rfl, by simpa using HO2.out, HB2.out⟩
set_option maxRecDepth 100000 in
set_option maxHeartbeats 1000000 in
theorem clone_end (w : World) (A : Option Addr) (c : Nat) (xs : List (Int × Int)) (hr : Kd.C kEnd w A xs.length xs) (hl : xs.length ≤ 8192) :
    Calls Try.prog 46 #[.slice A xs.length c] w fun e w' => ∃ v, e = .returned v ∧ Kd.R kEnd 96 w' w.heap.size (fun _ => True) v xs ∧ Below w.heap.size w w' := by
  cases A with
  | none =>
    obtain rfl := C_none hr
    have q : ∀ w, (binOp .eql 76 (.slice none 0 c) (.slice none 0 0)).run Try.prog w = .ok (.bool true) w := fun w => Lib.run_eql_slice_nil (P := Try.prog) w 76 _ none 0 c 0 0 Try.underlying76
    show Calls Try.prog 46 #[.slice none 0 c] w _
    clear hr hl
    go_enter Try.func46, Try.ntmps46
    go_wp2
    go_ret
    exact ⟨_, rfl, Kd.R_nil _ _ _ _ _, Below.refl _ _⟩
  | some ad =>
    have q : ∀ w, (binOp .eql 76 (.slice (some ad) xs.length c) (.slice none 0 0)).run Try.prog w = .ok (.bool false) w := fun w => Lib.run_eql_slice_nil (P := Try.prog) w 76 _ (some ad) xs.length c 0 0 Try.underlying76
    have HR := Aside0.mk hr
    have HL := Aside0.mk hl
    clear hr hl
    go_enter Try.func46, Try.ntmps46
    go_wp2_with (first | ((with_reducible refine gate_dst (N := 5) rfl ?_); refine Kd.R_lit kEnd _ 96 ?hg (N := 5) ?hd (xs := ([] : List (Int × Int))) (inner := []) (ok := fun _ => True) (okp := fun _ => True) ?hr ?hp (fun _ hk => hk) trivial (Below.refl _ _) (Nat.le_refl _) (by simp) ?_; (case hd => rfl); (case hg => rfl); (case hr => first | (go_simp; done) | (go_simp; rfl)); (case hp => exact (Reps.none _ _)); intro v1 w1 ho hb hg_ hnew_; have HO := Aside0.mk ho; have HB := Aside0.mk hb; clear ho hb hg_ hnew_) | ((with_reducible refine gate_builtin (b := .append) (xs := #[.tmp 5, .tmp 6]) rfl ?_); at_builtin; refine Kd.R_append_rows kEnd (w0 := w) w.heap.size rfl (.tmp 5) (.tmp 6) 76 96 (.agg #[.int .i64 0, .int .i64 0]) 16 rfl Try.underlying76 infoE rfl (by decide) (by omega) v1 [] xs (some ad) xs.length c (fun _ => True) (fun _ => False) rfl rfl HO.out (Kd.C_below HR.out HB.out) (fun _ _ h => h) (fun _ h => h.elim) (fun _ _ => trivial) HB.out HB.out.size (by have := HL.out; simp only [List.length_nil]; omega) ?_; intro v2 w2 ho hb hg hat; have HO2 := Aside0.mk ho; have HB2 := Aside0.mk hb; clear ho hb hg hat))
    go_ret
    exact ⟨_, rfl, by simpa using HO2.out, HB2.out⟩
end Go.Proofs.Ytaldfbmjmpkmmaa.PL
namespace Go.Proofs.Ytaldfbmjmpkmmaa.PL
open Go.RowKit Go.Proofs.YtaldfbmjmpkmmaaW.PrintWords Go.Proofs.YtaldfbmjmpkmmaaW.PrintLast Go.Proofs.YtaldfbmjmpkmmaaW.PrintMore
set_option linter.unusedVariables false
set_option linter.unusedSimpArgs false
/-- What a function value does at the elements of a list, in whatever world that has come of w. -/
def TellsG {α : Type} (w : World) (g : Nat) (cap : Array Value) (enc : α → Value) (xs : List α) (p : α → Bool) : Prop :=
  ∀ W : World, Below w.heap.size w W → ∀ x, x ∈ xs → Calls Try.prog g (#[enc x] ++ cap) W fun e W' => e = .returned (.bool (p x)) ∧ Below W.heap.size W W'
def firstG {α : Type} (p : α → Bool) : List α → Int → Int
  | [], _ => -1
  | x :: r, i => if p x then i else firstG p r (i + 1)
theorem firstG_ge {α : Type} (p : α → Bool) : ∀ (l : List α) (i : Int), 0 ≤ i → (0 ≤ firstG p l i ↔ l.any p = true)
  | [], i, h => by simp [firstG]
  | x :: r, i, h => by
    unfold firstG
    rw [List.any_cons]
    cases hp : p x
    · simp only [Bool.false_or, Bool.false_eq_true, if_false]
      exact firstG_ge p r (i + 1) (by omega)
    · simp [h]
theorem strK_open {w : World} {x : ByteArray} {cs : List Value} (h : Kd.string.K w x cs) : cs = [.string x] := h
set_option maxRecDepth 100000 in
set_option maxHeartbeats 2000000 in
theorem index_wrW (w : World) (A : Option Addr) (c : Nat) (xs : List Wr) (c1 : Value) (p : Wr → Bool) (hr : Kd.C k56 w A xs.length xs) (hp : TellsG w 108 #[c1] (fun x : Wr => .agg #[.string x.f0, .string x.f1, .bool x.f2]) xs p) :
    Calls Try.prog 113 #[.slice A xs.length c, .func (.func 108) #[] #[c1]] w fun e w' => e = .returned (.int .i64 (firstG p xs 0)) ∧ Below w.heap.size w w' := by
  have HR := Aside0.mk hr
  have HP := Aside0.mk hp
  have hmax := Kd.C_max hr
  clear hr hp
  go_enter Try.func113, Try.ntmps113
  go_wp2
  go_loopw [8] (fun i wr => ∃ k : Nat, k ≤ xs.length ∧ i = .int .i64 k ∧ Aside0 (firstG p xs 0 = firstG p (xs.drop k) k) ∧ Aside0 (Below w.heap.size w wr))
    (fun i _ => xs.length - (intOf i).toNat)
  case atStart => exact ⟨0, Nat.zero_le _, rfl, ⟨rfl⟩, ⟨Below.refl _ _⟩⟩
  case round =>
    obtain ⟨k, hk, rfl, HF, HB⟩ := hrel
    by_cases hlt : k < xs.length
    · obtain ⟨ad, cs, rfl, hlen, hK, hc0⟩ := Kd.C_get (Kd.C_below HR.out HB.out) (⟨⟨#[]⟩, ⟨#[]⟩, false⟩ : Wr) (k : Int) (by omega) (by omega)
      rw [Int.toNat_natCast] at hK hc0
      have hc : ∀ j u, cs[j]? = some u → wr.cell? (ad.add (k * 3 + j)) = some u := hc0
      obtain rfl := k56_open hK
      have hc0' : wr.cell? (ad.add (k * 3)) = some (.string (xs.getD k (⟨⟨#[]⟩, ⟨#[]⟩, false⟩ : Wr)).f0) := hc 0 _ rfl
      have hc1 : wr.cell? ⟨(ad.add (k * 3)).block, (ad.add (k * 3)).off + 1, none⟩ = some (.string (xs.getD k (⟨⟨#[]⟩, ⟨#[]⟩, false⟩ : Wr)).f1) := by rw [← add_field _ _ 1 (by omega)]; exact hc 1 _ rfl
      have hc2 : wr.cell? ⟨(ad.add (k * 3)).block, (ad.add (k * 3)).off + 2, none⟩ = some (.bool (xs.getD k (⟨⟨#[]⟩, ⟨#[]⟩, false⟩ : Wr)).f2) := by rw [← add_field _ _ 2 (by omega)]; exact hc 2 _ rfl
      have hmem : xs.getD k (⟨⟨#[]⟩, ⟨#[]⟩, false⟩ : Wr) ∈ xs := by simp [List.getElem?_eq_getElem hlt]
      have hdrop : xs.drop k = xs.getD k (⟨⟨#[]⟩, ⟨#[]⟩, false⟩ : Wr) :: xs.drop (k + 1) := by
        rw [List.drop_eq_getElem_cons hlt]; simp [List.getElem?_eq_getElem hlt]
      have HF2 := HF.out
      rw [hdrop] at HF2
      generalize hx : xs.getD k (⟨⟨#[]⟩, ⟨#[]⟩, false⟩ : Wr) = x at *
      have HM := Aside0.mk hmem
      have HF3 := Aside0.mk HF2
      clear hmem hdrop hx HF2 HF hK hc0 hc hlen
      have hcall := HP.out wr HB.out x HM.out
      cases hpx : p x with
      | true =>
        have HV : Aside0 (firstG p xs 0 = (k : Int)) := ⟨by rw [HF3.out]; unfold firstG; rw [hpx]; rfl⟩
        rw [hpx] at hcall
        clear hpx
        go_wp2_with fail
        refine hcall.mono ?_
        rintro e w1 ⟨rfl, hb1⟩
        have HB1 : Aside0 (Below w.heap.size w w1) := ⟨HB.out.trans (hb1.mono HB.out.size)⟩
        clear hb1 hcall
        go_wp2_with fail
        go_ret
        exact ⟨by rw [HV.out]; rfl, HB1.out⟩
      | false =>
        have HV : Aside0 (firstG p xs 0 = firstG p (xs.drop (k + 1)) ((k + 1 : Nat) : Int)) := ⟨by
          rw [HF3.out]
          show (if p x = true then (k : Int) else firstG p (xs.drop (k + 1)) ((k : Int) + 1)) = _
          rw [hpx]; simp⟩
        rw [hpx] at hcall
        clear hpx
        go_wp2_with fail
        refine hcall.mono ?_
        rintro e w1 ⟨rfl, hb1⟩
        have HB1 : Aside0 (Below w.heap.size w w1) := ⟨HB.out.trans (hb1.mono HB.out.size)⟩
        clear hb1 hcall
        go_wp2_with fail
        go_roundw
        case rel => exact ⟨k + 1, by omega, by go_num, HV, HB1⟩
        case measure => simp [intOf]; omega
    · obtain rfl : k = xs.length := by omega
      have HV : Aside0 (firstG p xs 0 = -1) := ⟨by rw [HF.out, List.drop_of_length_le (Nat.le_refl _)]; rfl⟩
      go_wp2
      go_ret
      exact ⟨by rw [HV.out]; rfl, HB.out⟩
set_option maxRecDepth 100000 in
theorem contains_wrW (w : World) (A : Option Addr) (c : Nat) (xs : List Wr) (c1 : Value) (p : Wr → Bool) (hr : Kd.C k56 w A xs.length xs) (hp : TellsG w 108 #[c1] (fun x : Wr => .agg #[.string x.f0, .string x.f1, .bool x.f2]) xs p) :
    Calls Try.prog 78 #[.slice A xs.length c, .func (.func 108) #[] #[c1]] w fun e w' => e = .returned (.bool (xs.any p)) ∧ Below w.heap.size w w' := by
  have hc := index_wrW w A c xs c1 p hr hp
  have hge := firstG_ge p xs 0 (by omega)
  have hval : decide (firstG p xs 0 ≥ 0) = xs.any p := by
    rw [Bool.eq_iff_iff, decide_eq_true_iff]
    exact hge
  generalize firstG p xs 0 = n at hc hval
  have HC := Aside0.mk hc
  have HV := Aside0.mk hval
  clear hc hge hval hr hp
  go_enter Try.func78, Try.ntmps78
  go_wp2_with fail
  refine HC.out.mono ?_
  rintro e w1 ⟨rfl, hb1⟩
  have HB := Aside0.mk hb1
  clear hb1
  go_wp2_with fail
  go_ret
  exact ⟨by rw [← HV.out]; rfl, HB.out⟩
set_option maxRecDepth 100000 in
set_option maxHeartbeats 2000000 in
theorem index_wrP (w : World) (A : Option Addr) (c : Nat) (xs : List Wr) (c1 : Value) (p : Wr → Bool) (hr : Kd.C k56 w A xs.length xs) (hp : TellsG w 79 #[c1] (fun x : Wr => .agg #[.string x.f0, .string x.f1, .bool x.f2]) xs p) :
    Calls Try.prog 113 #[.slice A xs.length c, .func (.func 79) #[] #[c1]] w fun e w' => e = .returned (.int .i64 (firstG p xs 0)) ∧ Below w.heap.size w w' := by
  have HR := Aside0.mk hr
  have HP := Aside0.mk hp
  have hmax := Kd.C_max hr
  clear hr hp
  go_enter Try.func113, Try.ntmps113
  go_wp2
  go_loopw [8] (fun i wr => ∃ k : Nat, k ≤ xs.length ∧ i = .int .i64 k ∧ Aside0 (firstG p xs 0 = firstG p (xs.drop k) k) ∧ Aside0 (Below w.heap.size w wr))
    (fun i _ => xs.length - (intOf i).toNat)
  case atStart => exact ⟨0, Nat.zero_le _, rfl, ⟨rfl⟩, ⟨Below.refl _ _⟩⟩
  case round =>
    obtain ⟨k, hk, rfl, HF, HB⟩ := hrel
    by_cases hlt : k < xs.length
    · obtain ⟨ad, cs, rfl, hlen, hK, hc0⟩ := Kd.C_get (Kd.C_below HR.out HB.out) (⟨⟨#[]⟩, ⟨#[]⟩, false⟩ : Wr) (k : Int) (by omega) (by omega)
      rw [Int.toNat_natCast] at hK hc0
      have hc : ∀ j u, cs[j]? = some u → wr.cell? (ad.add (k * 3 + j)) = some u := hc0
      obtain rfl := k56_open hK
      have hc0' : wr.cell? (ad.add (k * 3)) = some (.string (xs.getD k (⟨⟨#[]⟩, ⟨#[]⟩, false⟩ : Wr)).f0) := hc 0 _ rfl
      have hc1 : wr.cell? ⟨(ad.add (k * 3)).block, (ad.add (k * 3)).off + 1, none⟩ = some (.string (xs.getD k (⟨⟨#[]⟩, ⟨#[]⟩, false⟩ : Wr)).f1) := by rw [← add_field _ _ 1 (by omega)]; exact hc 1 _ rfl
      have hc2 : wr.cell? ⟨(ad.add (k * 3)).block, (ad.add (k * 3)).off + 2, none⟩ = some (.bool (xs.getD k (⟨⟨#[]⟩, ⟨#[]⟩, false⟩ : Wr)).f2) := by rw [← add_field _ _ 2 (by omega)]; exact hc 2 _ rfl
      have hmem : xs.getD k (⟨⟨#[]⟩, ⟨#[]⟩, false⟩ : Wr) ∈ xs := by simp [List.getElem?_eq_getElem hlt]
      have hdrop : xs.drop k = xs.getD k (⟨⟨#[]⟩, ⟨#[]⟩, false⟩ : Wr) :: xs.drop (k + 1) := by
        rw [List.drop_eq_getElem_cons hlt]; simp [List.getElem?_eq_getElem hlt]
      have HF2 := HF.out
      rw [hdrop] at HF2
      generalize hx : xs.getD k (⟨⟨#[]⟩, ⟨#[]⟩, false⟩ : Wr) = x at *
      have HM := Aside0.mk hmem
      have HF3 := Aside0.mk HF2
      clear hmem hdrop hx HF2 HF hK hc0 hc hlen
      have hcall := HP.out wr HB.out x HM.out
      cases hpx : p x with
      | true =>
        have HV : Aside0 (firstG p xs 0 = (k : Int)) := ⟨by rw [HF3.out]; unfold firstG; rw [hpx]; rfl⟩
        rw [hpx] at hcall
        clear hpx
        go_wp2_with fail
        refine hcall.mono ?_
        rintro e w1 ⟨rfl, hb1⟩
        have HB1 : Aside0 (Below w.heap.size w w1) := ⟨HB.out.trans (hb1.mono HB.out.size)⟩
        clear hb1 hcall
        go_wp2_with fail
        go_ret
        exact ⟨by rw [HV.out]; rfl, HB1.out⟩
      | false =>
        have HV : Aside0 (firstG p xs 0 = firstG p (xs.drop (k + 1)) ((k + 1 : Nat) : Int)) := ⟨by
          rw [HF3.out]
          show (if p x = true then (k : Int) else firstG p (xs.drop (k + 1)) ((k : Int) + 1)) = _
          rw [hpx]; simp⟩
        rw [hpx] at hcall
        clear hpx
        go_wp2_with fail
        refine hcall.mono ?_
        rintro e w1 ⟨rfl, hb1⟩
        have HB1 : Aside0 (Below w.heap.size w w1) := ⟨HB.out.trans (hb1.mono HB.out.size)⟩
        clear hb1 hcall
        go_wp2_with fail
        go_roundw
        case rel => exact ⟨k + 1, by omega, by go_num, HV, HB1⟩
        case measure => simp [intOf]; omega
    · obtain rfl : k = xs.length := by omega
      have HV : Aside0 (firstG p xs 0 = -1) := ⟨by rw [HF.out, List.drop_of_length_le (Nat.le_refl _)]; rfl⟩
      go_wp2
      go_ret
      exact ⟨by rw [HV.out]; rfl, HB.out⟩
set_option maxRecDepth 100000 in
theorem contains_wrP (w : World) (A : Option Addr) (c : Nat) (xs : List Wr) (c1 : Value) (p : Wr → Bool) (hr : Kd.C k56 w A xs.length xs) (hp : TellsG w 79 #[c1] (fun x : Wr => .agg #[.string x.f0, .string x.f1, .bool x.f2]) xs p) :
    Calls Try.prog 78 #[.slice A xs.length c, .func (.func 79) #[] #[c1]] w fun e w' => e = .returned (.bool (xs.any p)) ∧ Below w.heap.size w w' := by
  have hc := index_wrP w A c xs c1 p hr hp
  have hge := firstG_ge p xs 0 (by omega)
  have hval : decide (firstG p xs 0 ≥ 0) = xs.any p := by
    rw [Bool.eq_iff_iff, decide_eq_true_iff]
    exact hge
  generalize firstG p xs 0 = n at hc hval
  have HC := Aside0.mk hc
  have HV := Aside0.mk hval
  clear hc hge hval hr hp
  go_enter Try.func78, Try.ntmps78
  go_wp2_with fail
  refine HC.out.mono ?_
  rintro e w1 ⟨rfl, hb1⟩
  have HB := Aside0.mk hb1
  clear hb1
  go_wp2_with fail
  go_ret
  exact ⟨by rw [← HV.out]; rfl, HB.out⟩
set_option maxRecDepth 100000 in
set_option maxHeartbeats 2000000 in
theorem index_wrR (w : World) (A : Option Addr) (c : Nat) (xs : List Wr) (c1 c2 : Value) (p : Wr → Bool) (hr : Kd.C k56 w A xs.length xs) (hp : TellsG w 83 #[c1, c2] (fun x : Wr => .agg #[.string x.f0, .string x.f1, .bool x.f2]) xs p) :
    Calls Try.prog 113 #[.slice A xs.length c, .func (.func 83) #[] #[c1, c2]] w fun e w' => e = .returned (.int .i64 (firstG p xs 0)) ∧ Below w.heap.size w w' := by
  have HR := Aside0.mk hr
  have HP := Aside0.mk hp
  have hmax := Kd.C_max hr
  clear hr hp
  go_enter Try.func113, Try.ntmps113
  go_wp2
  go_loopw [8] (fun i wr => ∃ k : Nat, k ≤ xs.length ∧ i = .int .i64 k ∧ Aside0 (firstG p xs 0 = firstG p (xs.drop k) k) ∧ Aside0 (Below w.heap.size w wr))
    (fun i _ => xs.length - (intOf i).toNat)
  case atStart => exact ⟨0, Nat.zero_le _, rfl, ⟨rfl⟩, ⟨Below.refl _ _⟩⟩
  case round =>
    obtain ⟨k, hk, rfl, HF, HB⟩ := hrel
    by_cases hlt : k < xs.length
    · obtain ⟨ad, cs, rfl, hlen, hK, hc0⟩ := Kd.C_get (Kd.C_below HR.out HB.out) (⟨⟨#[]⟩, ⟨#[]⟩, false⟩ : Wr) (k : Int) (by omega) (by omega)
      rw [Int.toNat_natCast] at hK hc0
      have hc : ∀ j u, cs[j]? = some u → wr.cell? (ad.add (k * 3 + j)) = some u := hc0
      obtain rfl := k56_open hK
      have hc0' : wr.cell? (ad.add (k * 3)) = some (.string (xs.getD k (⟨⟨#[]⟩, ⟨#[]⟩, false⟩ : Wr)).f0) := hc 0 _ rfl
      have hc1 : wr.cell? ⟨(ad.add (k * 3)).block, (ad.add (k * 3)).off + 1, none⟩ = some (.string (xs.getD k (⟨⟨#[]⟩, ⟨#[]⟩, false⟩ : Wr)).f1) := by rw [← add_field _ _ 1 (by omega)]; exact hc 1 _ rfl
      have hc2 : wr.cell? ⟨(ad.add (k * 3)).block, (ad.add (k * 3)).off + 2, none⟩ = some (.bool (xs.getD k (⟨⟨#[]⟩, ⟨#[]⟩, false⟩ : Wr)).f2) := by rw [← add_field _ _ 2 (by omega)]; exact hc 2 _ rfl
      have hmem : xs.getD k (⟨⟨#[]⟩, ⟨#[]⟩, false⟩ : Wr) ∈ xs := by simp [List.getElem?_eq_getElem hlt]
      have hdrop : xs.drop k = xs.getD k (⟨⟨#[]⟩, ⟨#[]⟩, false⟩ : Wr) :: xs.drop (k + 1) := by
        rw [List.drop_eq_getElem_cons hlt]; simp [List.getElem?_eq_getElem hlt]
      have HF2 := HF.out
      rw [hdrop] at HF2
      generalize hx : xs.getD k (⟨⟨#[]⟩, ⟨#[]⟩, false⟩ : Wr) = x at *
      have HM := Aside0.mk hmem
      have HF3 := Aside0.mk HF2
      clear hmem hdrop hx HF2 HF hK hc0 hc hlen
      have hcall := HP.out wr HB.out x HM.out
      cases hpx : p x with
      | true =>
        have HV : Aside0 (firstG p xs 0 = (k : Int)) := ⟨by rw [HF3.out]; unfold firstG; rw [hpx]; rfl⟩
        rw [hpx] at hcall
        clear hpx
        go_wp2_with fail
        refine hcall.mono ?_
        rintro e w1 ⟨rfl, hb1⟩
        have HB1 : Aside0 (Below w.heap.size w w1) := ⟨HB.out.trans (hb1.mono HB.out.size)⟩
        clear hb1 hcall
        go_wp2_with fail
        go_ret
        exact ⟨by rw [HV.out]; rfl, HB1.out⟩
      | false =>
        have HV : Aside0 (firstG p xs 0 = firstG p (xs.drop (k + 1)) ((k + 1 : Nat) : Int)) := ⟨by
          rw [HF3.out]
          show (if p x = true then (k : Int) else firstG p (xs.drop (k + 1)) ((k : Int) + 1)) = _
          rw [hpx]; simp⟩
        rw [hpx] at hcall
        clear hpx
        go_wp2_with fail
        refine hcall.mono ?_
        rintro e w1 ⟨rfl, hb1⟩
        have HB1 : Aside0 (Below w.heap.size w w1) := ⟨HB.out.trans (hb1.mono HB.out.size)⟩
        clear hb1 hcall
        go_wp2_with fail
        go_roundw
        case rel => exact ⟨k + 1, by omega, by go_num, HV, HB1⟩
        case measure => simp [intOf]; omega
    · obtain rfl : k = xs.length := by omega
      have HV : Aside0 (firstG p xs 0 = -1) := ⟨by rw [HF.out, List.drop_of_length_le (Nat.le_refl _)]; rfl⟩
      go_wp2
      go_ret
      exact ⟨by rw [HV.out]; rfl, HB.out⟩
set_option maxRecDepth 100000 in
theorem contains_wrR (w : World) (A : Option Addr) (c : Nat) (xs : List Wr) (c1 c2 : Value) (p : Wr → Bool) (hr : Kd.C k56 w A xs.length xs) (hp : TellsG w 83 #[c1, c2] (fun x : Wr => .agg #[.string x.f0, .string x.f1, .bool x.f2]) xs p) :
    Calls Try.prog 78 #[.slice A xs.length c, .func (.func 83) #[] #[c1, c2]] w fun e w' => e = .returned (.bool (xs.any p)) ∧ Below w.heap.size w w' := by
  have hc := index_wrR w A c xs c1 c2 p hr hp
  have hge := firstG_ge p xs 0 (by omega)
  have hval : decide (firstG p xs 0 ≥ 0) = xs.any p := by
    rw [Bool.eq_iff_iff, decide_eq_true_iff]
    exact hge
  generalize firstG p xs 0 = n at hc hval
  have HC := Aside0.mk hc
  have HV := Aside0.mk hval
  clear hc hge hval hr hp
  go_enter Try.func78, Try.ntmps78
  go_wp2_with fail
  refine HC.out.mono ?_
  rintro e w1 ⟨rfl, hb1⟩
  have HB := Aside0.mk hb1
  clear hb1
  go_wp2_with fail
  go_ret
  exact ⟨by rw [← HV.out]; rfl, HB.out⟩
set_option maxRecDepth 100000 in
set_option maxHeartbeats 2000000 in
theorem index_strP (w : World) (A : Option Addr) (c : Nat) (xs : List ByteArray) (c1 : Value) (p : ByteArray → Bool) (hr : Kd.C Kd.string w A xs.length xs) (hp : TellsG w 77 #[c1] (fun x : ByteArray => .string x) xs p) :
    Calls Try.prog 112 #[.slice A xs.length c, .func (.func 77) #[] #[c1]] w fun e w' => e = .returned (.int .i64 (firstG p xs 0)) ∧ Below w.heap.size w w' := by
  have HR := Aside0.mk hr
  have HP := Aside0.mk hp
  have hmax := Kd.C_max hr
  clear hr hp
  go_enter Try.func112, Try.ntmps112
  go_wp2
  go_loopw [8] (fun i wr => ∃ k : Nat, k ≤ xs.length ∧ i = .int .i64 k ∧ Aside0 (firstG p xs 0 = firstG p (xs.drop k) k) ∧ Aside0 (Below w.heap.size w wr))
    (fun i _ => xs.length - (intOf i).toNat)
  case atStart => exact ⟨0, Nat.zero_le _, rfl, ⟨rfl⟩, ⟨Below.refl _ _⟩⟩
  case round =>
    obtain ⟨k, hk, rfl, HF, HB⟩ := hrel
    by_cases hlt : k < xs.length
    · obtain ⟨ad, cs, rfl, hlen, hK, hc0⟩ := Kd.C_get (Kd.C_below HR.out HB.out) (⟨#[]⟩ : ByteArray) (k : Int) (by omega) (by omega)
      rw [Int.toNat_natCast] at hK hc0
      have hc : ∀ j u, cs[j]? = some u → wr.cell? (ad.add (k * 1 + j)) = some u := hc0
      obtain rfl := strK_open hK
      have hc0' : wr.cell? (ad.add k) = some (.string (xs.getD k (⟨#[]⟩ : ByteArray))) := by have := hc 0 _ rfl; simpa using this
      have hmem : xs.getD k (⟨#[]⟩ : ByteArray) ∈ xs := by simp [List.getElem?_eq_getElem hlt]
      have hdrop : xs.drop k = xs.getD k (⟨#[]⟩ : ByteArray) :: xs.drop (k + 1) := by
        rw [List.drop_eq_getElem_cons hlt]; simp [List.getElem?_eq_getElem hlt]
      have HF2 := HF.out
      rw [hdrop] at HF2
      generalize hx : xs.getD k (⟨#[]⟩ : ByteArray) = x at *
      have HM := Aside0.mk hmem
      have HF3 := Aside0.mk HF2
      clear hmem hdrop hx HF2 HF hK hc0 hc hlen
      have hcall := HP.out wr HB.out x HM.out
      cases hpx : p x with
      | true =>
        have HV : Aside0 (firstG p xs 0 = (k : Int)) := ⟨by rw [HF3.out]; unfold firstG; rw [hpx]; rfl⟩
        rw [hpx] at hcall
        clear hpx
        go_wp2_with fail
        refine hcall.mono ?_
        rintro e w1 ⟨rfl, hb1⟩
        have HB1 : Aside0 (Below w.heap.size w w1) := ⟨HB.out.trans (hb1.mono HB.out.size)⟩
        clear hb1 hcall
        go_wp2_with fail
        go_ret
        exact ⟨by rw [HV.out]; rfl, HB1.out⟩
      | false =>
        have HV : Aside0 (firstG p xs 0 = firstG p (xs.drop (k + 1)) ((k + 1 : Nat) : Int)) := ⟨by
          rw [HF3.out]
          show (if p x = true then (k : Int) else firstG p (xs.drop (k + 1)) ((k : Int) + 1)) = _
          rw [hpx]; simp⟩
        rw [hpx] at hcall
        clear hpx
        go_wp2_with fail
        refine hcall.mono ?_
        rintro e w1 ⟨rfl, hb1⟩
        have HB1 : Aside0 (Below w.heap.size w w1) := ⟨HB.out.trans (hb1.mono HB.out.size)⟩
        clear hb1 hcall
        go_wp2_with fail
        go_roundw
        case rel => exact ⟨k + 1, by omega, by go_num, HV, HB1⟩
        case measure => simp [intOf]; omega
    · obtain rfl : k = xs.length := by omega
      have HV : Aside0 (firstG p xs 0 = -1) := ⟨by rw [HF.out, List.drop_of_length_le (Nat.le_refl _)]; rfl⟩
      go_wp2
      go_ret
      exact ⟨by rw [HV.out]; rfl, HB.out⟩
set_option maxRecDepth 100000 in
theorem contains_strP (w : World) (A : Option Addr) (c : Nat) (xs : List ByteArray) (c1 : Value) (p : ByteArray → Bool) (hr : Kd.C Kd.string w A xs.length xs) (hp : TellsG w 77 #[c1] (fun x : ByteArray => .string x) xs p) :
    Calls Try.prog 76 #[.slice A xs.length c, .func (.func 77) #[] #[c1]] w fun e w' => e = .returned (.bool (xs.any p)) ∧ Below w.heap.size w w' := by
  have hc := index_strP w A c xs c1 p hr hp
  have hge := firstG_ge p xs 0 (by omega)
  have hval : decide (firstG p xs 0 ≥ 0) = xs.any p := by
    rw [Bool.eq_iff_iff, decide_eq_true_iff]
    exact hge
  generalize firstG p xs 0 = n at hc hval
  have HC := Aside0.mk hc
  have HV := Aside0.mk hval
  clear hc hge hval hr hp
  go_enter Try.func76, Try.ntmps76
  go_wp2_with fail
  refine HC.out.mono ?_
  rintro e w1 ⟨rfl, hb1⟩
  have HB := Aside0.mk hb1
  clear hb1
  go_wp2_with fail
  go_ret
  exact ⟨by rw [← HV.out]; rfl, HB.out⟩
set_option maxRecDepth 100000 in
set_option maxHeartbeats 2000000 in
theorem index_endS (w : World) (A : Option Addr) (c : Nat) (xs : List (Int × Int)) (c1 : Value) (p : (Int × Int) → Bool) (hr : Kd.C kEnd w A xs.length xs) (hp : TellsG w 70 #[c1] (fun x : (Int × Int) => .agg #[.int .i64 x.1, .int .i64 x.2]) xs p) :
    Calls Try.prog 69 #[.slice A xs.length c, .func (.func 70) #[] #[c1]] w fun e w' => e = .returned (.int .i64 (firstG p xs 0)) ∧ Below w.heap.size w w' := by
  have HR := Aside0.mk hr
  have HP := Aside0.mk hp
  have hmax := Kd.C_max hr
  clear hr hp
  go_enter Try.func69, Try.ntmps69
  go_wp2
  go_loopw [8] (fun i wr => ∃ k : Nat, k ≤ xs.length ∧ i = .int .i64 k ∧ Aside0 (firstG p xs 0 = firstG p (xs.drop k) k) ∧ Aside0 (Below w.heap.size w wr))
    (fun i _ => xs.length - (intOf i).toNat)
  case atStart => exact ⟨0, Nat.zero_le _, rfl, ⟨rfl⟩, ⟨Below.refl _ _⟩⟩
  case round =>
    obtain ⟨k, hk, rfl, HF, HB⟩ := hrel
    by_cases hlt : k < xs.length
    · obtain ⟨ad, cs, rfl, hlen, hK, hc0⟩ := Kd.C_get (Kd.C_below HR.out HB.out) ((0, 0) : Int × Int) (k : Int) (by omega) (by omega)
      rw [Int.toNat_natCast] at hK hc0
      have hc : ∀ j u, cs[j]? = some u → wr.cell? (ad.add (k * 2 + j)) = some u := hc0
      obtain rfl := kEnd_open hK
      have hc0' : wr.cell? (ad.add (k * 2)) = some (.int .i64 (xs.getD k ((0, 0) : Int × Int)).1) := hc 0 _ rfl
      have hc1 : wr.cell? ⟨(ad.add (k * 2)).block, (ad.add (k * 2)).off + 1, none⟩ = some (.int .i64 (xs.getD k ((0, 0) : Int × Int)).2) := by rw [← add_field _ _ 1 (by omega)]; exact hc 1 _ rfl
      have hmem : xs.getD k ((0, 0) : Int × Int) ∈ xs := by simp [List.getElem?_eq_getElem hlt]
      have hdrop : xs.drop k = xs.getD k ((0, 0) : Int × Int) :: xs.drop (k + 1) := by
        rw [List.drop_eq_getElem_cons hlt]; simp [List.getElem?_eq_getElem hlt]
      have HF2 := HF.out
      rw [hdrop] at HF2
      generalize hx : xs.getD k ((0, 0) : Int × Int) = x at *
      have HM := Aside0.mk hmem
      have HF3 := Aside0.mk HF2
      clear hmem hdrop hx HF2 HF hK hc0 hc hlen
      have hcall := HP.out wr HB.out x HM.out
      cases hpx : p x with
      | true =>
        have HV : Aside0 (firstG p xs 0 = (k : Int)) := ⟨by rw [HF3.out]; unfold firstG; rw [hpx]; rfl⟩
        rw [hpx] at hcall
        clear hpx
        go_wp2_with fail
        refine hcall.mono ?_
        rintro e w1 ⟨rfl, hb1⟩
        have HB1 : Aside0 (Below w.heap.size w w1) := ⟨HB.out.trans (hb1.mono HB.out.size)⟩
        clear hb1 hcall
        go_wp2_with fail
        go_ret
        exact ⟨by rw [HV.out]; rfl, HB1.out⟩
      | false =>
        have HV : Aside0 (firstG p xs 0 = firstG p (xs.drop (k + 1)) ((k + 1 : Nat) : Int)) := ⟨by
          rw [HF3.out]
          show (if p x = true then (k : Int) else firstG p (xs.drop (k + 1)) ((k : Int) + 1)) = _
          rw [hpx]; simp⟩
        rw [hpx] at hcall
        clear hpx
        go_wp2_with fail
        refine hcall.mono ?_
        rintro e w1 ⟨rfl, hb1⟩
        have HB1 : Aside0 (Below w.heap.size w w1) := ⟨HB.out.trans (hb1.mono HB.out.size)⟩
        clear hb1 hcall
        go_wp2_with fail
        go_roundw
        case rel => exact ⟨k + 1, by omega, by go_num, HV, HB1⟩
        case measure => simp [intOf]; omega
    · obtain rfl : k = xs.length := by omega
      have HV : Aside0 (firstG p xs 0 = -1) := ⟨by rw [HF.out, List.drop_of_length_le (Nat.le_refl _)]; rfl⟩
      go_wp2
      go_ret
      exact ⟨by rw [HV.out]; rfl, HB.out⟩
end Go.Proofs.Ytaldfbmjmpkmmaa.PL
namespace Go.Proofs
open Go.Shelf
def Try.search_ren : Go.Shelf.Ren := ⟨fun | 16 => 110 | n => n, fun | 3 => 3 | 35 => 110 | 4 => 4 | 38 => 179 | n => n, fun | n => n⟩
theorem Try.search : Go.Proofs.SlLaysO.n16 Try.prog Try.search_ren := {
  mixed := by kernel_rfl
  f16 := Try.func110.trans (congrArg some (by kernel_rfl))
  t3 := Try.underlying3
  a3 := Try.isAgg3
  z3 := Try.sizeOf3
  v3 := Try.zeroValue3
  t4 := Try.underlying4
  a4 := Try.isAgg4
  z4 := Try.sizeOf4
  v4 := Try.zeroValue4
  t35 := Try.underlying110
  a35 := Try.isAgg110
  z35 := Try.sizeOf110
  v35 := Try.zeroValue110
  t38 := Try.underlying179
  a38 := Try.isAgg179
  z38 := Try.sizeOf179
  v38 := Try.zeroValue179 }
def Try.cloneK_ren : Go.Shelf.Ren := ⟨fun | 5 => 44 | 7 => 92 | n => n, fun | 23 => 74 | 25 => 9 | 3 => 81 | 4 => 4 | 20 => 20 | n => n, fun | n => n⟩
theorem Try.cloneK : Go.Proofs.SlLaysW.n5 Try.prog Try.cloneK_ren := {
  mixed := by kernel_rfl
  f5 := ⟨Try.f44.name, by decide, Try.func44.trans (congrArg some (by kernel_rfl))⟩
  f7 := Try.func92.trans (congrArg some (by kernel_rfl))
  t4 := Try.underlying4
  a4 := Try.isAgg4
  z4 := Try.sizeOf4
  v4 := Try.zeroValue4
  t20 := Try.underlying20
  a20 := Try.isAgg20
  z20 := Try.sizeOf20
  v20 := Try.zeroValue20
  t23 := Try.underlying74
  a23 := Try.isAgg74
  z23 := Try.sizeOf74
  v23 := Try.zeroValue74 }
def Try.cloneP_ren : Go.Shelf.Ren := ⟨fun | 5 => 45 | 7 => 92 | n => n, fun | 23 => 75 | 25 => 3 | 3 => 35 | 4 => 4 | 20 => 20 | n => n, fun | n => n⟩
theorem Try.cloneP : Go.Proofs.SlLaysW.n5 Try.prog Try.cloneP_ren := {
  mixed := by kernel_rfl
  f5 := ⟨Try.f45.name, by decide, Try.func45.trans (congrArg some (by kernel_rfl))⟩
  f7 := Try.func92.trans (congrArg some (by kernel_rfl))
  t4 := Try.underlying4
  a4 := Try.isAgg4
  z4 := Try.sizeOf4
  v4 := Try.zeroValue4
  t20 := Try.underlying20
  a20 := Try.isAgg20
  z20 := Try.sizeOf20
  v20 := Try.zeroValue20
  t23 := Try.underlying75
  a23 := Try.isAgg75
  z23 := Try.sizeOf75
  v23 := Try.zeroValue75 }
def Try.delK_ren : Go.Shelf.Ren := ⟨fun | 5 => 81 | n => n, fun | 23 => 74 | 26 => 9 | 24 => 81 | 27 => 139 | 0 => 0 | 4 => 4 | n => n, fun | n => n⟩
theorem Try.delK : Go.Proofs.SlLaysDf.n5 Try.prog Try.delK_ren := {
  mixed := by kernel_rfl
  f5 := ⟨Try.f81.name, by decide, Try.func81.trans (congrArg some (by kernel_rfl))⟩
  t0 := Try.underlying0
  a0 := Try.isAgg0
  z0 := Try.sizeOf0
  v0 := Try.zeroValue0
  t4 := Try.underlying4
  a4 := Try.isAgg4
  z4 := Try.sizeOf4
  v4 := Try.zeroValue4
  t23 := Try.underlying74
  a23 := Try.isAgg74
  z23 := Try.sizeOf74
  v23 := Try.zeroValue74
  a24 := Try.isAgg81
  z24 := Try.sizeOf81
  a26 := Try.isAgg9
  z26 := Try.sizeOf9
  t27 := Try.underlying139
  a27 := Try.isAgg139
  z27 := Try.sizeOf139
  v27 := Try.zeroValue139 }
def Try.growV_ren : Go.Shelf.Ren := ⟨fun | 4 => 138 | n => n, fun | 22 => 81 | 25 => 29 | 3 => 3 | 4 => 4 | 9 => 9 | 20 => 20 | 0 => 0 | n => n, fun | n => n⟩
theorem Try.growV : Go.Proofs.Lays8.n4 Try.prog Try.growV_ren := {
  mixed := by kernel_rfl
  f4 := ⟨Try.f138.name, by decide, Try.func138.trans (congrArg some (by kernel_rfl))⟩
  t0 := Try.underlying0
  a0 := Try.isAgg0
  z0 := Try.sizeOf0
  v0 := Try.zeroValue0
  t3 := Try.underlying3
  a3 := Try.isAgg3
  z3 := Try.sizeOf3
  v3 := Try.zeroValue3
  t4 := Try.underlying4
  a4 := Try.isAgg4
  z4 := Try.sizeOf4
  v4 := Try.zeroValue4
  t9 := Try.underlying9
  a9 := Try.isAgg9
  z9 := Try.sizeOf9
  v9 := Try.zeroValue9
  t20 := Try.underlying20
  a20 := Try.isAgg20
  z20 := Try.sizeOf20
  v20 := Try.zeroValue20
  t22 := Try.underlying81
  a22 := Try.isAgg81
  z22 := Try.sizeOf81
  v22 := Try.zeroValue81 }
end Go.Proofs
namespace Go.Proofs.Ytaldfbmjmpkmmaa.PL
open Go.RowKit Go.Proofs.YtaldfbmjmpkmmaaW.PrintWords Go.Proofs.YtaldfbmjmpkmmaaW.PrintLast Go.Proofs.YtaldfbmjmpkmmaaW.PrintMore
attribute [local go_sem] Mk.str_leq Mk.str_gtr Mk.str_geq max2_int min2_int max_two min_two max_three min_three max_four min_four   -- for this text's walks alone
set_option linter.unusedVariables false
set_option linter.unusedSimpArgs false

/-! ### chain_Check: function 71 -/
mutual
def chain_Check.l0 : Nat → Int → List (S29) → Int → Int → Option (Int × Int)
 | 0, _, _, _, _ => none
 | k + 1, x4, x10, x11, x12 => if x12 < x11 then (if 0 ≤ x12 then (if x12 < (x10.length : Int) then (if ((rd_T29 x10 x12).f0) < 1 then (chain_Check.j1 k x4 x12 x10 x11 x12 true ((rd_T29 x10 x12).f0) ((rd_T29 x10 x12).f1) ((rd_T29 x10 x12).f2)) else (chain_Check.j1 k x4 x12 x10 x11 x12 (decide (((rd_T29 x10 x12).f0) > 1125899906842624)) ((rd_T29 x10 x12).f0) ((rd_T29 x10 x12).f1) ((rd_T29 x10 x12).f2))) else (none)) else (none)) else (some (0, 0))
def chain_Check.j1 : Nat → Int → Int → List (S29) → Int → Int → Bool → Int → ByteArray → Bool → Option (Int × Int)
 | 0, _, _, _, _, _, _, _, _, _ => none
 | k + 1, x4, x5, x10, x11, x12, x17, x117000, x117001, x117002 => if x17 = true then (some (x5, 1)) else (if (x117001.size : Int) > 2052 then (some (x5, 2)) else (if x117002 = true then (chain_Check.j2 k x4 x5 x10 x11 x12 (x117001.toList != ([] : List UInt8)) x117000 x117001 x117002) else (chain_Check.j2 k x4 x5 x10 x11 x12 false x117000 x117001 x117002)))
def chain_Check.j2 : Nat → Int → Int → List (S29) → Int → Int → Bool → Int → ByteArray → Bool → Option (Int × Int)
 | 0, _, _, _, _, _, _, _, _, _ => none
 | k + 1, x4, x5, x10, x11, x12, x33, x117000, x117001, x117002 => if x33 = true then (some (x5, 4)) else (if x117000 ≤ x4 then (some (x5, 110)) else (chain_Check.l0 k x117000 x10 x11 (wrap64 (x12 + 1))))
end
def chain_Check.f (k : Nat) (l0 : List (S29)) : Option (Int × Int) := if (l0.length : Int) > 1024 then (some ((-1), 2)) else (chain_Check.l0 k 0 l0 (l0.length : Int) 0)
theorem chain_Check.mono_l : ∀ k, (∀ y0 y1 y2 y3, LeO (chain_Check.l0 k y0 y1 y2 y3) (chain_Check.l0 (k + 1) y0 y1 y2 y3)) ∧ (∀ y0 y1 y2 y3 y4 y5 y6 y7 y8, LeO (chain_Check.j1 k y0 y1 y2 y3 y4 y5 y6 y7 y8) (chain_Check.j1 (k + 1) y0 y1 y2 y3 y4 y5 y6 y7 y8)) ∧ (∀ y0 y1 y2 y3 y4 y5 y6 y7 y8, LeO (chain_Check.j2 k y0 y1 y2 y3 y4 y5 y6 y7 y8) (chain_Check.j2 (k + 1) y0 y1 y2 y3 y4 y5 y6 y7 y8))
 | 0 => ⟨fun _ _ _ _ r h => by simp [chain_Check.l0] at h, fun _ _ _ _ _ _ _ _ _ r h => by simp [chain_Check.j1] at h, fun _ _ _ _ _ _ _ _ _ r h => by simp [chain_Check.j2] at h⟩
 | k + 1 => by
  obtain ⟨ih0, ih1, ih2⟩ := chain_Check.mono_l k
  refine ⟨?_, ?_, ?_⟩
  ·intro y0 y1 y2 y3
   unfold chain_Check.l0
   repeat' first
   | (with_reducible exact ih0 _ _ _ _)
   | (with_reducible exact ih1 _ _ _ _ _ _ _ _ _)
   | (with_reducible exact ih2 _ _ _ _ _ _ _ _ _)
   | (with_reducible exact LeO.refl _)
   | (with_reducible exact LeO.none _)
   | (with_reducible refine LeO.ite ?_ ?_)
   | (with_reducible refine LeO.bind ?_ (fun _ => ?_))
   | exact ih0 _ _ _ _
   | exact ih1 _ _ _ _ _ _ _ _ _
   | exact ih2 _ _ _ _ _ _ _ _ _
   | exact LeO.none _
   | refine LeO.ite ?_ ?_
   | refine LeO.bind ?_ (fun _ => ?_)
  ·intro y0 y1 y2 y3 y4 y5 y6 y7 y8
   unfold chain_Check.j1
   repeat' first
   | (with_reducible exact ih0 _ _ _ _)
   | (with_reducible exact ih1 _ _ _ _ _ _ _ _ _)
   | (with_reducible exact ih2 _ _ _ _ _ _ _ _ _)
   | (with_reducible exact LeO.refl _)
   | (with_reducible exact LeO.none _)
   | (with_reducible refine LeO.ite ?_ ?_)
   | (with_reducible refine LeO.bind ?_ (fun _ => ?_))
   | exact ih0 _ _ _ _
   | exact ih1 _ _ _ _ _ _ _ _ _
   | exact ih2 _ _ _ _ _ _ _ _ _
   | exact LeO.none _
   | refine LeO.ite ?_ ?_
   | refine LeO.bind ?_ (fun _ => ?_)
  ·intro y0 y1 y2 y3 y4 y5 y6 y7 y8
   unfold chain_Check.j2
   repeat' first
   | (with_reducible exact ih0 _ _ _ _)
   | (with_reducible exact ih1 _ _ _ _ _ _ _ _ _)
   | (with_reducible exact ih2 _ _ _ _ _ _ _ _ _)
   | (with_reducible exact LeO.refl _)
   | (with_reducible exact LeO.none _)
   | (with_reducible refine LeO.ite ?_ ?_)
   | (with_reducible refine LeO.bind ?_ (fun _ => ?_))
   | exact ih0 _ _ _ _
   | exact ih1 _ _ _ _ _ _ _ _ _
   | exact ih2 _ _ _ _ _ _ _ _ _
   | exact LeO.none _
   | refine LeO.ite ?_ ?_
   | refine LeO.bind ?_ (fun _ => ?_)
theorem chain_Check.mono : ∀ a0 k, LeO (chain_Check.f k a0) (chain_Check.f (k + 1) a0) := by
 intro a0 k
 obtain ⟨ih0, ih1, ih2⟩ := chain_Check.mono_l k
 unfold chain_Check.f
 repeat' first
   | (with_reducible exact ih0 _ _ _ _)
   | (with_reducible exact ih1 _ _ _ _ _ _ _ _ _)
   | (with_reducible exact ih2 _ _ _ _ _ _ _ _ _)
   | (with_reducible exact LeO.refl _)
   | (with_reducible exact LeO.none _)
   | (with_reducible refine LeO.ite ?_ ?_)
   | (with_reducible refine LeO.bind ?_ (fun _ => ?_))
   | exact ih0 _ _ _ _
   | exact ih1 _ _ _ _ _ _ _ _ _
   | exact ih2 _ _ _ _ _ _ _ _ _
   | exact LeO.none _
   | refine LeO.ite ?_ ?_
   | refine LeO.bind ?_ (fun _ => ?_)
set_option maxHeartbeats 8000000 in
set_option maxRecDepth 100000 in
theorem chain_Check.calls (k : Nat) (A0 : Option Addr) (c0 : Nat) (l0 : List (S29)) (r1 : Int) (r2 : Int) (w : World) (hr0 : Kd.C k29 w A0 l0.length l0) (hc0 : l0.length ≤ c0) (h : chain_Check.f k l0 = some (r1, r2)) :
  Calls Try.prog 71 #[.slice A0 l0.length c0] w fun e w' => e = .returned (.tuple #[.int .i64 r1, .int .i64 r2]) ∧ Below w.heap.size w w' := by
 have hu29 := Try.underlying29
 have HR0 := Aside0.mk hr0
 have HC0 := Aside0.mk hc0
 clear hr0 hc0
 have HB := Aside0.mk (Below.refl w.heap.size w)
 have H : (if (l0.length : Int) > 1024 then (some ((-1), 2)) else (chain_Check.l0 k 0 l0 (l0.length : Int) 0)) = some (r1, r2) := h
 clear h
 by_cases c2 : (l0.length : Int) > 1024
 ·rw [if_pos c2] at H
  have c2b0 : decide (1024 < (l0.length : Int)) = true := decide_eq_true c2
  have c2b1 : decide (1024 < l0.length) = true := decide_eq_true (by omega)
  clear c2
  simp only [Option.some.injEq, Prod.mk.injEq] at H
  obtain ⟨rfl, rfl⟩ := H
  go_enter Try.func71, Try.ntmps71
  go_wp2
  go_ret2
  exact ⟨by first | rfl | (simp [errW_none, errW_some] <;> rfl) | (simp [*, errW_none, errW_some] <;> rfl), by repeat (first | (with_reducible first | exact HB.out | apply below_alloc | apply pw_below_drewN | apply below_drew1) | exact HB.out)⟩
 ·rw [if_neg c2] at H
  have c2b0 : decide (1024 < (l0.length : Int)) = false := decide_eq_false c2
  have c2b1 : decide (1024 < l0.length) = false := decide_eq_false (by omega)
  clear c2
  have H' := Aside0.mk H
  clear H
  go_enter Try.func71, Try.ntmps71
  go_wp2
  go_loopg [4, 12] k (fun kq v4 v12 w' => ∃ (x4_1 : Int) (x12_1 : Int), v4 = .int .i64 x4_1 ∧ v12 = .int .i64 x12_1 ∧ Aside0 (chain_Check.l0 kq x4_1 l0 (l0.length : Int) x12_1 = some (r1, r2)) ∧ Aside0 (kq ≤ k) ∧ Aside0 (Below w.heap.size w w'))
  case atStart => exact ⟨(0), (0), (by first | rfl | (simp; done) | (simp [*]; done)), (by first | rfl | (simp; done) | (simp [*]; done)), H', ⟨Nat.le_refl _⟩, ⟨by repeat (first | (with_reducible first | exact HB.out | apply below_alloc | apply pw_below_drewN | apply below_drew1) | exact HB.out)⟩⟩
  case round =>
   clear H'
   try clear c2
   try clear c2b0
   try clear c2b1
   try clear p2
   obtain ⟨x4_1, x12_1, rfl, rfl, HA, HK1, HB⟩ := hrel
   cases gk with
   | zero => exact absurd HA.out (by simp [chain_Check.l0])
   | succ k1 =>
    have H := HA.out
    clear HA
    simp only [chain_Check.l0] at H
    by_cases c3 : x12_1 < (l0.length : Int)
    ·rw [if_pos c3] at H
     have c3b0 : decide (x12_1 < (l0.length : Int)) = true := decide_eq_true c3
     clear c3
     by_cases c4 : 0 ≤ x12_1
     ·rw [if_pos c4] at H
      have c4b0 : decide (0 ≤ x12_1) = true := decide_eq_true c4
      clear c4
      by_cases c5 : x12_1 < (l0.length : Int)
      ·rw [if_pos c5] at H
       have c5b0 : decide (x12_1 < (l0.length : Int)) = true := decide_eq_true c5
       clear c5
       have HC6 := Aside0.mk H
       clear H
       have p115 : 0 ≤ (x12_1 : Int) := of_decide_eq_true (by first | (with_reducible assumption) | assumption)
       have q115 : x12_1 < (l0.length : Int) := of_decide_eq_true (by first | (with_reducible assumption) | assumption)
       obtain ⟨ad115, e115, hx115_0, hx115_1, hx115_2⟩ := at_T29 HR0.out x12_1 p115 q115
       cases e115
       replace hx115_0 := (HB.out.cell (World.block_lt_of_cell? w _ hx115_0)).trans hx115_0
       replace hx115_1 := (HB.out.cell (World.block_lt_of_cell? w _ hx115_1)).trans hx115_1
       replace hx115_2 := (HB.out.cell (World.block_lt_of_cell? w _ hx115_2)).trans hx115_2
       replace p115 := eq_true p115
       replace q115 := eq_true q115
       go_upto_region 7 with (first | ((with_reducible refine gate_dst (N := 6) rfl ?_); refine box_event ?hg (N := 6) ?hd (cs := #[.int .i64 0, .string (⟨#[]⟩ : ByteArray), .bool false]) (t := 29) ?hr ?_; (case hd => rfl); (case hg => rfl); (case hr => first | (go_simp; done) | (go_simp; rfl)); intro gb116 hg w7 hbox hb; have n0_ := Aside0.mk (below_step (by repeat (first | (with_reducible first | exact HB.out | apply below_alloc | apply pw_below_drewN | apply below_drew1) | exact HB.out)) hb); have n1_ := Aside0.mk (hbox); have n2_ := Aside0.mk ((by rw [hg]; exact (below_size (by repeat (first | (with_reducible first | exact HB.out | apply below_alloc | apply pw_below_drewN | apply below_drew1) | exact HB.out))) : w.heap.size ≤ gb116)); have n3_ := Aside0.mk ((by rw [hg]; exact (below_size (by repeat (first | (with_reducible first | exact HB.out | apply below_alloc | apply pw_below_drewN | apply below_drew1) | exact HB.out))) : w.heap.size ≤ gb116)); clear HB; have HB := n0_; have BK116 := n1_; have GW116 := n2_; have GE116 := n3_; clear n0_ n1_ n2_ n3_; clear hb hbox hg; have hcz8_0 : w7.cell? ⟨gb116, 0, none⟩ = some (.int .i64 0) := (blk_cell BK116.out 0).trans rfl; have hcz8_1 : w7.cell? ⟨gb116, 1, none⟩ = some (.string (⟨#[]⟩ : ByteArray)) := (blk_cell BK116.out 1).trans rfl; have hcz8_2 : w7.cell? ⟨gb116, 2, none⟩ = some (.bool false) := (blk_cell BK116.out 2).trans rfl; have hfz8_0 := blk_frozen BK116.out 0; have hfz8_1 := blk_frozen BK116.out 1; have hfz8_2 := blk_frozen BK116.out 2))
       (try simp only [Act.put, List.setIfInBounds_toArray, List.set_cons_zero, List.set_cons_succ])
       go_cut [17] (fun v17 wc => ∃ (kq : Nat) (x17_5 : Bool), v17 = .bool x17_5 ∧ Aside0 (chain_Check.j1 kq x4_1 x12_1 l0 (l0.length : Int) x12_1 x17_5 ((rd_T29 l0 x12_1).f0) ((rd_T29 l0 x12_1).f1) ((rd_T29 l0 x12_1).f2) = some (r1, r2)) ∧ Aside0 (kq ≤ k1) ∧ Aside0 (wc.heap[gb116]? = some (.cells #[.int .i64 ((rd_T29 l0 x12_1).f0), .string ((rd_T29 l0 x12_1).f1), .bool ((rd_T29 l0 x12_1).f2)] 29 (0, 0))) ∧ Aside0 (Below w.heap.size w wc))
       case first =>
        have H := HC6.out
        clear HC6
        by_cases c9 : ((rd_T29 l0 x12_1).f0) < 1
        ·rw [if_pos c9] at H
         have c9b0 : decide (((rd_T29 l0 x12_1).f0) < 1) = true := decide_eq_true c9
         clear c9
         (first | rw [c9b0] | (simp only [i64_w, i32_w]; rw [c9b0]) | skip)
         have H' := Aside0.mk H
         clear H
         have hcz10_0 : w7.cell? ⟨gb116, 0, none⟩ = some (.int .i64 0) := (blk_cell BK116.out 0).trans rfl
         have hcz10_1 : w7.cell? ⟨gb116, 1, none⟩ = some (.string (⟨#[]⟩ : ByteArray)) := (blk_cell BK116.out 1).trans rfl
         have hcz10_2 : w7.cell? ⟨gb116, 2, none⟩ = some (.bool false) := (blk_cell BK116.out 2).trans rfl
         have hfz10_0 := blk_frozen BK116.out 0
         have hfz10_1 := blk_frozen BK116.out 1
         have hfz10_2 := blk_frozen BK116.out 2
         go_wp2
         go_meet
         case rel => exact ⟨_, (true), (by first | rfl | (simp; done) | (simp [*]; done)), H', ⟨by have := HK1.out; first | omega | exact Nat.le_refl _⟩, ⟨by (with_reducible repeat (first | refine blk_drewN ?_ _ | refine blk_drew ?_ | refine blk_alloc ?_ _)); refine blk_put (cs := #[.int .i64 ((rd_T29 l0 x12_1).f0), .string ((rd_T29 l0 x12_1).f1), .bool false]) ?_ 2 _ rfl; (with_reducible repeat (first | refine blk_drewN ?_ _ | refine blk_drew ?_ | refine blk_alloc ?_ _)); refine blk_put (cs := #[.int .i64 ((rd_T29 l0 x12_1).f0), .string (⟨#[]⟩ : ByteArray), .bool false]) ?_ 1 _ rfl; (with_reducible repeat (first | refine blk_drewN ?_ _ | refine blk_drew ?_ | refine blk_alloc ?_ _)); refine blk_put (cs := #[.int .i64 0, .string (⟨#[]⟩ : ByteArray), .bool false]) ?_ 0 _ rfl; (with_reducible repeat (first | refine blk_drewN ?_ _ | refine blk_drew ?_ | refine blk_alloc ?_ _)); exact BK116.out⟩, ⟨by repeat (first | (with_reducible first | exact HB.out | apply below_alloc | apply pw_below_drewN | apply below_drew1 | refine below_set ?_ GE116.out) | exact HB.out)⟩⟩
        ·rw [if_neg c9] at H
         have c9b0 : decide (((rd_T29 l0 x12_1).f0) < 1) = false := decide_eq_false c9
         clear c9
         (first | rw [c9b0] | (simp only [i64_w, i32_w]; rw [c9b0]) | skip)
         have H' := Aside0.mk H
         clear H
         have hcz11_0 : w7.cell? ⟨gb116, 0, none⟩ = some (.int .i64 0) := (blk_cell BK116.out 0).trans rfl
         have hcz11_1 : w7.cell? ⟨gb116, 1, none⟩ = some (.string (⟨#[]⟩ : ByteArray)) := (blk_cell BK116.out 1).trans rfl
         have hcz11_2 : w7.cell? ⟨gb116, 2, none⟩ = some (.bool false) := (blk_cell BK116.out 2).trans rfl
         have hfz11_0 := blk_frozen BK116.out 0
         have hfz11_1 := blk_frozen BK116.out 1
         have hfz11_2 := blk_frozen BK116.out 2
         go_wp2
         go_meet
         case rel => exact ⟨_, (decide (((rd_T29 l0 x12_1).f0) > 1125899906842624)), (by first | rfl | (simp; done) | (simp [*]; done)), H', ⟨by have := HK1.out; first | omega | exact Nat.le_refl _⟩, ⟨by (with_reducible repeat (first | refine blk_drewN ?_ _ | refine blk_drew ?_ | refine blk_alloc ?_ _)); refine blk_put (cs := #[.int .i64 ((rd_T29 l0 x12_1).f0), .string ((rd_T29 l0 x12_1).f1), .bool false]) ?_ 2 _ rfl; (with_reducible repeat (first | refine blk_drewN ?_ _ | refine blk_drew ?_ | refine blk_alloc ?_ _)); refine blk_put (cs := #[.int .i64 ((rd_T29 l0 x12_1).f0), .string (⟨#[]⟩ : ByteArray), .bool false]) ?_ 1 _ rfl; (with_reducible repeat (first | refine blk_drewN ?_ _ | refine blk_drew ?_ | refine blk_alloc ?_ _)); refine blk_put (cs := #[.int .i64 0, .string (⟨#[]⟩ : ByteArray), .bool false]) ?_ 0 _ rfl; (with_reducible repeat (first | refine blk_drewN ?_ _ | refine blk_drew ?_ | refine blk_alloc ?_ _)); exact BK116.out⟩, ⟨by repeat (first | (with_reducible first | exact HB.out | apply below_alloc | apply pw_below_drewN | apply below_drew1 | refine below_set ?_ GE116.out) | exact HB.out)⟩⟩
       case rest =>
        clear HC6
        try clear p1
        try clear q1
        try clear hx1
        try clear c2
        try clear c2b0
        try clear c2b1
        try clear p2
        try clear c3
        try clear c3b0
        try clear c4
        try clear c4b0
        try clear c5
        try clear c5b0
        try clear c7
        try clear c9
        try clear c9b0
        try clear p11
        try clear q11
        try clear hx11
        try clear hcz10_0
        try clear hcz10_1
        try clear hcz10_2
        try clear hcz11_0
        try clear hcz11_1
        try clear hcz11_2
        try clear hcz8_0
        try clear hcz8_1
        try clear hcz8_2
        try clear hfz10_0
        try clear hfz10_1
        try clear hfz10_2
        try clear hfz11_0
        try clear hfz11_1
        try clear hfz11_2
        try clear hfz8_0
        try clear hfz8_1
        try clear hfz8_2
        try clear hx115_0
        try clear hx115_1
        try clear hx115_2
        try clear p115
        try clear p2
        try clear q115
        obtain ⟨kq, x17_5, rfl, HA, HJ5, BK116, HB⟩ := hcut
        cases kq with
        | zero => exact absurd HA.out (by simp [chain_Check.j1])
        | succ kj5 =>
         have H := HA.out
         clear HA
         simp only [chain_Check.j1] at H
         by_cases c12 : x17_5 = true
         ·subst c12
          have H1 : (some (x12_1, 1)) = some (r1, r2) := by rw [if_pos rfl] at H; exact H
          clear H
          have H := H1
          clear H1
          simp only [Option.some.injEq, Prod.mk.injEq] at H
          obtain ⟨rfl, rfl⟩ := H
          go_wp2
          go_ret2
          exact ⟨by first | rfl | (simp [errW_none, errW_some] <;> rfl) | (simp [*, errW_none, errW_some] <;> rfl), by repeat (first | (with_reducible first | exact HB.out | apply below_alloc | apply pw_below_drewN | apply below_drew1 | refine below_set ?_ GE116.out) | exact HB.out)⟩
         ·replace c12 := Bool.eq_false_iff.mpr c12
          subst c12
          have H1 : (if (((rd_T29 l0 x12_1).f1).size : Int) > 2052 then (some (x12_1, 2)) else (if ((rd_T29 l0 x12_1).f2) = true then (chain_Check.j2 kj5 x4_1 x12_1 l0 (l0.length : Int) x12_1 (((rd_T29 l0 x12_1).f1).toList != ([] : List UInt8)) ((rd_T29 l0 x12_1).f0) ((rd_T29 l0 x12_1).f1) ((rd_T29 l0 x12_1).f2)) else (chain_Check.j2 kj5 x4_1 x12_1 l0 (l0.length : Int) x12_1 false ((rd_T29 l0 x12_1).f0) ((rd_T29 l0 x12_1).f1) ((rd_T29 l0 x12_1).f2)))) = some (r1, r2) := by rw [if_neg (show ¬ (false = true) by decide)] at H; exact H
          clear H
          have H := H1
          clear H1
          by_cases c13 : (((rd_T29 l0 x12_1).f1).size : Int) > 2052
          ·rw [if_pos c13] at H
           have c13b0 : decide (2052 < (((rd_T29 l0 x12_1).f1).size : Int)) = true := decide_eq_true c13
           have c13b1 : decide (2052 < ((rd_T29 l0 x12_1).f1).size) = true := decide_eq_true (by omega)
           clear c13
           simp only [Option.some.injEq, Prod.mk.injEq] at H
           obtain ⟨rfl, rfl⟩ := H
           have hcz14_0 : wc.cell? ⟨gb116, 0, none⟩ = some (.int .i64 ((rd_T29 l0 x12_1).f0)) := (blk_cell BK116.out 0).trans rfl
           have hcz14_1 : wc.cell? ⟨gb116, 1, none⟩ = some (.string ((rd_T29 l0 x12_1).f1)) := (blk_cell BK116.out 1).trans rfl
           have hcz14_2 : wc.cell? ⟨gb116, 2, none⟩ = some (.bool ((rd_T29 l0 x12_1).f2)) := (blk_cell BK116.out 2).trans rfl
           have hfz14_0 := blk_frozen BK116.out 0
           have hfz14_1 := blk_frozen BK116.out 1
           have hfz14_2 := blk_frozen BK116.out 2
           go_wp2
           go_ret2
           exact ⟨by first | rfl | (simp [errW_none, errW_some] <;> rfl) | (simp [*, errW_none, errW_some] <;> rfl), by repeat (first | (with_reducible first | exact HB.out | apply below_alloc | apply pw_below_drewN | apply below_drew1 | refine below_set ?_ GE116.out) | exact HB.out)⟩
          ·rw [if_neg c13] at H
           have c13b0 : decide (2052 < (((rd_T29 l0 x12_1).f1).size : Int)) = false := decide_eq_false c13
           have c13b1 : decide (2052 < ((rd_T29 l0 x12_1).f1).size) = false := decide_eq_false (by omega)
           clear c13
           have HC15 := Aside0.mk H
           clear H
           have hcz16_0 : wc.cell? ⟨gb116, 0, none⟩ = some (.int .i64 ((rd_T29 l0 x12_1).f0)) := (blk_cell BK116.out 0).trans rfl
           have hcz16_1 : wc.cell? ⟨gb116, 1, none⟩ = some (.string ((rd_T29 l0 x12_1).f1)) := (blk_cell BK116.out 1).trans rfl
           have hcz16_2 : wc.cell? ⟨gb116, 2, none⟩ = some (.bool ((rd_T29 l0 x12_1).f2)) := (blk_cell BK116.out 2).trans rfl
           have hfz16_0 := blk_frozen BK116.out 0
           have hfz16_1 := blk_frozen BK116.out 1
           have hfz16_2 := blk_frozen BK116.out 2
           go_upto_region 11 with (fail)
           go_cut [33] (fun v33 wc => ∃ (kq : Nat) (x33_14 : Bool), v33 = .bool x33_14 ∧ Aside0 (chain_Check.j2 kq x4_1 x12_1 l0 (l0.length : Int) x12_1 x33_14 ((rd_T29 l0 x12_1).f0) ((rd_T29 l0 x12_1).f1) ((rd_T29 l0 x12_1).f2) = some (r1, r2)) ∧ Aside0 (kq ≤ kj5) ∧ Aside0 (wc.heap[gb116]? = some (.cells #[.int .i64 ((rd_T29 l0 x12_1).f0), .string ((rd_T29 l0 x12_1).f1), .bool ((rd_T29 l0 x12_1).f2)] 29 (0, 0))) ∧ Aside0 (Below w.heap.size w wc))
           case first =>
            have H := HC15.out
            clear HC15
            by_cases c17 : ((rd_T29 l0 x12_1).f2) = true
            ·rw [if_pos c17] at H
             have c17b0 : ((rd_T29 l0 x12_1).f2) = true := c17
             clear c17
             (first | rw [c17b0] | (simp only [i64_w, i32_w]; rw [c17b0]) | skip)
             have H' := Aside0.mk H
             clear H
             have hcz18_0 : wc.cell? ⟨gb116, 0, none⟩ = some (.int .i64 ((rd_T29 l0 x12_1).f0)) := (blk_cell BK116.out 0).trans rfl
             have hcz18_1 : wc.cell? ⟨gb116, 1, none⟩ = some (.string ((rd_T29 l0 x12_1).f1)) := (blk_cell BK116.out 1).trans rfl
             have hcz18_2 : wc.cell? ⟨gb116, 2, none⟩ = some (.bool ((rd_T29 l0 x12_1).f2)) := (blk_cell BK116.out 2).trans rfl
             have hfz18_0 := blk_frozen BK116.out 0
             have hfz18_1 := blk_frozen BK116.out 1
             have hfz18_2 := blk_frozen BK116.out 2
             go_wp2
             go_meet
             case rel => exact ⟨_, ((((rd_T29 l0 x12_1).f1).toList != ([] : List UInt8))), (by first | rfl | (simp; done) | (generalize ((rd_T29 l0 x12_1).f1).toList = q_; cases q_ <;> rfl) | (simp [*]; done)), H', ⟨by have := HK1.out; have := HJ5.out; first | omega | exact Nat.le_refl _⟩, ⟨by (with_reducible repeat (first | refine blk_drewN ?_ _ | refine blk_drew ?_ | refine blk_alloc ?_ _)); exact BK116.out⟩, ⟨by repeat (first | (with_reducible first | exact HB.out | apply below_alloc | apply pw_below_drewN | apply below_drew1 | refine below_set ?_ GE116.out) | exact HB.out)⟩⟩
            ·rw [if_neg c17] at H
             have c17b0 : ((rd_T29 l0 x12_1).f2) = false := by simpa using c17
             clear c17
             (first | rw [c17b0] | (simp only [i64_w, i32_w]; rw [c17b0]) | skip)
             have H' := Aside0.mk H
             clear H
             have hcz19_0 : wc.cell? ⟨gb116, 0, none⟩ = some (.int .i64 ((rd_T29 l0 x12_1).f0)) := (blk_cell BK116.out 0).trans rfl
             have hcz19_1 : wc.cell? ⟨gb116, 1, none⟩ = some (.string ((rd_T29 l0 x12_1).f1)) := (blk_cell BK116.out 1).trans rfl
             have hcz19_2 : wc.cell? ⟨gb116, 2, none⟩ = some (.bool ((rd_T29 l0 x12_1).f2)) := (blk_cell BK116.out 2).trans rfl
             have hfz19_0 := blk_frozen BK116.out 0
             have hfz19_1 := blk_frozen BK116.out 1
             have hfz19_2 := blk_frozen BK116.out 2
             go_wp2
             go_meet
             case rel => exact ⟨_, (false), (by first | rfl | (simp; done) | (simp [*]; done)), H', ⟨by have := HK1.out; have := HJ5.out; first | omega | exact Nat.le_refl _⟩, ⟨by (with_reducible repeat (first | refine blk_drewN ?_ _ | refine blk_drew ?_ | refine blk_alloc ?_ _)); exact BK116.out⟩, ⟨by repeat (first | (with_reducible first | exact HB.out | apply below_alloc | apply pw_below_drewN | apply below_drew1 | refine below_set ?_ GE116.out) | exact HB.out)⟩⟩
           case rest =>
            clear HC15
            try clear c1
            try clear p1
            try clear q1
            try clear hx1
            try clear c2
            try clear c2b0
            try clear c2b1
            try clear p2
            try clear c3
            try clear c3b0
            try clear c4
            try clear c4b0
            try clear c5
            try clear c5b0
            try clear c7
            try clear c9
            try clear c9b0
            try clear p11
            try clear q11
            try clear hx11
            try clear c12
            try clear c13
            try clear c13b0
            try clear c13b1
            try clear c17
            try clear c17b0
            try clear hcz10_0
            try clear hcz10_1
            try clear hcz10_2
            try clear hcz11_0
            try clear hcz11_1
            try clear hcz11_2
            try clear hcz14_0
            try clear hcz14_1
            try clear hcz14_2
            try clear hcz16_0
            try clear hcz16_1
            try clear hcz16_2
            try clear hcz18_0
            try clear hcz18_1
            try clear hcz18_2
            try clear hcz19_0
            try clear hcz19_1
            try clear hcz19_2
            try clear hcz8_0
            try clear hcz8_1
            try clear hcz8_2
            try clear hfz10_0
            try clear hfz10_1
            try clear hfz10_2
            try clear hfz11_0
            try clear hfz11_1
            try clear hfz11_2
            try clear hfz14_0
            try clear hfz14_1
            try clear hfz14_2
            try clear hfz16_0
            try clear hfz16_1
            try clear hfz16_2
            try clear hfz18_0
            try clear hfz18_1
            try clear hfz18_2
            try clear hfz19_0
            try clear hfz19_1
            try clear hfz19_2
            try clear hfz8_0
            try clear hfz8_1
            try clear hfz8_2
            try clear hx115_0
            try clear hx115_1
            try clear hx115_2
            try clear p1
            try clear p11
            try clear p115
            try clear p2
            try clear q1
            try clear q11
            try clear q115
            obtain ⟨kq, x33_14, rfl, HA, HJ14, BK116, HB⟩ := hcut
            cases kq with
            | zero => exact absurd HA.out (by simp [chain_Check.j2])
            | succ kj14 =>
             have H := HA.out
             clear HA
             simp only [chain_Check.j2] at H
             by_cases c20 : x33_14 = true
             ·subst c20
              have H1 : (some (x12_1, 4)) = some (r1, r2) := by rw [if_pos rfl] at H; exact H
              clear H
              have H := H1
              clear H1
              simp only [Option.some.injEq, Prod.mk.injEq] at H
              obtain ⟨rfl, rfl⟩ := H
              go_wp2
              go_ret2
              exact ⟨by first | rfl | (simp [errW_none, errW_some] <;> rfl) | (simp [*, errW_none, errW_some] <;> rfl), by repeat (first | (with_reducible first | exact HB.out | apply below_alloc | apply pw_below_drewN | apply below_drew1 | refine below_set ?_ GE116.out) | exact HB.out)⟩
             ·replace c20 := Bool.eq_false_iff.mpr c20
              subst c20
              have H1 : (if ((rd_T29 l0 x12_1).f0) ≤ x4_1 then (some (x12_1, 110)) else (chain_Check.l0 kj14 ((rd_T29 l0 x12_1).f0) l0 (l0.length : Int) (wrap64 (x12_1 + 1)))) = some (r1, r2) := by rw [if_neg (show ¬ (false = true) by decide)] at H; exact H
              clear H
              have H := H1
              clear H1
              by_cases c21 : ((rd_T29 l0 x12_1).f0) ≤ x4_1
              ·rw [if_pos c21] at H
               have c21b0 : decide (((rd_T29 l0 x12_1).f0) ≤ x4_1) = true := decide_eq_true c21
               clear c21
               simp only [Option.some.injEq, Prod.mk.injEq] at H
               obtain ⟨rfl, rfl⟩ := H
               have hcz22_0 : wc.cell? ⟨gb116, 0, none⟩ = some (.int .i64 ((rd_T29 l0 x12_1).f0)) := (blk_cell BK116.out 0).trans rfl
               have hcz22_1 : wc.cell? ⟨gb116, 1, none⟩ = some (.string ((rd_T29 l0 x12_1).f1)) := (blk_cell BK116.out 1).trans rfl
               have hcz22_2 : wc.cell? ⟨gb116, 2, none⟩ = some (.bool ((rd_T29 l0 x12_1).f2)) := (blk_cell BK116.out 2).trans rfl
               have hfz22_0 := blk_frozen BK116.out 0
               have hfz22_1 := blk_frozen BK116.out 1
               have hfz22_2 := blk_frozen BK116.out 2
               go_wp2
               go_ret2
               exact ⟨by first | rfl | (simp [errW_none, errW_some] <;> rfl) | (simp [*, errW_none, errW_some] <;> rfl), by repeat (first | (with_reducible first | exact HB.out | apply below_alloc | apply pw_below_drewN | apply below_drew1 | refine below_set ?_ GE116.out) | exact HB.out)⟩
              ·rw [if_neg c21] at H
               have c21b0 : decide (((rd_T29 l0 x12_1).f0) ≤ x4_1) = false := decide_eq_false c21
               clear c21
               have H' := Aside0.mk H
               clear H
               have hcz23_0 : wc.cell? ⟨gb116, 0, none⟩ = some (.int .i64 ((rd_T29 l0 x12_1).f0)) := (blk_cell BK116.out 0).trans rfl
               have hcz23_1 : wc.cell? ⟨gb116, 1, none⟩ = some (.string ((rd_T29 l0 x12_1).f1)) := (blk_cell BK116.out 1).trans rfl
               have hcz23_2 : wc.cell? ⟨gb116, 2, none⟩ = some (.bool ((rd_T29 l0 x12_1).f2)) := (blk_cell BK116.out 2).trans rfl
               have hfz23_0 := blk_frozen BK116.out 0
               have hfz23_1 := blk_frozen BK116.out 1
               have hfz23_2 := blk_frozen BK116.out 2
               go_wp2
               go_roundg kj14
               case measure => have := HK1.out; have := HJ5.out; have := HJ14.out; omega
               case rel => exact ⟨(((rd_T29 l0 x12_1).f0)), (wrap64 (x12_1 + 1)), (by first | rfl | (simp; done) | (simp [*]; done)), (by first | rfl | (simp; done) | (simp [*]; done)), H', ⟨by have := HK1.out; have := HJ5.out; have := HJ14.out; omega⟩, ⟨by repeat (first | (with_reducible first | exact HB.out | apply below_alloc | apply pw_below_drewN | apply below_drew1 | refine below_set ?_ GE116.out) | exact HB.out)⟩⟩
      ·rw [if_neg c5] at H
       exact absurd H (by simp)
     ·rw [if_neg c4] at H
      exact absurd H (by simp)
    ·rw [if_neg c3] at H
     have c3b0 : decide (x12_1 < (l0.length : Int)) = false := decide_eq_false c3
     clear c3
     simp only [Option.some.injEq, Prod.mk.injEq] at H
     obtain ⟨rfl, rfl⟩ := H
     go_wp2
     go_ret2
     exact ⟨by first | rfl | (simp [errW_none, errW_some] <;> rfl) | (simp [*, errW_none, errW_some] <;> rfl), by repeat (first | (with_reducible first | exact HB.out | apply below_alloc | apply pw_below_drewN | apply below_drew1) | exact HB.out)⟩

end Go.Proofs.Ytaldfbmjmpkmmaa.PL
namespace Go.Proofs.Ytaldfbmjmpkmmaa.PL
open Go.RowKit Go.Proofs.YtaldfbmjmpkmmaaW.PrintWords Go.Proofs.YtaldfbmjmpkmmaaW.PrintLast Go.Proofs.YtaldfbmjmpkmmaaW.PrintMore
attribute [local go_sem] Mk.str_leq Mk.str_gtr Mk.str_geq max2_int min2_int max_two min_two max_three min_three max_four min_four   -- for this text's walks alone
set_option linter.unusedVariables false
set_option linter.unusedSimpArgs false

/-! ### chain_Last: function 91 -/
def chain_Last.f (k : Nat) (l0 : List (S29)) : Option (Int × Int) := (chain_Check.f k l0).bind fun bt117 => (if bt117.2 = 0 then (if (l0.length : Int) = 0 then (some (0, bt117.2)) else (if 0 ≤ (wrap64 ((l0.length : Int) - 1)) then (if (wrap64 ((l0.length : Int) - 1)) < (l0.length : Int) then (some ((rd_T29 l0 (wrap64 ((l0.length : Int) - 1))).f0, 0)) else (none)) else (none))) else (some (0, bt117.2)))
theorem chain_Last.mono : ∀ a0 k, LeO (chain_Last.f k a0) (chain_Last.f (k + 1) a0) := by
 intro a0 k
 unfold chain_Last.f
 repeat' first
   | (with_reducible exact chain_Check.mono _ _)
   | (with_reducible exact LeO.refl _)
   | (with_reducible exact LeO.none _)
   | (with_reducible refine LeO.ite ?_ ?_)
   | (with_reducible refine LeO.bind ?_ (fun _ => ?_))
   | exact chain_Check.mono _ _
   | exact LeO.none _
   | refine LeO.ite ?_ ?_
   | refine LeO.bind ?_ (fun _ => ?_)
set_option maxHeartbeats 8000000 in
set_option maxRecDepth 100000 in
theorem chain_Last.calls (k : Nat) (A0 : Option Addr) (c0 : Nat) (l0 : List (S29)) (r1 : Int) (r2 : Int) (w : World) (hr0 : Kd.C k29 w A0 l0.length l0) (hc0 : l0.length ≤ c0) (h : chain_Last.f k l0 = some (r1, r2)) :
  Calls Try.prog 91 #[.slice A0 l0.length c0] w fun e w' => e = .returned (.tuple #[.int .i64 r1, .int .i64 r2]) ∧ Below w.heap.size w w' := by
 have HR0 := Aside0.mk hr0
 have HC0 := Aside0.mk hc0
 clear hr0 hc0
 have HB := Aside0.mk (Below.refl w.heap.size w)
 have H : ((chain_Check.f k l0).bind fun bt117 => (if bt117.2 = 0 then (if (l0.length : Int) = 0 then (some (0, bt117.2)) else (if 0 ≤ (wrap64 ((l0.length : Int) - 1)) then (if (wrap64 ((l0.length : Int) - 1)) < (l0.length : Int) then (some ((rd_T29 l0 (wrap64 ((l0.length : Int) - 1))).f0, 0)) else (none)) else (none))) else (some (0, bt117.2)))) = some (r1, r2) := h
 clear h
 replace H := Option.bind_eq_some_iff.mp H
 obtain ⟨⟨t117, t118⟩, A20, H⟩ := H
 replace H : (if t118 = 0 then (if (l0.length : Int) = 0 then (some (0, t118)) else (if 0 ≤ (wrap64 ((l0.length : Int) - 1)) then (if (wrap64 ((l0.length : Int) - 1)) < (l0.length : Int) then (some ((rd_T29 l0 (wrap64 ((l0.length : Int) - 1))).f0, 0)) else (none)) else (none))) else (some (0, t118))) = some (r1, r2) := H
 have A2 := Aside0.mk A20
 clear A20
 by_cases c3 : t118 = 0
 ·rw [if_pos c3] at H
  have c3b0 : (t118 == 0) = true := beq_iff_eq.mpr c3
  have c3b1 : (t118 != 0) = false := bne_eq_false_iff_eq.mpr c3
  clear c3
  by_cases c4 : (l0.length : Int) = 0
  ·rw [if_pos c4] at H
   have c4b0 : ((l0.length : Int) == 0) = true := beq_iff_eq.mpr c4
   have c4b1 : ((l0.length : Int) != 0) = false := bne_eq_false_iff_eq.mpr c4
   clear c4
   simp only [Option.some.injEq, Prod.mk.injEq] at H
   obtain ⟨rfl, rfl⟩ := H
   go_enter Try.func91, Try.ntmps91
   go_wp2_with (first | ((with_reducible refine gate_callee (f := 71) rfl ?_); refine goesL_ (some 8) rfl rfl Try.func71 (by kernel_rfl) rfl #[.slice A0 l0.length c0] rfl (by (try simp only [List.map_toArray, List.map_cons, List.map_nil]); first | done | rfl | (simp only [List.length_drop, List.length_take]; rfl)) ?_; (with_reducible refine (chain_Check.calls k _ _ l0 t117 t118 _ ?side1 ?side2 A2.out).mono ?_); (case side1 => repeat (first | exact HR0.out | (with_reducible refine Kd.C_alloc ?_ _) | (with_reducible refine Kd.C_drewN ?_ _) | (with_reducible refine Kd.C_drew ?_))); (case side2 => exact HC0.out); rintro e w5 ⟨rfl, hb⟩; refine ⟨_, rfl, ?_⟩; have n0_ := Aside0.mk (below_step (by repeat (first | (with_reducible first | exact HB.out | apply below_alloc | apply pw_below_drewN | apply below_drew1) | exact HB.out)) hb); clear HB; have HB := n0_; clear n0_; (try clear hb); (try clear hb2); (try clear hk); (try clear hi)))
   go_ret2
   exact ⟨by first | rfl | (simp [errW_none, errW_some] <;> rfl) | (simp [*, errW_none, errW_some] <;> rfl), by repeat (first | (with_reducible first | exact HB.out | apply below_alloc | apply pw_below_drewN | apply below_drew1) | exact HB.out)⟩
  ·rw [if_neg c4] at H
   have c4b0 : ((l0.length : Int) == 0) = false := beq_eq_false_iff_ne.mpr c4
   have c4b1 : ((l0.length : Int) != 0) = true := bne_iff_ne.mpr c4
   have c4b2 : ¬ (l0 = []) := fun h_ => c4 (by rw [h_]; rfl)
   obtain ⟨ji6, hji6⟩ : ∃ j_ : Int, (wrap64 ((l0.length : Int) - 1)) = j_ := ⟨_, rfl⟩
   replace H : (if 0 ≤ (ji6) then (if (ji6) < (l0.length : Int) then (some ((rd_T29 l0 (ji6)).f0, 0)) else (none)) else (none)) = some (r1, r2) := by first | (rw [hji6] at H; exact H) | (simp only [hji6] at H ⊢; exact H)
   (try rw [hji6] at A2)
   have hji6w : (IntKind.i64.wrap ((l0.length : Int) - 1)) = ji6 := (i64_w _).trans hji6
   by_cases c7 : 0 ≤ (ji6)
   ·rw [if_pos c7] at H
    have c7b0 : decide (0 ≤ (ji6)) = true := decide_eq_true c7
    clear c7
    by_cases c8 : (ji6) < (l0.length : Int)
    ·rw [if_pos c8] at H
     have c8b0 : decide ((ji6) < (l0.length : Int)) = true := decide_eq_true c8
     clear c8
     simp only [Option.some.injEq, Prod.mk.injEq] at H
     obtain ⟨rfl, rfl⟩ := H
     go_enter Try.func91, Try.ntmps91
     go_wp2_with (first | ((with_reducible refine gate_callee (f := 71) rfl ?_); refine goesL_ (some 8) rfl rfl Try.func71 (by kernel_rfl) rfl #[.slice A0 l0.length c0] rfl (by (try simp only [List.map_toArray, List.map_cons, List.map_nil]); first | done | rfl | (simp only [List.length_drop, List.length_take]; rfl)) ?_; (with_reducible refine (chain_Check.calls k _ _ l0 t117 t118 _ ?side1 ?side2 A2.out).mono ?_); (case side1 => repeat (first | exact HR0.out | (with_reducible refine Kd.C_alloc ?_ _) | (with_reducible refine Kd.C_drewN ?_ _) | (with_reducible refine Kd.C_drew ?_))); (case side2 => exact HC0.out); rintro e w9 ⟨rfl, hb⟩; refine ⟨_, rfl, ?_⟩; have n0_ := Aside0.mk (below_step (by repeat (first | (with_reducible first | exact HB.out | apply below_alloc | apply pw_below_drewN | apply below_drew1) | exact HB.out)) hb); clear HB; have HB := n0_; clear n0_; (try clear hb); (try clear hb2); (try clear hk); (try clear hi); have p119 : 0 ≤ ((ji6) : Int) := of_decide_eq_true (by first | (with_reducible assumption) | assumption); have q119 : (ji6) < (l0.length : Int) := of_decide_eq_true (by first | (with_reducible assumption) | assumption); obtain ⟨ad119, e119, hx119_0, hx119_1, hx119_2⟩ := at_T29 HR0.out (ji6) p119 q119; cases e119; replace hx119_0 := (HB.out.cell (World.block_lt_of_cell? w _ hx119_0)).trans hx119_0; replace hx119_1 := (HB.out.cell (World.block_lt_of_cell? w _ hx119_1)).trans hx119_1; replace hx119_2 := (HB.out.cell (World.block_lt_of_cell? w _ hx119_2)).trans hx119_2; replace p119 := eq_true p119; replace q119 := eq_true q119))
     go_ret2
     exact ⟨by first | rfl | (simp [errW_none, errW_some] <;> rfl) | (simp only [← hji6]; first | rfl | (simp [errW_none, errW_some] <;> rfl)) | (simp [*, errW_none, errW_some] <;> rfl), by repeat (first | (with_reducible first | exact HB.out | apply below_alloc | apply pw_below_drewN | apply below_drew1) | exact HB.out)⟩
    ·rw [if_neg c8] at H
     exact absurd H (by simp)
   ·rw [if_neg c7] at H
    exact absurd H (by simp)
 ·rw [if_neg c3] at H
  have c3b0 : (t118 == 0) = false := beq_eq_false_iff_ne.mpr c3
  have c3b1 : (t118 != 0) = true := bne_iff_ne.mpr c3
  simp only [Option.some.injEq, Prod.mk.injEq] at H
  obtain ⟨rfl, rfl⟩ := H
  go_enter Try.func91, Try.ntmps91
  go_wp2_with (first | ((with_reducible refine gate_callee (f := 71) rfl ?_); refine goesL_ (some 8) rfl rfl Try.func71 (by kernel_rfl) rfl #[.slice A0 l0.length c0] rfl (by (try simp only [List.map_toArray, List.map_cons, List.map_nil]); first | done | rfl | (simp only [List.length_drop, List.length_take]; rfl)) ?_; (with_reducible refine (chain_Check.calls k _ _ l0 t117 t118 _ ?side1 ?side2 A2.out).mono ?_); (case side1 => repeat (first | exact HR0.out | (with_reducible refine Kd.C_alloc ?_ _) | (with_reducible refine Kd.C_drewN ?_ _) | (with_reducible refine Kd.C_drew ?_))); (case side2 => exact HC0.out); rintro e w10 ⟨rfl, hb⟩; refine ⟨_, rfl, ?_⟩; have n0_ := Aside0.mk (below_step (by repeat (first | (with_reducible first | exact HB.out | apply below_alloc | apply pw_below_drewN | apply below_drew1) | exact HB.out)) hb); clear HB; have HB := n0_; clear n0_; (try clear hb); (try clear hb2); (try clear hk); (try clear hi)))
  go_ret2
  exact ⟨by first | rfl | (simp [errW_none, errW_some] <;> rfl) | (simp [*, errW_none, errW_some] <;> rfl), by repeat (first | (with_reducible first | exact HB.out | apply below_alloc | apply pw_below_drewN | apply below_drew1) | exact HB.out)⟩

end Go.Proofs.Ytaldfbmjmpkmmaa.PL
namespace Go.Proofs.Ytaldfbmjmpkmmaa.PL
open Go.RowKit Go.Proofs.YtaldfbmjmpkmmaaW.PrintWords Go.Proofs.YtaldfbmjmpkmmaaW.PrintLast Go.Proofs.YtaldfbmjmpkmmaaW.PrintMore Go.Shelf Go.Sort
set_option linter.unusedVariables false
set_option linter.unusedSimpArgs false
theorem rdV_nat (l : Chain) (i : Nat) (h : i < l.length) : rd_T29 l (i : Int) = l[i] := by
  unfold rd_T29; simp [List.getElem?_eq_getElem h]
theorem rdV_getD (l : Chain) (i : Nat) (h : i < l.length) : rd_T29 l (i : Int) = l.getD i zVer := by
  rw [rdV_nat l i h]; simp [List.getElem?_eq_getElem h]
theorem chk_from (l : Chain) (hv : ∀ v ∈ l, VerOk v) (hl : l.length ≤ 1024) (hr : l.Pairwise (fun x y => x.f0 < y.f0)) (d : Nat) : ∀ (k i : Nat) (last : Int), i + d = l.length → 3 * d < k → (∀ v ∈ l.drop i, last < v.f0) →
    chain_Check.l0 k last l (l.length : Int) (i : Int) = some (0, 0) := by
  induction d with
  | zero =>
    intro k i last hd hk _
    obtain ⟨k, rfl⟩ : ∃ m, k = m + 1 := ⟨k - 1, by omega⟩
    simp only [chain_Check.l0]
    rw [if_neg (by omega)]
  | succ d ih =>
    intro k i last hd hk hlast
    obtain ⟨k, rfl⟩ : ∃ m, k = m + 1 + 1 + 1 := ⟨k - 3, by omega⟩
    have hi : i < l.length := by omega
    obtain ⟨v1, v2, v3, v4⟩ := hv l[i] (List.getElem_mem hi)
    have hd2 : l.drop i = l[i] :: l.drop (i + 1) := List.drop_eq_getElem_cons hi
    have h0 : last < l[i].f0 := hlast l[i] (by rw [hd2]; exact List.mem_cons_self)
    have e3 : wrap64 ((i : Int) + 1) = ((i + 1 : Nat) : Int) := by rw [w64 _ (by omega) (by omega)]; omega
    have hnext : ∀ v ∈ l.drop (i + 1), l[i].f0 < v.f0 := fun v hv => by
      have := hr.sublist (List.drop_sublist i l)
      rw [hd2] at this
      exact (List.pairwise_cons.1 this).1 v hv
    have ih2 := ih k (i + 1) l[i].f0 (by omega) (by omega) hnext
    simp only [chain_Check.l0]
    rw [if_pos (by omega), if_pos (by omega), if_pos (by omega), rdV_nat l i hi, if_neg (by omega)]
    simp only [chain_Check.j1]
    rw [if_neg (by simp; omega), if_neg (by omega)]
    cases hdd : l[i].f2 with
    | true =>
      have hs : (l[i].f1.toList != ([] : List UInt8)) = false := by rw [v4 hdd]; rfl
      rw [if_pos rfl, hs]
      simp only [chain_Check.j2]
      rw [if_neg (by simp), if_neg (by omega), e3]
      exact ih2
    | false =>
      rw [if_neg (by simp)]
      simp only [chain_Check.j2]
      rw [if_neg (by simp), if_neg (by omega), e3]
      exact ih2
theorem chk_f {l : Chain} (h : ChainOk l) : chain_Check.f 4000 l = some (0, 0) := by
  have hl := h.len
  unfold chain_Check.f
  rw [if_neg (by omega)]
  exact chk_from l h.ver h.len h.rise l.length 4000 0 0 (by omega) (by omega) (fun v hv => by
    have := (h.ver v (List.mem_of_mem_drop hv)).1
    omega)
theorem last_f {l : Chain} (h : ChainOk l) : chain_Last.f 4000 l = some (lastV l, 0) := by
  have hl := h.len
  unfold chain_Last.f
  rw [chk_f h, Option.bind_some]
  simp only
  rw [if_pos trivial]
  by_cases h0 : l.length = 0
  · obtain rfl := List.eq_nil_of_length_eq_zero h0
    rw [if_pos (by simp)]
    rfl
  · have e : wrap64 ((l.length : Int) - 1) = ((l.length - 1 : Nat) : Int) := by rw [w64 _ (by omega) (by omega)]; omega
    rw [if_neg (by omega), e, if_pos (by omega), if_pos (by omega), rdV_nat l _ (by omega)]
    unfold lastV
    rw [List.getLast?_eq_getElem?, List.getElem?_eq_getElem (by omega)]
    rfl
theorem cnt_until (t : Int) : ∀ (l : Chain), l.Pairwise (fun x y => x.f0 < y.f0) → (List.range l.length).countP (fun i => !decide (t < (l.getD i zVer).f0)) = untilV l t
  | [], _ => rfl
  | v :: r, h => by
    obtain ⟨h1, h2⟩ := List.pairwise_cons.1 h
    rw [List.length_cons, List.range_succ_eq_map, List.countP_cons, List.countP_map, until_cons]
    have e : ((fun i => !decide (t < ((v :: r).getD i zVer).f0)) ∘ Nat.succ) = (fun i => !decide (t < (r.getD i zVer).f0)) := by
      funext i
      simp
    rw [e, cnt_until t r h2]
    by_cases hv : v.f0 ≤ t
    · rw [if_pos hv, if_pos (by simpa using hv)]
    · rw [if_neg hv, if_neg (by simpa using hv)]
      have : untilV r t = 0 := by
        cases r with
        | nil => rfl
        | cons u r =>
          have := h1 u List.mem_cons_self
          rw [until_cons, if_neg (by omega)]
      omega
set_option maxRecDepth 100000 in
theorem until1_walk (W : World) (bl bt : Nat) (A : Option Addr) (c : Nat) (l : Chain) (t : Int) (i : Nat) (hi : i < l.length) (hl : W.cell? ⟨bl, 0, none⟩ = some (.slice A l.length c)) (ht : W.cell? ⟨bt, 0, none⟩ = some (.int .i64 t)) (hc : Kd.C k29 W A l.length l) :
    Calls Try.prog 111 (#[.int .i64 (i : Int)] ++ #[.pointer (some ⟨bl, 0, none⟩), .pointer (some ⟨bt, 0, none⟩)]) W fun e w' => e = .returned (.bool (decide (t < (l.getD i zVer).f0))) ∧ ∃ q, w' = W.drewN q := by
  obtain ⟨ad, rfl, c0, c1, c2⟩ := at_T29 hc (i : Int) (by omega) (by omega)
  have hm := Kd.C_max hc
  rw [rdV_getD l i hi, Int.toNat_natCast] at c0
  have hu := Try.underlying29
  generalize l.getD i zVer = v at *
  clear c1 c2 hc
  show Calls Try.prog 111 #[.int .i64 (i : Int), .pointer (some ⟨bl, 0, none⟩), .pointer (some ⟨bt, 0, none⟩)] W _
  go_enter Try.func111, Try.ntmps111
  go_wp2_with fail
  go_quiet (fail)
  all_goals (try go_wp2)
  go_ret
  exact ⟨rfl, _, rfl⟩
theorem last_walk (w : World) (A : Option Addr) (c : Nat) (l : Chain) (hr : Kd.C k29 w A l.length l) (hc : l.length ≤ c) (h : ChainOk l) :
    Calls Try.prog 91 #[.slice A l.length c] w fun e w' => e = .returned (.tuple #[.int .i64 (lastV l), .int .i64 0]) ∧ Below w.heap.size w w' := chain_Last.calls 4000 A c l _ _ w hr hc (last_f h)
theorem check_walk (w : World) (A : Option Addr) (c : Nat) (l : Chain) (hr : Kd.C k29 w A l.length l) (hc : l.length ≤ c) (h : ChainOk l) :
    Calls Try.prog 71 #[.slice A l.length c] w fun e w' => e = .returned (.tuple #[.int .i64 0, .int .i64 0]) ∧ Below w.heap.size w w' := chain_Check.calls 4000 A c l _ _ w hr hc (chk_f h)
theorem until_mono2 (l : Chain) (t : Int) (h : l.Pairwise (fun x y => x.f0 < y.f0)) (a b : Nat) (hab : a ≤ b) (hb : b < l.length) (ha : decide (t < (l.getD a zVer).f0) = true) : decide (t < (l.getD b zVer).f0) = true := by
  rcases Nat.eq_or_lt_of_le hab with rfl | hlt
  · exact ha
  · have h1 : l.getD a zVer = l[a] := by simp [List.getElem?_eq_getElem (show a < l.length by omega)]
    have h2 : l.getD b zVer = l[b] := by simp [List.getElem?_eq_getElem hb]
    rw [h1] at ha
    rw [h2]
    have h3 := List.pairwise_iff_getElem.1 h a b (by omega) hb hlt
    have h4 := of_decide_eq_true ha
    exact decide_eq_true (by omega)
set_option maxRecDepth 100000 in
theorem until_walk (w : World) (A : Option Addr) (c : Nat) (l : Chain) (t : Int) (hr : Kd.C k29 w A l.length l) (h : ChainOk l) :
    Calls Try.prog 72 #[.slice A l.length c, .int .i64 t] w fun e w' => e = .returned (.int .i64 ((untilV l t : Nat) : Int)) ∧ Below w.heap.size w w' := by
  obtain ⟨w2, hw2⟩ : ∃ w2, w2 = (w.alloc (.cells #[.slice A l.length c] 81)).alloc (.cells #[.int .i64 t] 3) := ⟨_, rfl⟩
  have hB : Below w.heap.size w w2 := by rw [hw2]; exact below_alloc (below_alloc (Below.refl _ w) _) _
  have hs2 : w2.heap.size = w.heap.size + 2 := by rw [hw2]; simp
  have b1 : w2.heap[w.heap.size]? = some (.cells #[.slice A l.length c] 81 (0, 0)) := by rw [hw2]; exact blk_alloc (blk_new _ _) _
  have b2 : w2.heap[w.heap.size + 1]? = some (.cells #[.int .i64 t] 3 (0, 0)) := by
    rw [hw2]
    have := blk_new (w.alloc (.cells #[.slice A l.length c] 81)) (.cells #[.int .i64 t] 3)
    simpa using this
  have hl := h.len
  have hcon := Any.sort_Search Try.search 111 #[.pointer (some ⟨w.heap.size, 0, none⟩), .pointer (some ⟨w.heap.size + 1, 0, none⟩)] l.length (fun i => decide (t < (l.getD i zVer).f0)) w2
    (enters_of Try.func111 (by kernel_rfl) rfl) (by omega) (fun m os i hi => by
      have hG := below_grown_sl w2.heap.size w2 m os (Nat.le_refl _)
      refine (until1_walk (grow (w2.drewN m) os) w.heap.size (w.heap.size + 1) A c l t i hi ?_ ?_ ?_).mono ?_
      · rw [blk_cell (blk_below b1 hG) 0]; rfl
      · rw [blk_cell (blk_below b2 hG) 0]; rfl
      · exact Kd.C_below (Kd.C_below hr hB) hG
      · rintro e w' ⟨he, q, rfl⟩
        exact ⟨he, q, #[], by rw [grow_empty]⟩) (until_mono2 l t h.rise)
  rw [cnt_until t l h.rise] at hcon
  change Calls Try.prog 110 _ _ _ at hcon
  have HC := Aside0.mk hcon
  have HB := Aside0.mk hB
  have HW := Aside0.mk hw2
  clear hcon hB hw2 b1 b2 hr h hs2
  generalize untilV l t = n at *
  go_enter Try.func72, Try.ntmps72
  go_wp2_with fail
  rw [← HW.out]
  refine HC.out.mono ?_
  rintro e w' ⟨rfl, q, os, rfl⟩
  have HB2 : Aside0 (Below w.heap.size w (grow (w2.drewN q) os)) := ⟨HB.out.trans (below_grown_sl w.heap.size w2 q os HB.out.size)⟩
  go_wp2_with fail
  go_ret
  exact ⟨rfl, HB2.out⟩
end Go.Proofs.Ytaldfbmjmpkmmaa.PL
namespace Go.Proofs.Ytaldfbmjmpkmmaa.PL
open Go.RowKit Go.Proofs.YtaldfbmjmpkmmaaW.PrintWords Go.Proofs.YtaldfbmjmpkmmaaW.PrintLast Go.Proofs.YtaldfbmjmpkmmaaW.PrintMore Go.Shelf Go.Sort
set_option linter.unusedVariables false
set_option linter.unusedSimpArgs false
def verV (v : Ver) : Value := .agg #[.int .i64 v.f0, .string v.f1, .bool v.f2]
set_option maxRecDepth 100000 in
set_option maxHeartbeats 1000000 in
theorem at_walk (w : World) (A : Option Addr) (c : Nat) (l : Chain) (t : Int) (hr : Kd.C k29 w A l.length l) (hc : l.length ≤ c) (h : ChainOk l) :
    Calls Try.prog 34 #[.slice A l.length c, .int .i64 t] w fun e w' => e = .returned (.tuple #[.agg #[.int .i64 (atV l t).1.f0, .string (atV l t).1.f1, .bool (atV l t).1.f2], .bool (atV l t).2, .int .i64 0]) ∧ Below w.heap.size w w' := by
  have HR := Aside0.mk hr
  have HC := Aside0.mk hc
  have HO := Aside0.mk h
  have hl := h.len
  have hul := until_le l t
  have hu := Try.underlying29
  have HA : Aside0 (atV l t = if untilV l t = 0 then (zVer, false) else (l.getD (untilV l t - 1) zVer, true)) := ⟨rfl⟩
  have HUN : Aside0 (∀ W, Below w.heap.size w W → Calls Try.prog 72 #[.slice A l.length c, .int .i64 t] W fun e w' => e = .returned (.int .i64 ((untilV l t : Nat) : Int)) ∧ Below W.heap.size W w') := ⟨fun W hW => until_walk W A c l t (Kd.C_below hr hW) h⟩
  have HCH : Aside0 (∀ W, Below w.heap.size w W → Calls Try.prog 71 #[.slice A l.length c] W fun e w' => e = .returned (.tuple #[.int .i64 0, .int .i64 0]) ∧ Below W.heap.size W w') := ⟨fun W hW => check_walk W A c l (Kd.C_below hr hW) hc h⟩
  generalize atV l t = r at *
  generalize untilV l t = n at *
  clear hr hc h
  go_enter Try.func34, Try.ntmps34
  have hbx : (w.alloc (.cells #[.int .i64 0, .string ⟨#[]⟩, .bool false] 29)).heap[w.heap.size]? = some (.cells #[.int .i64 0, .string ⟨#[]⟩, .bool false] 29 (0, 0)) := blk_new _ _
  have hb0 := below_alloc (Below.refl _ w) (.cells #[.int .i64 0, .string ⟨#[]⟩, .bool false] 29)
  go_wp2_with fail
  refine (HCH.out _ hb0).mono ?_
  rintro e w1 ⟨rfl, hb1⟩
  have HB1 : Aside0 (Below w.heap.size w w1) := ⟨hb0.trans (hb1.mono hb0.size)⟩
  have BX1 := Aside0.mk (blk_below hbx hb1)
  clear hb1 hbx hb0
  go_wp2_with fail
  refine (HUN.out w1 HB1.out).mono ?_
  rintro e w2 ⟨rfl, hb2⟩
  have HB2 : Aside0 (Below w.heap.size w w2) := ⟨HB1.out.trans (hb2.mono HB1.out.size)⟩
  have BX2 := Aside0.mk (blk_below BX1.out hb2)
  clear hb2 BX1 HB1
  have y0 := blk_cell BX2.out 0
  have y1 := blk_cell BX2.out 1
  have y2 := blk_cell BX2.out 2
  have f0 := blk_frozen BX2.out 0
  have f1 := blk_frozen BX2.out 1
  have f2 := blk_frozen BX2.out 2
  by_cases hn : n = 0
  · subst hn
    rw [if_pos rfl] at HA
    go_wp2_with fail
    (try simp only [Exit.inBlock, Exit.then])
    refine bodyPost_ret (results_list (rs := [.cell 4 29, .tmp 5, .tmp 6]) rfl (by simp) (Vals.cell w.heap.size 29 _ (0, 0) _ rfl (blk_put (blk_put (blk_put BX2.out 0 _ rfl) 1 _ rfl) 2 _ rfl) Try.underlying29 rfl (by kernel_rfl) (Vals.tmp (Vals.tmp Vals.nil)))) rfl ?_
    exact ⟨by rw [HA.out]; rfl, ((HB2.out.setCell (Nat.le_refl _) _).setCell (Nat.le_refl _) _).setCell (Nat.le_refl _) _⟩
  · rw [if_neg hn] at HA
    obtain ⟨m, rfl⟩ : ∃ m, n = m + 1 := ⟨n - 1, by omega⟩
    obtain ⟨ad, rfl, c0, c1, c2⟩ := at_T29 (Kd.C_below HR.out HB2.out) (m : Int) (by omega) (by omega)
    rw [rdV_getD l m (by omega), Int.toNat_natCast] at c0 c1 c2
    have hm1 : ((m + 1 : Nat) : Int) - 1 = (m : Int) := by omega
    rw [Nat.add_sub_cancel] at HA
    generalize l.getD m zVer = v at *
    go_wp2_with fail
    (try simp only [Exit.inBlock, Exit.then])
    refine bodyPost_ret (results_list (rs := [.cell 4 29, .tmp 5, .tmp 6]) rfl (by simp) (Vals.cell w.heap.size 29 _ (0, 0) _ rfl (blk_put (blk_put (blk_put BX2.out 0 _ rfl) 1 _ rfl) 2 _ rfl) Try.underlying29 rfl (by kernel_rfl) (Vals.tmp (Vals.tmp Vals.nil)))) rfl ?_
    exact ⟨by rw [HA.out]; rfl, ((HB2.out.setCell (Nat.le_refl _) _).setCell (Nat.le_refl _) _).setCell (Nat.le_refl _) _⟩
set_option maxRecDepth 100000 in
set_option maxHeartbeats 1000000 in
theorem sweepC_walk (w : World) (A : Option Addr) (c : Nat) (l : Chain) (t : Int) (hr : Kd.C k29 w A l.length l) (hc : l.length ≤ c) (h : ChainOk l) :
    Calls Try.prog 80 #[.slice A l.length c, .int .i64 t] w fun e w' => ∃ v, e = .returned (.tuple #[v, .int .i64 0]) ∧ Kd.R k29 29 w' w.heap.size (fun _ => True) v (sweepC l t) ∧ Below w.heap.size w w' := by
  have HR := Aside0.mk hr
  have HC := Aside0.mk hc
  have hl := h.len
  have hul := until_le l t
  have hu := Try.underlying29
  have HUN : Aside0 (∀ W, Below w.heap.size w W → Calls Try.prog 72 #[.slice A l.length c, .int .i64 t] W fun e w' => e = .returned (.int .i64 ((untilV l t : Nat) : Int)) ∧ Below W.heap.size W w') := ⟨fun W hW => until_walk W A c l t (Kd.C_below hr hW) h⟩
  have HCH : Aside0 (∀ W, Below w.heap.size w W → Calls Try.prog 71 #[.slice A l.length c] W fun e w' => e = .returned (.tuple #[.int .i64 0, .int .i64 0]) ∧ Below W.heap.size W w') := ⟨fun W hW => check_walk W A c l (Kd.C_below hr hW) hc h⟩
  have hfr : sweepFrom l t ≤ l.length := by unfold sweepFrom; split <;> omega
  obtain ⟨i0, hi0, _, hsz, _⟩ := info_parts infoV
  have HCL : Aside0 (∀ W, Below w.heap.size w W → Calls Try.prog 114 #[.slice (if c = sweepFrom l t then A else A.map (·.add (sweepFrom l t * 3))) (l.length - sweepFrom l t) (c - sweepFrom l t)] W fun e w' => ∃ v, e = .returned v ∧ Kd.R k29 29 w' W.heap.size (fun _ => True) v (sweepC l t) ∧ Below W.heap.size W w') := ⟨fun W hW => by
    have h1 := Kd.C_drop (Kd.C_below hr hW) hfr hc
    have h2 := clone_ver W _ (c - sweepFrom l t) (l.drop (sweepFrom l t)) h1 (by rw [List.length_drop]; omega)
    rw [List.length_drop] at h2
    exact h2⟩
  have hcut := cut_from (P := Try.prog) 81 29 .i64 Try.underlying81 hi0 3 hsz A l.length c (sweepFrom l t : Int) (by omega) (by omega)
  rw [Int.toNat_natCast] at hcut
  generalize (if c = sweepFrom l t then A else A.map (·.add (sweepFrom l t * 3))) = A2 at hcut HCL
  have HS : Aside0 (sweepFrom l t = if 0 < untilV l t ∧ (l.getD (untilV l t - 1) zVer).f2 = false then untilV l t - 1 else untilV l t) := ⟨rfl⟩
  generalize sweepC l t = r at *
  generalize sweepFrom l t = m at *
  generalize untilV l t = n at *
  clear hr hc h
  go_enter Try.func80, Try.ntmps80
  go_wp2_with fail
  refine (HCH.out _ (Below.refl _ _)).mono ?_
  rintro e w1 ⟨rfl, hb1⟩
  have HB1 := Aside0.mk hb1
  clear hb1
  go_wp2_with fail
  refine (HUN.out w1 HB1.out).mono ?_
  rintro e w2 ⟨rfl, hb2⟩
  have HB2 : Aside0 (Below w.heap.size w w2) := ⟨HB1.out.trans (hb2.mono HB1.out.size)⟩
  clear hb2 HB1
  by_cases hn : n = 0
  · subst hn
    rw [if_neg (by omega)] at HS
    have hm0 : m = 0 := HS.out
    subst hm0
    clear HS
    have hcut0 : ∀ W, (Instr.slice 81 (.slice A l.length c) (some (.int .i64 0)) none none).run Try.prog W = .ok (.slice A2 (l.length - 0) (c - 0)) W := hcut
    clear hcut
    rw [Nat.sub_zero, Nat.sub_zero] at hcut0 HCL
    go_wp2_with fail
    refine (HCL.out _ HB2.out).mono ?_
    rintro e w3 ⟨vr, rfl, hvr, hb3⟩
    have HV3 := Aside0.mk (Kd.R_lower hvr HB2.out.size)
    have HB3 : Aside0 (Below w.heap.size w w3) := ⟨HB2.out.trans (hb3.mono HB2.out.size)⟩
    clear hvr hb3
    go_wp2_with fail
    go_ret2
    exact ⟨_, rfl, HV3.out, HB3.out⟩
  · obtain ⟨k, rfl⟩ : ∃ k, n = k + 1 := ⟨n - 1, by omega⟩
    rw [Nat.add_sub_cancel] at HS
    obtain ⟨ad, rfl, c0, c1, c2⟩ := at_T29 (Kd.C_below HR.out HB2.out) (k : Int) (by omega) (by omega)
    rw [rdV_getD l k (by omega), Int.toNat_natCast] at c2
    have hk1 : ((k + 1 : Nat) : Int) - 1 = (k : Int) := by omega
    clear c0 c1
    generalize l.getD k zVer = v at *
    cases hd : v.f2 with
    | true =>
      rw [hd] at c2 HS
      rw [if_neg (by simp)] at HS
      have hm : m = k + 1 := HS.out
      subst hm
      clear HS
      rw [show ((k + 1 : Nat) : Int) = (k : Int) + 1 by omega] at hcut
      go_wp2_with fail
      refine (HCL.out _ HB2.out).mono ?_
      rintro e w3 ⟨vr, rfl, hvr, hb3⟩
      have HV3 := Aside0.mk (Kd.R_lower hvr HB2.out.size)
      have HB3 : Aside0 (Below w.heap.size w w3) := ⟨HB2.out.trans (hb3.mono HB2.out.size)⟩
      clear hvr hb3
      go_wp2_with fail
      go_ret2
      exact ⟨_, rfl, HV3.out, HB3.out⟩
    | false =>
      rw [hd] at c2 HS
      rw [if_pos (by simp)] at HS
      have hm : m = k := HS.out
      subst hm
      clear HS
      go_wp2_with fail
      refine (HCL.out _ HB2.out).mono ?_
      rintro e w3 ⟨vr, rfl, hvr, hb3⟩
      have HV3 := Aside0.mk (Kd.R_lower hvr HB2.out.size)
      have HB3 : Aside0 (Below w.heap.size w w3) := ⟨HB2.out.trans (hb3.mono HB2.out.size)⟩
      clear hvr hb3
      go_wp2_with fail
      go_ret2
      exact ⟨_, rfl, HV3.out, HB3.out⟩
end Go.Proofs.Ytaldfbmjmpkmmaa.PL
namespace Go.Proofs.Ytaldfbmjmpkmmaa.PL
open Go.RowKit Go.Proofs.YtaldfbmjmpkmmaaW.PrintWords Go.Proofs.YtaldfbmjmpkmmaaW.PrintLast Go.Proofs.YtaldfbmjmpkmmaaW.PrintMore Go.Shelf Go.Sort
set_option linter.unusedVariables false
set_option linter.unusedSimpArgs false
/-- slices.Grow of nil. -/
theorem grow_walk (w : World) (n : Nat) (h0 : 0 < n) (hn : n ≤ 8192) :
    Calls Try.prog 138 #[.slice none 0 0, .int .i64 (n : Int)] w fun e w' => ∃ v, e = .returned v ∧ Kd.R k29 29 w' w.heap.size (fun _ => True) v [] ∧ Below w.heap.size w w' := by
  obtain ⟨i0, hi0, hz0, hsz, hby⟩ := info_parts infoV
  have hcon := Any8.slices_Grow_grow Try.growV i0 (.agg #[.int .i64 0, .string ⟨#[]⟩, .bool false]) hi0 hz0 (by omega) none 0 0 n [] w (Nat.le_refl _) (by omega) (by rw [hby]; omega) (by omega) (by simp) (fun _ => rfl) (fun a h => by cases h)
  refine hcon.mono ?_
  rintro e w' ⟨rfl, rfl⟩
  have hcap := grownCap_ge w (0 + n) 0 29
  refine ⟨_, rfl, ⟨fun k hk => trivial, [], ⟨by simp, .inr ⟨w.heap.size, _, _, rfl, Nat.le_refl _, blk_new _ _, Nat.zero_le _, ?_, ?_, by simp⟩⟩, Reps.none _ _⟩, ?_⟩
  · have h8 : (8192 : Nat) ≤ maxLen := by decide
    exact grownCap_le_maxLen w (0 + n) 0 29 (by omega)
  · show _ = grownCap w (0 + n) 0 29 * 3
    show (_ ++ Builtin.zeroCells _ (grownCap w (0 + n) 0 29 - (0 + n))).size = _
    generalize grownCap w (0 + n) 0 29 = cap at *
    simp [Builtin.zeroCells, Value.cells]
    omega
  · exact below_alloc (below_drew (Below.refl _ w)) _
/-- The two chains' lengths, and the chains, up to the k-th. -/
def upLen (l m : Chain) : Nat → Nat
  | 0 => 0
  | 1 => l.length
  | _ => l.length + m.length
def upTo (l m : Chain) : Nat → Chain
  | 0 => []
  | 1 => l
  | _ => l ++ m
set_option maxRecDepth 100000 in
set_option maxHeartbeats 2000000 in
theorem concat_walk (w : World) (g : Nat) (A A2 : Option Addr) (c c2 : Nat) (l m : Chain) (hg0 : w.cell? ⟨g, 0, none⟩ = some (.slice A l.length c)) (hg1 : w.cell? ⟨g, 1, none⟩ = some (.slice A2 m.length c2)) (hr : Kd.C k29 w A l.length l) (hr2 : Kd.C k29 w A2 m.length m) (hl : l.length ≤ 1024) (hm : m.length ≤ 1024) (hm0 : 0 < m.length) :
    Calls Try.prog 115 #[.slice (some ⟨g, 0, none⟩) 2 2] w fun e w' => ∃ v, e = .returned v ∧ Kd.R k29 29 w' w.heap.size (fun _ => True) v (l ++ m) ∧ Below w.heap.size w w' := by
  have HG := Aside0.mk (And.intro hg0 hg1)
  have HR := Aside0.mk (And.intro hr hr2)
  have hs0 : upLen l m 0 = 0 := rfl
  have hs1 : upLen l m 1 = l.length := rfl
  have hs2 : upLen l m 2 = l.length + m.length := rfl
  clear hg0 hg1 hr hr2
  go_enter Try.func115, Try.ntmps115
  go_wp2
  go_loopw [3, 11] (fun v3 i wr => ∃ k : Nat, k ≤ 2 ∧ i = .int .i64 (k : Int) ∧ v3 = .int .i64 ((upLen l m k : Nat) : Int) ∧ Aside0 (Below w.heap.size w wr)) (fun _ i _ => 2 - (intOf i).toNat)
  case atStart => exact ⟨0, by omega, rfl, rfl, ⟨Below.refl _ _⟩⟩
  case round =>
    obtain ⟨k, hk, rfl, rfl, HB⟩ := hrel
    have q0 := (HB.out.cell (p := ⟨g, 0, none⟩) (World.block_lt_of_cell? w _ HG.out.1)).trans HG.out.1
    have q1 := (HB.out.cell (p := ⟨g, 1, none⟩) (World.block_lt_of_cell? w _ HG.out.2)).trans HG.out.2
    match k, hk with
    | 0, _ =>
      rw [hs0]
      go_wp2_with fail
      go_roundw
      case rel => exact ⟨1, by omega, by go_num, by first | (rw [hs1]; done) | (rw [hs1]; go_num) | (rw [hs1]; rfl), HB⟩
      case measure => simp [intOf]
    | 1, _ =>
      rw [hs1]
      go_wp2_with fail
      go_roundw
      case rel => exact ⟨2, by omega, by go_num, by first | (rw [hs2]; done) | (rw [hs2]; go_num) | (rw [hs2]; rfl), HB⟩
      case measure => simp [intOf]
    | 2, _ =>
      rw [hs2]
      have hgw := grow_walk wr (l.length + m.length) (by omega) (by omega)
      rw [show (((l.length + m.length : Nat)) : Int) = (l.length : Int) + (m.length : Int) by omega] at hgw ⊢
      have HGW := Aside0.mk hgw
      clear hgw
      go_wp2_with fail
      refine HGW.out.mono ?_
      rintro e w2 ⟨v, rfl, hv, hb2⟩
      have HB2 : Aside0 (Below w.heap.size w w2) := ⟨HB.out.trans (hb2.mono HB.out.size)⟩
      have HV2 := Aside0.mk (Kd.R_lower hv HB.out.size)
      clear hv hb2 q0 q1
      go_wp2_with fail
      go_loopw [6, 27] (fun v6 i wz => ∃ k : Nat, k ≤ 2 ∧ i = .int .i64 (k : Int) ∧ Aside0 (Kd.R k29 29 wz w.heap.size (fun _ => True) v6 (upTo l m k)) ∧ Aside0 (Below w.heap.size w wz)) (fun _ i _ => 2 - (intOf i).toNat)
      case atStart => exact ⟨0, by omega, rfl, HV2, HB2⟩
      case round =>
        obtain ⟨k, hk, rfl, HV, HBZ⟩ := hrel
        generalize u6 = v at *
        have q0 := (HBZ.out.cell (p := ⟨g, 0, none⟩) (World.block_lt_of_cell? w _ HG.out.1)).trans HG.out.1
        have q1 := (HBZ.out.cell (p := ⟨g, 1, none⟩) (World.block_lt_of_cell? w _ HG.out.2)).trans HG.out.2
        match k, hk with
        | 0, _ =>
          go_wp2_with (first | ((with_reducible refine gate_builtin (b := .append) (xs := #[.tmp 31, .tmp 32]) rfl ?_); at_builtin; refine Kd.R_append_rows k29 (w0 := w) w.heap.size rfl (.tmp 31) (.tmp 32) 81 29 (.agg #[.int .i64 0, .string ⟨#[]⟩, .bool false]) 32 rfl Try.underlying81 infoV rfl (by decide) (by omega) v (upTo l m 0) l A l.length c (fun _ => True) (fun _ => False) rfl rfl HV.out (Kd.C_below HR.out.1 HBZ.out) (fun _ _ h => h) (fun _ h => h.elim) (fun _ _ => trivial) HBZ.out HBZ.out.size (by simp only [upTo, List.length_nil]; omega) ?_; intro v1 w3 ho hb hg hat; have HV3 := Aside0.mk ho; have HB3 := Aside0.mk hb; clear ho hb hg hat))
          go_roundw
          case rel => exact ⟨1, by omega, by go_num, ⟨by simpa [upTo] using HV3.out⟩, HB3⟩
          case measure => simp [intOf]
        | 1, _ =>
          go_wp2_with (first | ((with_reducible refine gate_builtin (b := .append) (xs := #[.tmp 31, .tmp 32]) rfl ?_); at_builtin; refine Kd.R_append_rows k29 (w0 := w) w.heap.size rfl (.tmp 31) (.tmp 32) 81 29 (.agg #[.int .i64 0, .string ⟨#[]⟩, .bool false]) 32 rfl Try.underlying81 infoV rfl (by decide) (by omega) v (upTo l m 1) m A2 m.length c2 (fun _ => True) (fun _ => False) rfl rfl HV.out (Kd.C_below HR.out.2 HBZ.out) (fun _ _ h => h) (fun _ h => h.elim) (fun _ _ => trivial) HBZ.out HBZ.out.size (by simp only [upTo, List.length_nil]; omega) ?_; intro v1 w3 ho hb hg hat; have HV3 := Aside0.mk ho; have HB3 := Aside0.mk hb; clear ho hb hg hat))
          go_roundw
          case rel => exact ⟨2, by omega, by go_num, ⟨by simpa [upTo] using HV3.out⟩, HB3⟩
          case measure => simp [intOf]
        | 2, _ =>
          go_wp2
          go_ret
          exact ⟨_, rfl, HV.out, HBZ.out⟩
theorem chain_one {v : Ver} (h : VerOk v) : ChainOk [v] := ⟨by simp, fun u hu => by rw [List.mem_singleton.1 hu]; exact h, by simp⟩
set_option maxRecDepth 100000 in
set_option maxHeartbeats 4000000 in
theorem add_walk (w : World) (A : Option Addr) (c : Nat) (l : Chain) (v : Ver) (hr : Kd.C k29 w A l.length l) (hc : l.length ≤ c) (h : ChainOk l) (hv : VerOk v) (hl : l.length < 1024) (ht : lastV l < v.f0) :
    Calls Try.prog 84 #[.slice A l.length c, .agg #[.int .i64 v.f0, .string v.f1, .bool v.f2]] w fun e w' => ∃ u, e = .returned (.tuple #[u, .int .i64 0]) ∧ Kd.R k29 29 w' w.heap.size (fun _ => True) u (l ++ [v]) ∧ Below w.heap.size w w' := by
  obtain ⟨a, s, d⟩ := v
  simp only at ht ⊢
  obtain ⟨w3, hw3⟩ : ∃ w3, w3 = ((w.alloc (.cells #[.int .i64 a, .string s, .bool d] 29)).alloc (.cells #[.int .i64 a, .string s, .bool d] 29)).alloc (.cells #[.slice A l.length c, .slice (some ⟨w.heap.size + 1, 0, none⟩) 1 1] 81) := ⟨_, rfl⟩
  have hB : Below w.heap.size w w3 := by rw [hw3]; exact below_alloc (below_alloc (below_alloc (Below.refl _ w) _) _) _
  have b0 : w3.heap[w.heap.size]? = some (.cells #[.int .i64 a, .string s, .bool d] 29 (0, 0)) := by rw [hw3]; exact blk_alloc (blk_alloc (blk_new _ _) _) _
  have b1 : w3.heap[w.heap.size + 1]? = some (.cells #[.int .i64 a, .string s, .bool d] 29 (0, 0)) := by
    rw [hw3]
    have := blk_new (w.alloc (.cells #[.int .i64 a, .string s, .bool d] 29)) (.cells #[.int .i64 a, .string s, .bool d] 29)
    rw [show (w.alloc (.cells #[.int .i64 a, .string s, .bool d] 29)).heap.size = w.heap.size + 1 by simp] at this
    exact blk_alloc this _
  have b2 : w3.heap[w.heap.size + 2]? = some (.cells #[.slice A l.length c, .slice (some ⟨w.heap.size + 1, 0, none⟩) 1 1] 81 (0, 0)) := by
    rw [hw3]
    have := blk_new ((w.alloc (.cells #[.int .i64 a, .string s, .bool d] 29)).alloc (.cells #[.int .i64 a, .string s, .bool d] 29)) (.cells #[.slice A l.length c, .slice (some ⟨w.heap.size + 1, 0, none⟩) 1 1] 81)
    simpa using this
  have hone : ∀ (W : World) (g : Nat), W.heap[g]? = some (.cells #[.int .i64 a, .string s, .bool d] 29 (0, 0)) → Kd.C k29 W (some ⟨g, 0, none⟩) ([(⟨a, s, d⟩ : Ver)]).length [(⟨a, s, d⟩ : Ver)] := fun W g hg => by
    refine ⟨rfl, by simp, fun _ => ⟨⟨g, 0, none⟩, rfl, fun j p hj => ?_⟩⟩
    cases j with
    | succ j => simp at hj
    | zero =>
      simp at hj
      subst hj
      refine ⟨[.int .i64 a, .string s, .bool d], rfl, k29_mk W ⟨a, s, d⟩, fun i u hu => ?_⟩
      have e : ∀ j : Nat, (⟨g, 0, none⟩ : Addr).add j = ⟨g, j, none⟩ := fun j => by unfold Addr.add; split <;> simp_all
      rw [e, Nat.zero_mul, Nat.zero_add, blk_cell hg i]
      simpa using hu
  have HR := Aside0.mk (Kd.C_below hr hB)
  have HO := Aside0.mk (And.intro h hv)
  have HHO := Aside0.mk hone
  have HW3 := Aside0.mk hw3
  have HB0 := Aside0.mk b0
  have HB1 := Aside0.mk b1
  have HB2 := Aside0.mk b2
  have HBW := Aside0.mk hB
  have HC := Aside0.mk hc
  have hmax := hl
  clear hr h hv hone hw3 b0 b1 b2 hB hc
  have HT := Aside0.mk ht
  clear ht
  have HCC : Aside0 (∀ W : World, Below w3.heap.size w3 W → Calls Try.prog 115 #[.slice (some ⟨W.heap.size + 1, 0, none⟩) 2 2] ((W.alloc (.cells #[.int .i64 a, .string s, .bool d] 29)).alloc (.cells #[.slice A l.length c, .slice (some ⟨W.heap.size, 0, none⟩) 1 1] 81)) fun e w' => ∃ u, e = .returned u ∧ Kd.R k29 29 w' w.heap.size (fun _ => True) u (l ++ [⟨a, s, d⟩]) ∧ Below w.heap.size w w') := ⟨fun W hW => by
    have hb := below_alloc (below_alloc (Below.refl _ W) (.cells #[.int .i64 a, .string s, .bool d] 29)) (.cells #[.slice A l.length c, .slice (some ⟨W.heap.size, 0, none⟩) 1 1] 81)
    have x1 : ((W.alloc (.cells #[.int .i64 a, .string s, .bool d] 29)).alloc (.cells #[.slice A l.length c, .slice (some ⟨W.heap.size, 0, none⟩) 1 1] 81)).heap[W.heap.size]? = some (.cells #[.int .i64 a, .string s, .bool d] 29 (0, 0)) := blk_alloc (blk_new _ _) _
    have x2 : ((W.alloc (.cells #[.int .i64 a, .string s, .bool d] 29)).alloc (.cells #[.slice A l.length c, .slice (some ⟨W.heap.size, 0, none⟩) 1 1] 81)).heap[W.heap.size + 1]? = some (.cells #[.slice A l.length c, .slice (some ⟨W.heap.size, 0, none⟩) 1 1] 81 (0, 0)) := by
      have := blk_new (W.alloc (.cells #[.int .i64 a, .string s, .bool d] 29)) (.cells #[.slice A l.length c, .slice (some ⟨W.heap.size, 0, none⟩) 1 1] 81)
      simpa using this
    have hWw : Below w.heap.size w W := HBW.out.trans (hW.mono HBW.out.size)
    refine (concat_walk _ (W.heap.size + 1) A (some ⟨W.heap.size, 0, none⟩) c 1 l [⟨a, s, d⟩] ((blk_cell x2 0).trans rfl) ((blk_cell x2 1).trans rfl) (Kd.C_below (Kd.C_below HR.out hW) hb) (HHO.out _ _ x1) (by omega) (by simp) (by simp)).mono ?_
    rintro e w' ⟨u, rfl, hu, hb'⟩
    exact ⟨u, rfl, Kd.R_lower hu (by have := hb.size; have := hWw.size; omega), (hWw.trans (hb.mono hWw.size)).trans (hb'.mono (hWw.trans (hb.mono hWw.size)).size)⟩⟩
  go_enter Try.func84, Try.ntmps84
  go_wp2_with fail
  rw [← HW3.out]
  go_loopw [15] (fun i wr => ∃ k : Nat, k ≤ 2 ∧ i = .int .i64 (k : Int) ∧ Aside0 (Below w3.heap.size w3 wr)) (fun i _ => 2 - (intOf i).toNat)
  case atStart => exact ⟨0, by omega, rfl, ⟨Below.refl _ _⟩⟩
  case round =>
    obtain ⟨k, hk, rfl, HB⟩ := hrel
    have C2 := Aside0.mk (blk_below HB2.out HB.out)
    have q0 := blk_cell C2.out 0
    have q1 := blk_cell C2.out 1
    have HBX := Aside0.mk (blk_below HB0.out HB.out)
    match k, hk with
    | 0, _ =>
      go_wp2_with fail
      refine (check_walk wr A c l (Kd.C_below HR.out HB.out) HC.out HO.out.1).mono ?_
      rintro e w4 ⟨rfl, hb4⟩
      have HB4 : Aside0 (Below w3.heap.size w3 w4) := ⟨HB.out.trans (hb4.mono HB.out.size)⟩
      clear hb4
      go_wp2_with fail
      go_roundw
      case rel => exact ⟨1, by omega, by go_num, HB4⟩
      case measure => simp [intOf]
    | 1, _ =>
      go_wp2_with fail
      refine (check_walk wr (some ⟨w.heap.size + 1, 0, none⟩) 1 [⟨a, s, d⟩] (HHO.out wr _ (blk_below HB1.out HB.out)) (Nat.le_refl _) (chain_one HO.out.2)).mono ?_
      rintro e w4 ⟨rfl, hb4⟩
      have HB4 : Aside0 (Below w3.heap.size w3 w4) := ⟨HB.out.trans (hb4.mono HB.out.size)⟩
      clear hb4
      go_wp2_with fail
      go_roundw
      case rel => exact ⟨2, by omega, by go_num, HB4⟩
      case measure => simp [intOf]
    | 2, _ =>
      have z0 := blk_cell HBX.out 0
      have z1 := blk_cell HBX.out 1
      have z2 := blk_cell HBX.out 2
      by_cases hn : l = []
      · subst hn
        go_wp2_with fail
        go_quiet (fail)
        all_goals (try go_wp2_with fail)
        refine (HCC.out _ ?_).mono ?_
        · exact pw_below_drewN HB.out _
        rintro e w5 ⟨u, rfl, hu, hb5⟩
        have HU5 := Aside0.mk hu
        have HB5 := Aside0.mk hb5
        clear hu hb5
        go_wp2_with fail
        go_ret2
        exact ⟨_, rfl, HU5.out, HB5.out⟩
      · have hl0 : 0 < l.length := List.length_pos_iff.2 hn
        obtain ⟨ad, rfl, c0, c1, c2⟩ := at_T29 (Kd.C_below HR.out HB.out) ((l.length - 1 : Nat) : Int) (by omega) (by omega)
        rw [rdV_nat l _ (by omega), Int.toNat_natCast] at c0
        have hlast : lastV l = (l[l.length - 1]'(by omega)).f0 := by
          unfold lastV
          rw [List.getLast?_eq_getElem?, List.getElem?_eq_getElem (by omega)]
          rfl
        have hlt := HT.out
        rw [hlast] at hlt
        generalize (l[l.length - 1]'(by omega)).f0 = f at *
        have hle : decide (a ≤ f) = false := decide_eq_false (by omega)
        have hle2 : ¬ a ≤ f := by omega
        have hi1 : (l.length : Int) - 1 = ((l.length - 1 : Nat) : Int) := by omega
        clear c1 c2 hlast hn
        go_wp2_with fail
        go_quiet (fail)
        all_goals (try go_wp2_with fail)
        refine (HCC.out _ ?_).mono ?_
        · exact pw_below_drewN HB.out _
        rintro e w5 ⟨u, rfl, hu, hb5⟩
        have HU5 := Aside0.mk hu
        have HB5 := Aside0.mk hb5
        clear hu hb5
        go_wp2_with fail
        go_ret2
        exact ⟨_, rfl, HU5.out, HB5.out⟩
end Go.Proofs.Ytaldfbmjmpkmmaa.PL
namespace Go.Proofs.Ytaldfbmjmpkmmaa.PL
open Go.RowKit Go.Proofs.YtaldfbmjmpkmmaaW.PrintWords Go.Proofs.YtaldfbmjmpkmmaaW.PrintLast Go.Proofs.YtaldfbmjmpkmmaaW.PrintMore Go.Shelf Go.Maps Go.WideMaps Go.Proofs.Ytaldfbmjmpkmmaa.Mk
set_option linter.unusedVariables false
set_option linter.unusedSimpArgs false
set_option linter.unusedSectionVars false
theorem keyedS : Keyed Try.prog 9 := string_keyed Try.underlying9
theorem keyedI : Keyed Try.prog 3 := int_keyed Try.underlying3
def sk (k : Key) : Lit := .string k
def ik (t : Int) : Lit := .int .i64 t
theorem key_sk {s : ByteArray} (h : s.size ≤ maxLen) : keyOf Try.prog 9 (.string s) = some (sk (kb s)) := key_str Try.underlying9 h
theorem key_ik {t : Int} (h : -9223372036854775808 ≤ t ∧ t ≤ 9223372036854775807) : keyOf Try.prog 3 (.int .i64 t) = some (ik t) := keyOf_int_mk Try.underlying3 (WalkArith.wf_i64 (by omega))
/-- Rows of versions, of texts and of writes that are ok stay as they are. -/
def Still (ok : Nat → Prop) (w w1 : World) : Prop := ∀ g, ok g → ∀ q cells, (q = 29 ∨ q = 9 ∨ q = 56) → w.heap[g]? = some (.cells cells q (0, 0)) → w1.heap[g]? = w.heap[g]?
theorem Still.of_below {ok : Nat → Prop} {w w1 : World} (h : Below w.heap.size w w1) : Still ok w w1 := fun g _ q cells _ hc => h.block g (blk_lt hc)
theorem Still.of_grown {ok : Nat → Prop} {w w1 : World} {b : Nat} (h : w.grownBy w1 (some b)) (hb : ∀ q cells, (q = 29 ∨ q = 9 ∨ q = 56) → w.heap[b]? ≠ some (.cells cells q (0, 0))) : Still ok w w1 := fun g _ q cells hq hc =>
  h.block g (blk_lt hc) (fun e => hb q cells hq (by injection e with e; rw [← e]; exact hc))
theorem Still.trans {ok : Nat → Prop} {w w1 w2 : World} (h : Still ok w w1) (h2 : Still ok w1 w2) : Still ok w w2 := fun g hg q cells hq hc => by
  have e := h g hg q cells hq hc
  exact (h2 g hg q cells hq (e.trans hc)).trans e
section
variable {α : Type} {d : Kd α} {e base : Nat} {ok : Nat → Prop} {w w1 : World} {v : Value} {xs : List α}
theorem R_still (hE : ∀ q, q ∈ e :: d.E → (q = 29 ∨ q = 9 ∨ q = 56)) (h : d.R e w base ok v xs) (hs : Still ok w w1) : d.R e w1 base ok v xs :=
  Kd.R_mono (Kd.R_move (Kd.R_bound h) (fun k hk => by
    obtain ⟨h1, _, _, q, hq, cells, hc⟩ := hk
    exact hs k h1 q cells (hE q hq) hc)) (fun _ hk => hk.1)
theorem M_still (hE : ∀ q, q ∈ d.E → (q = 29 ∨ q = 9 ∨ q = 56)) {x : α} {cs : List Value} (h : d.M w base ok x cs) (hs : Still ok w w1) : d.M w1 base ok x cs :=
  d.M_mono (fun _ hk => hk.1) (d.M_move (fun k hk => by
    obtain ⟨h1, _, _, q, hq, cells, hc⟩ := hk
    exact hs k h1 q cells (hE q hq) hc) (d.M_bound h))
end
structure Parts (w : World) (ok : Nat → Prop) (b N : Nat) (s : Sh) (bk bp : Nat) (ve : Value) (fk fp : Lit → Option Value) : Prop where
  box : w.heap[b]? = some (.cells #[.map (some bk), .map (some bp), ve, .int .i64 s.over] 78 (0, 0))
  keys : MapL Try.prog 9 w bk N fk
  preps : MapL Try.prog 3 w bp N fp
  ends : kEnd.R 96 w 0 ok ve s.E
  kf : ∀ q v, fk q = some v → ∃ k, q = sk k ∧ k ∈ keysK s.K ∧ Kd.R k29 29 w 0 ok v (look s.K k)
  kt : ∀ k, k ∈ keysK s.K → (fk (sk k)).isSome = true
  pf : ∀ q v, fp q = some v → ∃ r, r ∈ s.P ∧ q = ik r.f1 ∧ ∃ cs, v = .agg cs.toArray ∧ k35.M w 0 ok r cs
  pt : ∀ r, r ∈ s.P → (fp (ik r.f1)).isSome = true
  okb : ok b
  okk : ok bk
  okp : ok bp
  ne : bk ≠ bp
  good : ShOk s
/-- A shelf in memory: its blocks are ok. -/
def ShAt (w : World) (ok : Nat → Prop) (b N : Nat) (s : Sh) : Prop := ∃ bk bp ve fk fp, Parts w ok b N s bk bp ve fk fp
/-- Nothing has changed but what is ok. -/
structure Chg (ok : Nat → Prop) (w w' : World) : Prop where
  os : w'.os = w.os
  tape : w'.tape = w.tape
  output : w'.output = w.output
  size : w.heap.size ≤ w'.heap.size
  block : ∀ g, g < w.heap.size → ¬ ok g → w'.heap[g]? = w.heap[g]?
section
variable {ok : Nat → Prop} {w w' w1 : World} {b N : Nat} {s : Sh} {bk bp : Nat} {ve : Value} {fk fp : Lit → Option Value}
theorem Chg.of_below (h : Below w.heap.size w w') : Chg ok w w' := ⟨h.os, h.tape, h.output, h.size, fun g hg _ => h.block g hg⟩
theorem Chg.of_grown {r : Nat} (h : w.grownBy w' (some r)) (hr : ok r) : Chg ok w w' := ⟨h.os, h.tape, h.output, h.size, fun g hg hn => h.block g hg (fun e => hn (by injection e with e; rw [e]; exact hr))⟩
theorem Chg.trans (h : Chg ok w w') (h2 : Chg ok w' w1) : Chg ok w w1 := ⟨h2.os.trans h.os, h2.tape.trans h.tape, h2.output.trans h.output, Nat.le_trans h.size h2.size, fun g hg hn => (h2.block g (Nat.lt_of_lt_of_le hg h.size) hn).trans (h.block g hg hn)⟩
theorem Chg.below {w0 : World} {n : Nat} (h : Chg ok w w') (hb : Below n w0 w) (hn : n ≤ w.heap.size) (hok : ∀ g, ok g → n ≤ g) : Below n w0 w' :=
  ⟨h.os.trans hb.os, h.tape.trans hb.tape, h.output.trans hb.output, Nat.le_trans hb.size h.size, fun g hg => (h.block g (by omega) (fun h => by have := hok g h; omega)).trans (hb.block g hg)⟩
theorem Parts.below (h : Parts w ok b N s bk bp ve fk fp) (hb : Below w.heap.size w w') : Parts w' ok b N s bk bp ve fk fp :=
  ⟨blk_below h.box hb, h.keys.below hb, h.preps.below hb, Kd.R_below h.ends hb, fun q v hq => by
    obtain ⟨k, h1, h2, h3⟩ := h.kf q v hq
    exact ⟨k, h1, h2, Kd.R_below h3 hb⟩, h.kt, fun q v hq => by
    obtain ⟨r, h1, h2, cs, h3, h4⟩ := h.pf q v hq
    exact ⟨r, h1, h2, cs, h3, Kd.M_below h4 hb⟩, h.pt, h.okb, h.okk, h.okp, h.ne, h.good⟩
theorem ShAt.below (h : ShAt w ok b N s) (hb : Below w.heap.size w w') : ShAt w' ok b N s := by
  obtain ⟨bk, bp, ve, fk, fp, hp⟩ := h
  exact ⟨bk, bp, ve, fk, fp, hp.below hb⟩
theorem Parts.cells (h : Parts w ok b N s bk bp ve fk fp) : w.cell? ⟨b, 0, none⟩ = some (.map (some bk)) ∧ w.cell? ⟨b, 1, none⟩ = some (.map (some bp)) ∧ w.cell? ⟨b, 2, none⟩ = some ve ∧ w.cell? ⟨b, 3, none⟩ = some (.int .i64 s.over) :=
  ⟨(blk_cell h.box 0).trans rfl, (blk_cell h.box 1).trans rfl, (blk_cell h.box 2).trans rfl, (blk_cell h.box 3).trans rfl⟩
theorem zeroC (w : World) : (zeroValue 81).run Try.prog w = .ok (.slice none 0 0) w := by kernel_rfl
theorem zeroR (w : World) : (zeroValue 35).run Try.prog w = .ok (.agg #[.int .i64 0, .int .i64 0, .int .i64 0, .int .i64 0, .string ⟨#[]⟩, .string ⟨#[]⟩, .bool false, .slice none 0 0, .slice none 0 0]) w := by kernel_rfl
/-- A key's chain, as a look-up gives it. -/
theorem Parts.chain (h : Parts w ok b N s bk bp ve fk fp) (k : Key) : ∃ A c, (fk (sk k)).getD (.slice none 0 0) = .slice A (look s.K k).length c ∧ (look s.K k).length ≤ c ∧ Kd.C k29 w A (look s.K k).length (look s.K k) := by
  cases hf : fk (sk k) with
  | none =>
    have hk : k ∉ keysK s.K := fun hk => by
      have := h.kt k hk
      rw [hf] at this
      cases this
    rw [look_none hk]
    exact ⟨none, 0, rfl, Nat.le_refl _, Kd.C_nil _ _⟩
  | some v =>
    obtain ⟨k', h1, h2, h3⟩ := h.kf _ v hf
    have : k = k' := by
      unfold sk at h1
      injection h1
    subst this
    obtain ⟨A, c, e, hl, hc⟩ := Kd.R_reads h3
    exact ⟨A, c, e, hl, hc⟩
theorem Parts.chain_some (h : Parts w ok b N s bk bp ve fk fp) (k : Key) : (fk (sk k)).isSome = !(look s.K k).isEmpty := by
  cases hf : fk (sk k) with
  | none =>
    have hk : k ∉ keysK s.K := fun hk => by
      have := h.kt k hk
      rw [hf] at this
      cases this
    rw [look_none hk]
    rfl
  | some v =>
    obtain ⟨k', h1, h2, h3⟩ := h.kf _ v hf
    have : k = k' := by
      unfold sk at h1
      injection h1
    subst this
    have hne : look s.K k ≠ [] := fun e => (h.good.keys.iff k).1 e h2
    have : (look s.K k).isEmpty = false := by simpa using hne
    rw [this]
    rfl
theorem Parts.keys_iff (h : Parts w ok b N s bk bp ve fk fp) (q : Lit) : (fk q).isSome = true ↔ q ∈ (keysK s.K).map sk := by
  constructor
  · intro hq
    obtain ⟨v, hv⟩ := Option.isSome_iff_exists.1 hq
    obtain ⟨k, rfl, hk, _⟩ := h.kf q v hv
    exact List.mem_map.2 ⟨k, hk, rfl⟩
  · intro hq
    obtain ⟨k, hk, rfl⟩ := List.mem_map.1 hq
    exact h.kt k hk
theorem Parts.keys_nodup (h : Parts w ok b N s bk bp ve fk fp) : ((keysK s.K).map sk).Nodup :=
  List.pairwise_map.2 (h.good.keys.rise.imp (fun {a b} hab (e : Lit.string a = Lit.string b) => kl_ne hab (Lit.string.inj e)))
theorem Parts.preps_iff (h : Parts w ok b N s bk bp ve fk fp) (q : Lit) : (fp q).isSome = true ↔ q ∈ s.P.map (fun r => ik r.f1) := by
  constructor
  · intro hq
    obtain ⟨v, hv⟩ := Option.isSome_iff_exists.1 hq
    obtain ⟨r, hr, rfl, _⟩ := h.pf q v hv
    exact List.mem_map.2 ⟨r, hr, rfl⟩
  · intro hq
    obtain ⟨r, hr, rfl⟩ := List.mem_map.1 hq
    exact h.pt r hr
theorem Parts.preps_nodup (h : Parts w ok b N s bk bp ve fk fp) : (s.P.map (fun r => ik r.f1)).Nodup :=
  List.pairwise_map.2 (h.good.rise.imp (fun {a b} (hab : a.f1 < b.f1) (e : Lit.int .i64 a.f1 = Lit.int .i64 b.f1) => by injection e with _ e; omega))
theorem Parts.prep_some (h : Parts w ok b N s bk bp ve fk fp) (t : Int) : (fp (ik t)).isSome = s.P.any (fun r => decide (r.f1 = t)) := by
  rw [Bool.eq_iff_iff, h.preps_iff, List.mem_map, List.any_eq_true]
  constructor
  · rintro ⟨r, hr, e⟩
    exact ⟨r, hr, decide_eq_true (by unfold ik at e; injection e)⟩
  · rintro ⟨r, hr, e⟩
    exact ⟨r, hr, by rw [of_decide_eq_true e]⟩
end
end Go.Proofs.Ytaldfbmjmpkmmaa.PL
namespace Go.Proofs.Ytaldfbmjmpkmmaa.PL
open Go.RowKit Go.Proofs.YtaldfbmjmpkmmaaW.PrintWords Go.Proofs.YtaldfbmjmpkmmaaW.PrintLast Go.Proofs.YtaldfbmjmpkmmaaW.PrintMore Go.Shelf Go.Maps Go.WideMaps Go.Proofs.Ytaldfbmjmpkmmaa.Mk
set_option linter.unusedVariables false
set_option linter.unusedSimpArgs false
set_option linter.unusedSectionVars false
theorem kb_beq (a b : ByteArray) : (a.toList == b.toList) = (kb a == kb b) := by rw [kb_toList, kb_toList]
set_option maxRecDepth 100000 in
theorem lastS_walk {w : World} {ok : Nat → Prop} {b N : Nat} {s : Sh} (h : ShAt w ok b N s) (k : ByteArray) (hk : k.size ≤ maxLen) :
    Calls Try.prog 43 #[.pointer (some ⟨b, 0, none⟩), .string k] w fun e w' => e = .returned (.int .i64 (lastV (look s.K (kb k)))) ∧ Below w.heap.size w w' := by
  obtain ⟨bk, bp, ve, fk, fp, hp⟩ := h
  obtain ⟨A, c, hv, hl, hC⟩ := hp.chain (kb k)
  obtain ⟨c0, c1, c2, c3⟩ := hp.cells
  have HL := Aside0.mk (last_walk w A c (look s.K (kb k)) hC hl (hp.good.keys.look _))
  have HV := Aside0.mk hv
  have HK := Aside0.mk hp.keys
  have HS := Aside0.mk hk
  clear hp hv hC
  generalize lastV (look s.K (kb k)) = r at *
  generalize (look s.K (kb k)) = l at *
  go_enter Try.func43, Try.ntmps43
  go_wp2_with (at_lookup; refine MapL.at_ HK.out keyedS rfl _ _ 74 81 rfl Try.underlying74 (zeroC _) rfl rfl (key_sk HS.out) ?_; rw [HV.out])
  refine HL.out.mono ?_
  rintro e w1 ⟨rfl, hb⟩
  have HB := Aside0.mk hb
  clear hb
  go_wp2_with fail
  go_ret
  exact ⟨rfl, HB.out⟩
set_option maxRecDepth 100000 in
theorem writes1_walk (W : World) (bx : Nat) (key : ByteArray) (hx : W.cell? ⟨bx, 0, none⟩ = some (.string key)) (x : Wr) :
    Calls Try.prog 108 (#[.agg #[.string x.f0, .string x.f1, .bool x.f2]] ++ #[.pointer (some ⟨bx, 0, none⟩)]) W fun e W' => e = .returned (.bool (kb x.f0 == kb key)) ∧ Below W.heap.size W W' := by
  rw [← kb_beq]
  have hlt := World.block_lt_of_cell? W _ hx
  have hne : bx ≠ W.heap.size := by simp only at hlt; omega
  show Calls Try.prog 108 #[.agg #[.string x.f0, .string x.f1, .bool x.f2], .pointer (some ⟨bx, 0, none⟩)] W _
  obtain ⟨a, s, d⟩ := x
  simp only
  have hx2 : (W.alloc (.cells #[.string a, .string s, .bool d] 56)).cell? ⟨bx, 0, none⟩ = some (.string key) := pw_cell_below (below_alloc (Below.refl _ W) _) hx
  go_enter Try.func108, Try.ntmps108
  go_wp2
  go_ret
  exact ⟨rfl, below_alloc (Below.refl _ W) _⟩
theorem contains_enough {α : Type} {w : World} {g : Nat} {cap : Array Value} {enc : α → Value} {xs : List α} {p : α → Bool} (h : ∀ W : World, Below w.heap.size w W → ∀ x, Calls Try.prog g (#[enc x] ++ cap) W fun e W' => e = .returned (.bool (p x)) ∧ Below W.heap.size W W') : TellsG w g cap enc xs p := fun W hW x _ => h W hW x
set_option maxRecDepth 100000 in
/-- shelf.writes. -/
theorem writes_walk (w : World) (r : Rec) (cs : List Value) (hr : k35.K w r cs) (key : ByteArray) :
    Calls Try.prog 67 #[.agg cs.toArray, .string key] w fun e w' => e = .returned (.bool (wrote r (kb key))) ∧ Below w.heap.size w w' := by
  obtain ⟨A7, c7, A8, c8, rfl, h1, h2, h3, h4⟩ := k35_open hr
  obtain ⟨w2, hw2⟩ : ∃ w2, w2 = (w.alloc (.cells #[.int .i64 r.f0, .int .i64 r.f1, .int .i64 r.f2, .int .i64 r.f3, .string r.f4, .string r.f5, .bool r.f6, .slice A7 r.f7.length c7, .slice A8 r.f8.length c8] 35)).alloc (.cells #[.string key] 9) := ⟨_, rfl⟩
  have hB : Below w.heap.size w w2 := by rw [hw2]; exact below_alloc (below_alloc (Below.refl _ w) _) _
  have b1 : w2.heap[w.heap.size + 1]? = some (.cells #[.string key] 9 (0, 0)) := by
    rw [hw2]
    have := blk_new (w.alloc (.cells #[.int .i64 r.f0, .int .i64 r.f1, .int .i64 r.f2, .int .i64 r.f3, .string r.f4, .string r.f5, .bool r.f6, .slice A7 r.f7.length c7, .slice A8 r.f8.length c8] 35)) (.cells #[.string key] 9)
    simpa using this
  have hcon := contains_wrW w2 A8 c8 r.f8 (.pointer (some ⟨w.heap.size + 1, 0, none⟩)) (fun x => kb x.f0 == kb key) (Kd.C_below h4 hB) (contains_enough fun W hW x => writes1_walk W _ key (by rw [blk_cell (blk_below b1 hW) 0]; rfl) x)
  have HC := Aside0.mk hcon
  have HW := Aside0.mk hw2
  have HB := Aside0.mk hB
  have HV : Aside0 (wrote r (kb key) = r.f8.any fun x => kb x.f0 == kb key) := ⟨rfl⟩
  clear hcon hw2 hB b1 h1 h2 h3 h4 hr
  generalize wrote r (kb key) = q at *
  rw [← HV.out] at HC
  go_enter Try.func67, Try.ntmps67
  go_wp2_with fail
  rw [← HW.out]
  refine HC.out.mono ?_
  rintro e w1 ⟨rfl, hb⟩
  have HB1 : Aside0 (Below w.heap.size w w1) := ⟨HB.out.trans (hb.mono HB.out.size)⟩
  clear hb
  go_wp2_with fail
  go_ret
  exact ⟨rfl, HB1.out⟩
end Go.Proofs.Ytaldfbmjmpkmmaa.PL
namespace Go.Proofs.Ytaldfbmjmpkmmaa.PL
open Go.RowKit Go.Proofs.YtaldfbmjmpkmmaaW.PrintWords Go.Proofs.YtaldfbmjmpkmmaaW.PrintLast Go.Proofs.YtaldfbmjmpkmmaaW.PrintMore Go.Shelf Go.Maps Go.WideMaps Go.Proofs.Ytaldfbmjmpkmmaa.Mk
set_option linter.unusedVariables false
set_option linter.unusedSimpArgs false
set_option linter.unusedSectionVars false
set_option maxRecDepth 100000 in
set_option maxHeartbeats 2000000 in
theorem indexS_walk (w : World) (A : Option Addr) (c : Nat) (xs : List ByteArray) (v : ByteArray) (hr : Kd.C Kd.string w A xs.length xs) :
    Calls Try.prog 109 #[.slice A xs.length c, .string v] w fun e w' => e = .returned (.int .i64 (firstG (fun x => kb v == kb x) xs 0)) ∧ Below w.heap.size w w' := by
  have HR := Aside0.mk hr
  have hmax := Kd.C_max hr
  clear hr
  obtain ⟨p, hp⟩ : ∃ p, p = (fun x => kb v == kb x) := ⟨_, rfl⟩
  rw [← hp]
  have HP := Aside0.mk hp
  clear hp
  go_enter Try.func109, Try.ntmps109
  go_wp2
  go_loopw [8] (fun i wr => ∃ k : Nat, k ≤ xs.length ∧ i = .int .i64 k ∧ Aside0 (firstG p xs 0 = firstG p (xs.drop k) k) ∧ Aside0 (Below w.heap.size w wr))
    (fun i _ => xs.length - (intOf i).toNat)
  case atStart => exact ⟨0, Nat.zero_le _, rfl, ⟨rfl⟩, ⟨Below.refl _ _⟩⟩
  case round =>
    obtain ⟨k, hk, rfl, HF, HB⟩ := hrel
    by_cases hlt : k < xs.length
    · obtain ⟨ad, cs, rfl, hlen, hK, hc0⟩ := Kd.C_get (Kd.C_below HR.out HB.out) (⟨#[]⟩ : ByteArray) (k : Int) (by omega) (by omega)
      rw [Int.toNat_natCast] at hK hc0
      have hc : ∀ j u, cs[j]? = some u → wr.cell? (ad.add (k * 1 + j)) = some u := hc0
      obtain rfl := strK_open hK
      have hc0' : wr.cell? (ad.add k) = some (.string (xs.getD k (⟨#[]⟩ : ByteArray))) := by have := hc 0 _ rfl; simpa using this
      have hdrop : xs.drop k = xs.getD k (⟨#[]⟩ : ByteArray) :: xs.drop (k + 1) := by
        rw [List.drop_eq_getElem_cons hlt]; simp [List.getElem?_eq_getElem hlt]
      have HF2 := HF.out
      rw [hdrop] at HF2
      generalize hx : xs.getD k (⟨#[]⟩ : ByteArray) = x at *
      have HF3 := Aside0.mk HF2
      have hpx : (v.toList == x.toList) = p x := by rw [kb_beq, HP.out]
      clear hdrop hx HF2 HF hK hc0 hc hlen
      cases hq : p x with
      | true =>
        have HV : Aside0 (firstG p xs 0 = (k : Int)) := ⟨by rw [HF3.out]; unfold firstG; rw [hq]; rfl⟩
        rw [hq] at hpx
        clear hq
        go_wp2_with fail
        go_ret
        exact ⟨by rw [HV.out]; rfl, HB.out⟩
      | false =>
        have HV : Aside0 (firstG p xs 0 = firstG p (xs.drop (k + 1)) ((k + 1 : Nat) : Int)) := ⟨by
          rw [HF3.out]
          show (if p x = true then (k : Int) else firstG p (xs.drop (k + 1)) ((k : Int) + 1)) = _
          rw [hq]; simp⟩
        rw [hq] at hpx
        clear hq
        go_wp2_with fail
        go_roundw
        case rel => exact ⟨k + 1, by omega, by go_num, HV, HB⟩
        case measure => simp [intOf]; omega
    · obtain rfl : k = xs.length := by omega
      have HV : Aside0 (firstG p xs 0 = -1) := ⟨by rw [HF.out, List.drop_of_length_le (Nat.le_refl _)]; rfl⟩
      go_wp2
      go_ret
      exact ⟨by rw [HV.out]; rfl, HB.out⟩
set_option maxRecDepth 100000 in
theorem containsS_walk (w : World) (A : Option Addr) (c : Nat) (xs : List ByteArray) (v : ByteArray) (hr : Kd.C Kd.string w A xs.length xs) :
    Calls Try.prog 68 #[.slice A xs.length c, .string v] w fun e w' => e = .returned (.bool (xs.any fun x => kb x == kb v)) ∧ Below w.heap.size w w' := by
  have hc := indexS_walk w A c xs v hr
  have hge := firstG_ge (fun x => kb v == kb x) xs 0 (by omega)
  have hval : decide (firstG (fun x => kb v == kb x) xs 0 ≥ 0) = xs.any fun x => kb x == kb v := by
    rw [show (fun x => kb x == kb v) = (fun x => kb v == kb x) from funext fun x => BEq.comm]
    rw [Bool.eq_iff_iff, decide_eq_true_iff]
    exact hge
  generalize firstG (fun x => kb v == kb x) xs 0 = n at hc hval
  have HC := Aside0.mk hc
  have HV := Aside0.mk hval
  clear hc hge hval hr
  generalize (xs.any fun x => kb x == kb v) = q at *
  go_enter Try.func68, Try.ntmps68
  go_wp2_with fail
  refine HC.out.mono ?_
  rintro e w1 ⟨rfl, hb1⟩
  have HB := Aside0.mk hb1
  clear hb1
  go_wp2_with fail
  go_ret
  exact ⟨by rw [← HV.out]; rfl, HB.out⟩
theorem sameKey_ik (a b : Int) : (ik a).sameKey (ik b) = decide (a = b) := by
  unfold ik
  by_cases e : a = b
  · subst e
    simp [Lit.sameKey]
  · rw [sameKey_ne (fun h => e (by injection h))]
    simp [e]
theorem prep_one {P : List Rec} (h : P.Pairwise (fun a b => a.f1 < b.f1)) {a b : Rec} (ha : a ∈ P) (hb : b ∈ P) (e : a.f1 = b.f1) : a = b := by
  induction P with
  | nil => simp at ha
  | cons x r ih =>
    obtain ⟨h1, h2⟩ := List.pairwise_cons.1 h
    rcases List.mem_cons.1 ha with ea | ha'
    · rcases List.mem_cons.1 hb with eb | hb'
      · rw [ea, eb]
      · have := h1 b hb'
        rw [ea] at e
        omega
    · rcases List.mem_cons.1 hb with eb | hb'
      · have := h1 a ha'
        rw [eb] at e
        omega
      · exact ih h2 ha' hb'
set_option maxRecDepth 100000 in
set_option maxHeartbeats 4000000 in
/-- Held. -/
theorem held_walk {w : World} {ok : Nat → Prop} {b N : Nat} {s : Sh} (h : ShAt w ok b N s) (key : ByteArray) (wt : Bool) :
    Calls Try.prog 31 #[.pointer (some ⟨b, 0, none⟩), .string key, .bool wt] w fun e w' => e = .returned (.bool (heldV s (kb key) wt)) ∧ Below w.heap.size w w' := by
  obtain ⟨bk, bp, ve, fk, fp, hp⟩ := h
  obtain ⟨c0, c1, c2, c3⟩ := hp.cells
  have HP := Aside0.mk hp
  clear hp
  go_enter Try.func31, Try.ntmps31
  go_wp2_with (at_range; refine MapL.range HP.out.preps keyedI rfl _ 75 35 rfl Try.underlying75 rfl ?_; intro w1 cnt0 hrg0 hb0 hsz0)
  go_frame
  have HRG0 := Aside0.mk hrg0
  have HB0 := Aside0.mk hb0
  clear hrg0 hb0 hsz0
  go_loopw [8] (fun _ wz => ∃ left cnt, Aside0 (RangeL Try.prog 3 wz bp w.heap.size N fp left cnt) ∧ Aside0 (∀ r, r ∈ s.P → left (ik r.f1) = false → heldR r (kb key) wt = false) ∧ Aside0 (Below w.heap.size w wz))
    (fun _ wz => wz.rangeLeft bp w.heap.size)
  case atStart => exact ⟨_, _, HRG0, ⟨fun r hr hl => by rw [HP.out.pt r hr] at hl; cases hl⟩, HB0⟩
  case round =>
    clear HRG0 HB0
    obtain ⟨left, cnt, HRG, HD, HB⟩ := hrel
    go_wp2_with (at_next; refine RangeL.next HRG.out keyedI rfl _ rfl rfl ?_ ?_)
    · intro _ hl0
      have hv : Aside0 (heldV s (kb key) wt = false) := ⟨by
        unfold heldV
        rw [List.any_eq_false]
        intro r hr
        rw [HD.out r hr (hl0 _)]
        simp⟩
      clear hl0
      go_wp2
      go_ret
      exact ⟨by rw [hv.out]; rfl, HB.out⟩
    · intro k q v w2 cnt2 hkey hlq hfv hrg2 hlt hg2 hs2 hen
      have HB2 : Aside0 (Below w.heap.size w w2) := ⟨⟨hg2.os.trans HB.out.os, hg2.tape.trans HB.out.tape, hg2.output.trans HB.out.output, Nat.le_trans HB.out.size hg2.size, fun i hi => (hg2.block i (Nat.lt_of_lt_of_le hi HB.out.size) (fun e => by injection e with e; omega)).trans (HB.out.block i hi)⟩⟩
      obtain ⟨r, hr, hq, cs, hv, hM⟩ := (HP.out.below HB2.out).pf q v hfv
      have hK := k35.K_of_M hM
      obtain ⟨A7, c7, A8, c8, hcs, h1, h2, h3, h4⟩ := k35_open hK
      subst hcs
      subst hv
      subst hq
      have HRG2 := Aside0.mk hrg2
      have HLT := Aside0.mk hlt
      have HRR := Aside0.mk hr
      have HKR := Aside0.mk hK
      have HC7 := Aside0.mk h2
      have HLE := Aside0.mk HRG.out.left_eq
      clear hkey hlq hfv hrg2 hlt hg2 hs2 hM hK h1 h2 h3 h4 hr
      have HLN : Aside0 (∀ r', r' ∈ s.P → (left (ik r'.f1) && !(ik r'.f1).sameKey (ik r.f1)) = false → heldR r (kb key) wt = false → heldR r' (kb key) wt = false) := ⟨fun r' hr' hl hf => by
        cases hl2 : left (ik r'.f1) with
        | false => exact HD.out r' hr' hl2
        | true =>
          rw [hl2, sameKey_ik] at hl
          have : r'.f1 = r.f1 := by simpa using hl
          rw [prep_one HP.out.good.rise hr' HRR.out this]
          exact hf⟩
      have HYES : Aside0 (heldR r (kb key) wt = true → heldV s (kb key) wt = true) := ⟨fun hf => List.any_eq_true.2 ⟨r, HRR.out, hf⟩⟩
      have HHR : Aside0 (heldR r (kb key) wt = (wrote r (kb key) || (wt && watches r (kb key)))) := ⟨rfl⟩
      have HWT : Aside0 (watches r (kb key) = r.f7.any fun q => kb q == kb key) := ⟨rfl⟩
      have hbx := blk_new w2 (.cells #[.int .i64 r.f0, .int .i64 r.f1, .int .i64 r.f2, .int .i64 r.f3, .string r.f4, .string r.f5, .bool r.f6, .slice A7 r.f7.length c7, .slice A8 r.f8.length c8] 35)
      have hbb := below_alloc (Below.refl _ w2) (.cells #[.int .i64 r.f0, .int .i64 r.f1, .int .i64 r.f2, .int .i64 r.f3, .string r.f4, .string r.f5, .bool r.f6, .slice A7 r.f7.length c7, .slice A8 r.f8.length c8] 35)
      have HWW := Aside0.mk (writes_walk _ r _ (k35.K_below hbb HKR.out) key)
      have HBX := Aside0.mk hbx
      have HBB := Aside0.mk hbb
      clear hbx hbb
      generalize wrote r (kb key) = b1 at *
      generalize heldR r (kb key) wt = hR at *
      go_wp2_with fail
      refine HWW.out.mono ?_
      rintro e w4 ⟨rfl, hb4⟩
      have HB24 : Aside0 (Below w2.heap.size w2 w4) := ⟨HBB.out.trans (hb4.mono HBB.out.size)⟩
      have HB4 : Aside0 (Below w.heap.size w w4) := ⟨HB2.out.trans (HB24.out.mono HB2.out.size)⟩
      have HR4 := Aside0.mk (HRG2.out.below HB24.out)
      have BX4 := Aside0.mk (blk_below HBX.out hb4)
      have HC4 := Aside0.mk (k35_open (k35.K_below HB24.out HKR.out))
      clear hb4 HWW HBX HBB HRG2 HB24
      have y7 := blk_cell BX4.out 7
      cases b1 with
      | true =>
        have HV : Aside0 (heldV s (kb key) wt = true) := ⟨HYES.out (by rw [HHR.out]; rfl)⟩
        go_wp2_with fail
        go_ret
        exact ⟨by rw [HV.out]; rfl, HB4.out⟩
      | false =>
        cases wt with
        | false =>
          have HF : Aside0 (hR = false) := ⟨by rw [HHR.out]; rfl⟩
          go_wp2_with fail
          go_roundw
          case rel => exact ⟨_, _, HR4, ⟨fun r' h1 h2 => HLN.out r' h1 h2 HF.out⟩, HB4⟩
          case measure => rw [HR4.out.left_eq, HLE.out]; exact HLT.out
        | true =>
          have hc7 : Aside0 (∃ A c, (Value.slice A7 r.f7.length c7 = .slice A r.f7.length c) ∧ r.f7.length ≤ c ∧ Kd.string.C w4 A r.f7.length r.f7) := ⟨by
            obtain ⟨B7, d7, B8, d8, e, q1, q2, q3, q4⟩ := HC4.out
            injection e with _ e
            injection e with _ e
            injection e with _ e
            injection e with _ e
            injection e with _ e
            injection e with _ e
            injection e with _ e
            injection e with e7 e
            exact ⟨B7, d7, e7, q1, q2⟩⟩
          obtain ⟨B7, d7, e7, q1, q2⟩ := hc7.out
          injection e7 with e71 e72 e73
          subst e71 e73
          have HCS := Aside0.mk (containsS_walk w4 A7 c7 r.f7 key q2)
          rw [← HWT.out] at HCS
          clear q1 q2
          go_wp2_with fail
          refine HCS.out.mono ?_
          rintro e w5 ⟨rfl, hb5⟩
          have HB5 : Aside0 (Below w.heap.size w w5) := ⟨HB4.out.trans (hb5.mono HB4.out.size)⟩
          have HR5 := Aside0.mk (HR4.out.below hb5)
          clear hb5
          generalize watches r (kb key) = b2 at *
          cases b2 with
          | true =>
            have HV : Aside0 (heldV s (kb key) true = true) := ⟨HYES.out (by rw [HHR.out]; rfl)⟩
            go_wp2_with fail
            go_ret
            exact ⟨by rw [HV.out]; rfl, HB5.out⟩
          | false =>
            have HF : Aside0 (hR = false) := ⟨by rw [HHR.out]; rfl⟩
            go_wp2_with fail
            go_roundw
            case rel => exact ⟨_, _, HR5, ⟨fun r' h1 h2 => HLN.out r' h1 h2 HF.out⟩, HB5⟩
            case measure => rw [HR5.out.left_eq, HLE.out]; exact HLT.out
end Go.Proofs.Ytaldfbmjmpkmmaa.PL
namespace Go.Proofs.Ytaldfbmjmpkmmaa.PL
open Go.RowKit Go.Proofs.YtaldfbmjmpkmmaaW.PrintWords Go.Proofs.YtaldfbmjmpkmmaaW.PrintLast Go.Proofs.YtaldfbmjmpkmmaaW.PrintMore Go.Shelf Go.Maps Go.WideMaps Go.Proofs.Ytaldfbmjmpkmmaa.Mk
set_option linter.unusedVariables false
set_option linter.unusedSimpArgs false
set_option linter.unusedSectionVars false
set_option maxRecDepth 100000 in
theorem state1_walk (W : World) (bx : Nat) (t : Int) (hx : W.cell? ⟨bx, 0, none⟩ = some (.int .i64 t)) (x : Int × Int) :
    Calls Try.prog 70 (#[.agg #[.int .i64 x.1, .int .i64 x.2]] ++ #[.pointer (some ⟨bx, 0, none⟩)]) W fun e W' => e = .returned (.bool (decide (x.1 = t))) ∧ Below W.heap.size W W' := by
  have hlt := World.block_lt_of_cell? W _ hx
  have hne : bx ≠ W.heap.size := by simp only at hlt; omega
  show Calls Try.prog 70 #[.agg #[.int .i64 x.1, .int .i64 x.2], .pointer (some ⟨bx, 0, none⟩)] W _
  obtain ⟨a, d⟩ := x
  simp only
  have hx2 : (W.alloc (.cells #[.int .i64 a, .int .i64 d] 96)).cell? ⟨bx, 0, none⟩ = some (.int .i64 t) := pw_cell_below (below_alloc (Below.refl _ W) _) hx
  have HV : Aside0 ((a == t) = decide (a = t)) := ⟨rfl⟩
  go_enter Try.func70, Try.ntmps70
  go_wp2
  go_ret
  exact ⟨by rw [← HV.out]; rfl, below_alloc (Below.refl _ W) _⟩
theorem firstG_find {α : Type} (p : α → Bool) : ∀ (l : List α) (i : Int), (firstG p l i = -1 ∧ l.find? p = none) ∨ ∃ k e, k < l.length ∧ l[k]? = some e ∧ firstG p l i = i + (k : Int) ∧ l.find? p = some e
  | [], i => .inl ⟨rfl, rfl⟩
  | x :: r, i => by
    unfold firstG
    rw [List.find?_cons]
    cases hx : p x with
    | true => exact .inr ⟨0, x, by simp, rfl, by simp, rfl⟩
    | false =>
      rcases firstG_find p r (i + 1) with ⟨h1, h2⟩ | ⟨k, e, hk, he, h1, h2⟩
      · exact .inl ⟨by simpa using h1, by simpa using h2⟩
      · refine .inr ⟨k + 1, e, by simpa using hk, by simpa using he, ?_, by simpa using h2⟩
        simp only [Bool.false_eq_true, if_false]
        rw [h1]
        omega
/-- A prepared record, as a look-up gives it. -/
theorem Parts.prep_val {w : World} {ok : Nat → Prop} {b N : Nat} {s : Sh} {bk bp : Nat} {ve : Value} {fk fp : Lit → Option Value} (h : Parts w ok b N s bk bp ve fk fp) (t : Int) : ∃ a0 a1 a2 a3 a4 a5 a6 A7 n7 c7 A8 n8 c8,
    (fp (ik t)).getD (.agg #[.int .i64 0, .int .i64 0, .int .i64 0, .int .i64 0, .string ⟨#[]⟩, .string ⟨#[]⟩, .bool false, .slice none 0 0, .slice none 0 0]) = .agg #[.int .i64 a0, .int .i64 a1, .int .i64 a2, .int .i64 a3, .string a4, .string a5, .bool a6, .slice A7 n7 c7, .slice A8 n8 c8] := by
  cases hf : fp (ik t) with
  | none => exact ⟨0, 0, 0, 0, ⟨#[]⟩, ⟨#[]⟩, false, none, 0, 0, none, 0, 0, rfl⟩
  | some v =>
    obtain ⟨r, _, _, cs, rfl, hM⟩ := h.pf _ v hf
    obtain ⟨A7, c7, A8, c8, rfl, _⟩ := k35_open (k35.K_of_M hM)
    exact ⟨_, _, _, _, _, _, _, _, _, _, _, _, _, rfl⟩
set_option maxRecDepth 100000 in
set_option maxHeartbeats 4000000 in
theorem state_walk {w : World} {ok : Nat → Prop} {b N : Nat} {s : Sh} (h : ShAt w ok b N s) (t : Int) (ht : -9223372036854775808 ≤ t ∧ t ≤ 9223372036854775807) :
    Calls Try.prog 33 #[.pointer (some ⟨b, 0, none⟩), .int .i64 t] w fun e w' => e = .returned (.tuple #[.int .i64 (stateV s t).1, .int .i64 (stateV s t).2]) ∧ Below w.heap.size w w' := by
  obtain ⟨bk, bp, ve, fk, fp, hp⟩ := h
  have hb0 := below_alloc (Below.refl _ w) (.cells #[.int .i64 t] 3)
  have hbx := blk_new w (.cells #[.int .i64 t] 3)
  have HP := Aside0.mk (hp.below hb0)
  have HS := Aside0.mk (hp.prep_some t)
  have HT := Aside0.mk ht
  obtain ⟨a0, a1, a2, a3, a4, a5, a6, A7, n7, c7, A8, n8, c8, hval⟩ := hp.prep_val t
  have HV := Aside0.mk hval
  clear hval hp
  obtain ⟨c0, c1, c2, c3⟩ := HP.out.cells
  obtain ⟨w1, hw1⟩ : ∃ w1, w1 = w.alloc (.cells #[.int .i64 t] 3) := ⟨_, rfl⟩
  have HW := Aside0.mk hw1
  rw [← hw1] at c0 c1 c2 c3 HP hb0 hbx
  have HB0 := Aside0.mk hb0
  have HBX := Aside0.mk hbx
  clear hw1 hb0 hbx
  go_enter Try.func33, Try.ntmps33
  go_wp2_with fail
  rw [← HW.out]
  have x0 := blk_cell HBX.out 0
  go_cut [7] (fun v7 wc => v7 = .bool (s.P.any fun r => decide (r.f1 = t)) ∧ Aside0 (Below w1.heap.size w1 wc))
  case first =>
    have hlk : Sem.run Try.prog (Instr.lookup 75 (.map (some bp)) (.int .i64 t) true) ((w1.alloc (.cells #[.int .i64 0, .int .i64 0, .int .i64 0, .int .i64 0, .string ⟨#[]⟩, .string ⟨#[]⟩, .bool false, .slice none 0 0, .slice none 0 0] 35)).drew) = .ok (.tuple #[.agg #[.int .i64 a0, .int .i64 a1, .int .i64 a2, .int .i64 a3, .string a4, .string a5, .bool a6, .slice A7 n7 c7, .slice A8 n8 c8], .bool (s.P.any fun r => decide (r.f1 = t))]) ((w1.alloc (.cells #[.int .i64 0, .int .i64 0, .int .i64 0, .int .i64 0, .string ⟨#[]⟩, .string ⟨#[]⟩, .bool false, .slice none 0 0, .slice none 0 0] 35)).drew) := by
      have := (MapL.get_ (MapL.below HP.out.preps (below_drew1 (below_alloc (Below.refl _ _) _))) keyedI Try.underlying75 (zeroR ((w1.alloc (.cells #[.int .i64 0, .int .i64 0, .int .i64 0, .int .i64 0, .string ⟨#[]⟩, .string ⟨#[]⟩, .bool false, .slice none 0 0, .slice none 0 0] 35)).drew)) (key_ik HT.out)).2
      rw [HV.out, HS.out] at this
      exact this
    have hB2 := below_drew1 (below_alloc (Below.refl _ w1) (.cells #[.int .i64 0, .int .i64 0, .int .i64 0, .int .i64 0, .string ⟨#[]⟩, .string ⟨#[]⟩, .bool false, .slice none 0 0, .slice none 0 0] 35))
    have c1' := pw_cell_below hB2 c1
    have x0' := pw_cell_below hB2 x0
    have HB2 := Aside0.mk hB2
    clear hB2
    have hlk0 : Sem.run Try.prog (Instr.lookup 75 (.map (some bp)) (.int .i64 t) true) w1.drew = .ok (.tuple #[.agg #[.int .i64 a0, .int .i64 a1, .int .i64 a2, .int .i64 a3, .string a4, .string a5, .bool a6, .slice A7 n7 c7, .slice A8 n8 c8], .bool (s.P.any fun r => decide (r.f1 = t))]) w1.drew := by
      have := (MapL.get_ (MapL.below HP.out.preps (below_drew1 (Below.refl _ _))) keyedI Try.underlying75 (zeroR _) (key_ik HT.out)).2
      rw [HV.out, HS.out] at this
      exact this
    generalize (s.P.any fun r => decide (r.f1 = t)) = q at *
    go_region
    all_goals (try go_wp2_with fail)
    all_goals go_meet
    all_goals (case rel => exact ⟨rfl, ⟨below_drew1 (below_alloc (Below.refl _ _) _)⟩⟩)
  case rest =>
    obtain ⟨rfl, HB⟩ := hcut
    have HPC := Aside0.mk (HP.out.below HB.out)
    have HBC : Aside0 (Below w.heap.size w wc) := ⟨HB0.out.trans (HB.out.mono HB0.out.size)⟩
    have BXC := Aside0.mk (blk_below HBX.out HB.out)
    clear x0 c0 c1 c2 c3 HS HV
    obtain ⟨c0, c1, c2, c3⟩ := HPC.out.cells
    have x0 := blk_cell BXC.out 0
    have HSV : Aside0 (stateV s t = if (s.P.any fun r => decide (r.f1 = t)) = true then ((1, 0) : Int × Int) else match s.E.find? (fun e => decide (e.1 = t)) with | none => (0, 0) | some e => if e.2 = 0 then (3, 0) else (2, e.2)) := ⟨rfl⟩
    cases hq : s.P.any fun r => decide (r.f1 = t) with
    | true =>
      rw [hq, if_pos rfl] at HSV
      clear hq
      go_wp2_with fail
      go_ret2
      exact ⟨by rw [HSV.out]; rfl, HBC.out⟩
    | false =>
      rw [hq, if_neg (by simp)] at HSV
      clear hq
      obtain ⟨A, c, hve, hle, hC⟩ := Kd.R_reads HPC.out.ends
      subst hve
      have HC := Aside0.mk hC
      have HIX := Aside0.mk (index_endS wc A c s.E (.pointer (some ⟨w.heap.size, 0, none⟩)) (fun e => decide (e.1 = t)) hC (contains_enough fun W hW x => state1_walk W _ t (by rw [blk_cell (blk_below BXC.out hW) 0]; rfl) x))
      have hmx := HPC.out.good.ends
      clear hC hle
      go_wp2_with fail
      refine HIX.out.mono ?_
      rintro e w2 ⟨rfl, hb2⟩
      have HB2 : Aside0 (Below w.heap.size w w2) := ⟨HBC.out.trans (hb2.mono HBC.out.size)⟩
      have HP2 := Aside0.mk (HPC.out.below hb2)
      have HC2 := Aside0.mk (Kd.C_below HC.out hb2)
      clear c0 c1 c2 c3 x0 HIX hb2
      obtain ⟨c0, c1, c2, c3⟩ := HP2.out.cells
      rcases firstG_find (fun e : Int × Int => decide (e.1 = t)) s.E 0 with ⟨h1, h2⟩ | ⟨k, e, hk, he, h1, h2⟩
      · rw [h2] at HSV
        rw [h1]
        clear h1 h2
        go_wp2_with fail
        go_ret2
        exact ⟨by rw [HSV.out]; rfl, HB2.out⟩
      · rw [h2] at HSV
        rw [h1]
        obtain ⟨ad, cs, rfl, hlen, hK, hc0⟩ := Kd.C_get HC2.out ((0, 0) : Int × Int) (k : Int) (by omega) (by omega)
        rw [Int.toNat_natCast] at hK hc0
        have hget : s.E.getD k (0, 0) = e := by rw [List.getD_eq_getElem?_getD, he]; rfl
        rw [hget] at hK
        obtain rfl := kEnd_open hK
        have d1 : w2.cell? ⟨(ad.add (k * 2)).block, (ad.add (k * 2)).off + 1, none⟩ = some (.int .i64 e.2) := by rw [← add_field _ _ 1 (by omega)]; exact hc0 1 _ rfl
        have hzk : (0 : Int) + (k : Int) = (k : Int) := by omega
        rw [hzk]
        clear hget hK hc0 hlen h1 h2 he hzk
        obtain ⟨e1, e2⟩ := e
        simp only at d1 HSV
        by_cases hz : e2 = 0
        · subst hz
          rw [if_pos rfl] at HSV
          go_wp2_with fail
          go_ret2
          exact ⟨by rw [HSV.out]; rfl, HB2.out⟩
        · rw [if_neg hz] at HSV
          have hzb : (e2 == 0) = false := by simpa using hz
          go_wp2_with fail
          go_quiet (fail)
          all_goals (try go_wp2)
          go_ret2
          exact ⟨by rw [HSV.out]; rfl, by repeat (first | exact HB2.out | apply below_drew1 | apply pw_below_drewN)⟩
end Go.Proofs.Ytaldfbmjmpkmmaa.PL
namespace Go.Proofs.Ytaldfbmjmpkmmaa.PL
open Go.RowKit Go.Proofs.YtaldfbmjmpkmmaaW.PrintWords Go.Proofs.YtaldfbmjmpkmmaaW.PrintLast Go.Proofs.YtaldfbmjmpkmmaaW.PrintMore Go.Shelf Go.Maps Go.WideMaps Go.Proofs.Ytaldfbmjmpkmmaa.Mk
set_option linter.unusedVariables false
set_option linter.unusedSimpArgs false
set_option linter.unusedSectionVars false
set_option maxRecDepth 100000 in
set_option maxHeartbeats 4000000 in
theorem read_walk {w : World} {ok : Nat → Prop} {b N : Nat} {s : Sh} (h : ShAt w ok b N s) (k : ByteArray) (hk : k.size ≤ maxLen) (t : Int) :
    Calls Try.prog 12 #[.pointer (some ⟨b, 0, none⟩), .string k, .int .i64 t] w fun e w' => e = .returned (.tuple #[.int .i64 (readV s (kb k) t).1, .agg #[.int .i64 (readV s (kb k) t).2.f0, .string (readV s (kb k) t).2.f1, .bool (readV s (kb k) t).2.f2]]) ∧ Below w.heap.size w w' := by
  obtain ⟨w1, hw1⟩ : ∃ w1, w1 = w.alloc (.cells #[.int .i64 0, .string ⟨#[]⟩, .bool false] 29) := ⟨_, rfl⟩
  have HW := Aside0.mk hw1
  have hB1 : Below w.heap.size w w1 := by rw [hw1]; exact below_alloc (Below.refl _ w) _
  have hbx : w1.heap[w.heap.size]? = some (.cells #[.int .i64 0, .string ⟨#[]⟩, .bool false] 29 (0, 0)) := by rw [hw1]; exact blk_new _ _
  have H1 := h.below hB1
  clear hw1
  have HHD := Aside0.mk (held_walk H1 k false)
  obtain ⟨bk, bp, ve, fk, fp, hp⟩ := H1
  obtain ⟨c0, c1, c2, c3⟩ := hp.cells
  have HP := Aside0.mk hp
  have HB1 := Aside0.mk hB1
  have BX1 := Aside0.mk hbx
  have HS := Aside0.mk hk
  have hu := Try.underlying29
  have HV : Aside0 (readV s (kb k) t = if t < s.over then (4, zVer) else if heldV s (kb k) false = true then (3, zVer) else if (atV (look s.K (kb k)) t).2 = false then (0, (atV (look s.K (kb k)) t).1) else if (atV (look s.K (kb k)) t).1.f2 = true then (2, (atV (look s.K (kb k)) t).1) else (1, (atV (look s.K (kb k)) t).1)) := ⟨rfl⟩
  have x0 := blk_cell hbx 0
  have x1 := blk_cell hbx 1
  have x2 := blk_cell hbx 2
  have g0 := blk_frozen hbx 0
  have g1 := blk_frozen hbx 1
  have g2 := blk_frozen hbx 2
  clear hp hB1 hbx hk h
  have c3w := c3
  rw [HW.out] at c3w
  by_cases ho : t < s.over
  · rw [if_pos ho] at HV
    have BXW := BX1
    have HBW := HB1
    rw [HW.out] at x0 x1 x2 g0 g1 g2 BXW HBW
    have d1 : decide (t < s.over) = true := decide_eq_true ho
    clear c0 c1 c2 c3
    go_enter Try.func12, Try.ntmps12
    go_wp2_with fail
    go_region
    all_goals (try go_wp2_with fail)
    (try simp only [Exit.inBlock, Exit.then])
    refine bodyPost_ret (results_list (rs := [.tmp 6, .cell 7 29]) rfl (by simp) (Vals.tmp (Vals.cell w.heap.size 29 _ (0, 0) _ rfl (blk_drew BXW.out) Try.underlying29 rfl (by kernel_rfl) Vals.nil))) rfl ?_
    exact ⟨by rw [HV.out]; rfl, below_drew1 HBW.out⟩
  · rw [if_neg ho] at HV
    have d1 : decide (t < s.over) = false := decide_eq_false ho
    go_enter Try.func12, Try.ntmps12
    go_wp2_with fail
    rw [← HW.out]
    refine HHD.out.mono ?_
    rintro e w2 ⟨rfl, hb2⟩
    have HB2 : Aside0 (Below w.heap.size w w2) := ⟨HB1.out.trans (hb2.mono HB1.out.size)⟩
    have HP2 := Aside0.mk (HP.out.below hb2)
    have BX2 := Aside0.mk (blk_below BX1.out hb2)
    clear hb2 x0 x1 x2 g0 g1 g2 c0 c1 c2 c3 c3w HP BX1 HB1 HHD
    obtain ⟨c0, c1, c2, c3⟩ := HP2.out.cells
    have x0 := blk_cell BX2.out 0
    have x1 := blk_cell BX2.out 1
    have x2 := blk_cell BX2.out 2
    have g0 := blk_frozen BX2.out 0
    have g1 := blk_frozen BX2.out 1
    have g2 := blk_frozen BX2.out 2
    cases hh : heldV s (kb k) false with
    | true =>
      rw [hh, if_pos rfl] at HV
      clear hh
      go_wp2_with fail
      go_region
      all_goals (try go_wp2_with fail)
      (try simp only [Exit.inBlock, Exit.then])
      refine bodyPost_ret (results_list (rs := [.tmp 6, .cell 7 29]) rfl (by simp) (Vals.tmp (Vals.cell w.heap.size 29 _ (0, 0) _ rfl (blk_drew (blk_put (blk_put (blk_put BX2.out 0 _ rfl) 1 _ rfl) 2 _ rfl)) Try.underlying29 rfl (by kernel_rfl) Vals.nil))) rfl ?_
      exact ⟨by rw [HV.out]; rfl, below_drew1 (Below.setCell (Below.setCell (Below.setCell HB2.out (Nat.le_refl _) _) (Nat.le_refl _) _) (Nat.le_refl _) _)⟩
    | false =>
      rw [hh, if_neg (by simp)] at HV
      clear hh
      obtain ⟨A, c, hv, hl, hC⟩ := HP2.out.chain (kb k)
      have HAT := Aside0.mk (at_walk w2 A c (look s.K (kb k)) t hC hl (HP2.out.good.keys.look _))
      have HVL := Aside0.mk hv
      clear hv hl hC
      generalize atV (look s.K (kb k)) t = r at *
      generalize (look s.K (kb k)) = l at *
      go_wp2_with (at_lookup; refine MapL.at_ HP2.out.keys keyedS rfl _ _ 74 81 rfl Try.underlying74 (zeroC _) rfl rfl (key_sk HS.out) ?_; rw [HVL.out])
      refine HAT.out.mono ?_
      rintro e w3 ⟨rfl, hb3⟩
      have HB3 : Aside0 (Below w.heap.size w w3) := ⟨HB2.out.trans (hb3.mono HB2.out.size)⟩
      have BX3 := Aside0.mk (blk_below BX2.out hb3)
      clear hb3 x0 x1 x2 g0 g1 g2 c0 c1 c2 c3 HP2 BX2 HB2 HAT HVL
      have x0 := blk_cell BX3.out 0
      have x1 := blk_cell BX3.out 1
      have x2 := blk_cell BX3.out 2
      have g0 := blk_frozen BX3.out 0
      have g1 := blk_frozen BX3.out 1
      have g2 := blk_frozen BX3.out 2
      obtain ⟨⟨a0, a1, a2⟩, q⟩ := r
      simp only at HV ⊢
      cases q with
      | false =>
        rw [if_pos rfl] at HV
        go_wp2_with fail
        go_region
        all_goals (try go_wp2_with fail)
        (try simp only [Exit.inBlock, Exit.then])
        refine bodyPost_ret (results_list (rs := [.tmp 6, .cell 7 29]) rfl (by simp) (Vals.tmp (Vals.cell w.heap.size 29 _ (0, 0) _ rfl (blk_drew (blk_put (blk_put (blk_put (blk_put (blk_put (blk_put BX3.out 0 _ rfl) 1 _ rfl) 2 _ rfl) 0 _ rfl) 1 _ rfl) 2 _ rfl)) Try.underlying29 rfl (by kernel_rfl) Vals.nil))) rfl ?_
        exact ⟨by rw [HV.out]; rfl, below_drew1 (Below.setCell (Below.setCell (Below.setCell (Below.setCell (Below.setCell (Below.setCell HB3.out (Nat.le_refl _) _) (Nat.le_refl _) _) (Nat.le_refl _) _) (Nat.le_refl _) _) (Nat.le_refl _) _) (Nat.le_refl _) _)⟩
      | true =>
        rw [if_neg (by simp)] at HV
        cases a2 with
        | true =>
          rw [if_pos rfl] at HV
          go_wp2_with fail
          go_region
          all_goals (try go_wp2_with fail)
          (try simp only [Exit.inBlock, Exit.then])
          refine bodyPost_ret (results_list (rs := [.tmp 6, .cell 7 29]) rfl (by simp) (Vals.tmp (Vals.cell w.heap.size 29 _ (0, 0) _ rfl (blk_drew (blk_put (blk_put (blk_put (blk_put (blk_put (blk_put BX3.out 0 _ rfl) 1 _ rfl) 2 _ rfl) 0 _ rfl) 1 _ rfl) 2 _ rfl)) Try.underlying29 rfl (by kernel_rfl) Vals.nil))) rfl ?_
          exact ⟨by rw [HV.out]; rfl, below_drew1 (Below.setCell (Below.setCell (Below.setCell (Below.setCell (Below.setCell (Below.setCell HB3.out (Nat.le_refl _) _) (Nat.le_refl _) _) (Nat.le_refl _) _) (Nat.le_refl _) _) (Nat.le_refl _) _) (Nat.le_refl _) _)⟩
        | false =>
          rw [if_neg (by simp)] at HV
          go_wp2_with fail
          go_region
          all_goals (try go_wp2_with fail)
          (try simp only [Exit.inBlock, Exit.then])
          refine bodyPost_ret (results_list (rs := [.tmp 6, .cell 7 29]) rfl (by simp) (Vals.tmp (Vals.cell w.heap.size 29 _ (0, 0) _ rfl (blk_drew (blk_put (blk_put (blk_put (blk_put (blk_put (blk_put BX3.out 0 _ rfl) 1 _ rfl) 2 _ rfl) 0 _ rfl) 1 _ rfl) 2 _ rfl)) Try.underlying29 rfl (by kernel_rfl) Vals.nil))) rfl ?_
          exact ⟨by rw [HV.out]; rfl, below_drew1 (Below.setCell (Below.setCell (Below.setCell (Below.setCell (Below.setCell (Below.setCell HB3.out (Nat.le_refl _) _) (Nat.le_refl _) _) (Nat.le_refl _) _) (Nat.le_refl _) _) (Nat.le_refl _) _) (Nat.le_refl _) _)⟩
end Go.Proofs.Ytaldfbmjmpkmmaa.PL
namespace Go.Proofs.Ytaldfbmjmpkmmaa.PL
open Go.RowKit Go.Proofs.YtaldfbmjmpkmmaaW.PrintWords Go.Proofs.YtaldfbmjmpkmmaaW.PrintLast Go.Proofs.YtaldfbmjmpkmmaaW.PrintMore Go.Shelf Go.Maps Go.WideMaps Go.Proofs.Ytaldfbmjmpkmmaa.Mk
set_option linter.unusedVariables false
set_option linter.unusedSimpArgs false
set_option linter.unusedSectionVars false
/-- A row of one's own under two stores into a box of records. -/
theorem R_far2 {α : Type} {d : Kd α} {e base : Nat} {ok : Nat → Prop} {w : World} {v : Value} {xs : List α} (ht : ∀ q, q ∈ e :: d.E → q ≠ 35) (h : d.R e w base ok v xs) {g : Nat} {cells : Array Value} (hb : w.heap[g]? = some (.cells cells 35 (0, 0))) (i : Nat) (u : Value) (j : Nat) (x : Value) :
    d.R e ((w.setCell ⟨g, i, none⟩ u).setCell ⟨g, j, none⟩ x) base ok v xs :=
  Kd.R_mono (Kd.R_step (Kd.R_types h hb ht) (fun k hk _ => (Below.heap_setCell _ ⟨g, j, none⟩ x k hk.2).trans (Below.heap_setCell _ ⟨g, i, none⟩ u k hk.2))) (fun _ hk => hk.1)
theorem R_box {α : Type} {d : Kd α} {e base : Nat} {ok : Nat → Prop} {w w1 : World} {v : Value} {xs : List α} (ht : ∀ q, q ∈ e :: d.E → q ≠ 35) (h : d.R e w base ok v xs) {g : Nat} {cells : Array Value} (hb : w.heap[g]? = some (.cells cells 35 (0, 0))) (hm : ∀ k, k ≠ g → w1.heap[k]? = w.heap[k]?) : d.R e w1 base ok v xs :=
  Kd.R_mono (Kd.R_step (Kd.R_types h hb ht) (fun k hk _ => hm k hk.2)) (fun _ hk => hk.1)
set_option maxRecDepth 100000 in
set_option maxHeartbeats 4000000 in
theorem copied_walk (w : World) (r : Rec) (cs : List Value) (hK : k35.K w r cs) (h7 : r.f7.length ≤ 8192) (h8 : r.f8.length ≤ 8192) :
    Calls Try.prog 54 #[.agg cs.toArray] w fun e w' => ∃ cs', e = .returned (.agg cs'.toArray) ∧ k35.M w' w.heap.size (fun _ => True) r cs' ∧ Below w.heap.size w w' := by
  obtain ⟨A7, c7, A8, c8, rfl, l7, g7, l8, g8⟩ := k35_open hK
  obtain ⟨r0, r1, r2, r3, r4, r5, r6, r7, r8⟩ := r
  simp only at *
  obtain ⟨w2, hw2⟩ : ∃ w2, w2 = (w.alloc (.cells #[.int .i64 r0, .int .i64 r1, .int .i64 r2, .int .i64 r3, .string r4, .string r5, .bool r6, .slice A7 r7.length c7, .slice A8 r8.length c8] 35)).alloc (.cells #[.int .i64 0, .int .i64 0, .int .i64 0, .int .i64 0, .string ⟨#[]⟩, .string ⟨#[]⟩, .bool false, .slice none 0 0, .slice none 0 0] 35) := ⟨_, rfl⟩
  have hB : Below w.heap.size w w2 := by rw [hw2]; exact below_alloc (below_alloc (Below.refl _ w) _) _
  have hx1 : w2.heap[w.heap.size]? = some (.cells #[.int .i64 r0, .int .i64 r1, .int .i64 r2, .int .i64 r3, .string r4, .string r5, .bool r6, .slice A7 r7.length c7, .slice A8 r8.length c8] 35 (0, 0)) := by rw [hw2]; exact blk_alloc (blk_new _ _) _
  have hx2 : w2.heap[w.heap.size + 1]? = some (.cells #[.int .i64 0, .int .i64 0, .int .i64 0, .int .i64 0, .string ⟨#[]⟩, .string ⟨#[]⟩, .bool false, .slice none 0 0, .slice none 0 0] 35 (0, 0)) := by
    rw [hw2]
    have := blk_new (w.alloc (.cells #[.int .i64 r0, .int .i64 r1, .int .i64 r2, .int .i64 r3, .string r4, .string r5, .bool r6, .slice A7 r7.length c7, .slice A8 r8.length c8] 35)) (.cells #[.int .i64 0, .int .i64 0, .int .i64 0, .int .i64 0, .string ⟨#[]⟩, .string ⟨#[]⟩, .bool false, .slice none 0 0, .slice none 0 0] 35)
    simpa using this
  have HW := Aside0.mk hw2
  have HB2 := Aside0.mk hB
  have HX1 := Aside0.mk hx1
  have HX2 := Aside0.mk hx2
  have H7 : Aside0 (∀ W, Below w.heap.size w W → Calls Try.prog 99 #[.slice A7 r7.length c7] W fun e w' => ∃ v, e = .returned v ∧ Kd.R Kd.string 9 w' W.heap.size (fun _ => True) v r7 ∧ Below W.heap.size W w') := ⟨fun W hW => clone_str W A7 c7 r7 (Kd.C_below g7 hW) h7⟩
  have H8 : Aside0 (∀ W, Below w.heap.size w W → Calls Try.prog 100 #[.slice A8 r8.length c8] W fun e w' => ∃ v, e = .returned v ∧ Kd.R k56 56 w' W.heap.size (fun _ => True) v r8 ∧ Below W.heap.size W w') := ⟨fun W hW => clone_wr W A8 c8 r8 (Kd.C_below g8 hW) h8⟩
  clear hw2 hB hx1 hx2 g7 g8 hK l7 l8
  go_enter Try.func54, Try.ntmps54
  go_wp2_with fail
  rw [← HW.out]
  have x7 := blk_cell HX1.out 7
  have x8 := blk_cell HX1.out 8
  have f7 := blk_frozen HX1.out 7
  have f8 := blk_frozen HX1.out 8
  go_region_law (first
    | (go_simp; go_at_call 99; refine (H7.out _ (by repeat (first | exact HB2.out | apply below_drew1))).mono ?_; rintro e w3 ⟨v7, rfl, hv7, hb3⟩; obtain ⟨B7, d7, hs7⟩ := Kd.R_slice hv7; subst hs7; have HV7 := Aside0.mk hv7; have HB3 := Aside0.mk hb3; have X3 := Aside0.mk (blk_below (blk_drew HX1.out) hb3); have Y3 := Aside0.mk (blk_below (blk_drew HX2.out) hb3); clear hv7 hb3 x7 x8 f7 f8; have x7 := blk_cell X3.out 7; have x8 := blk_cell X3.out 8; have f7 := blk_frozen X3.out 7; have f8 := blk_frozen X3.out 8)
    | (go_simp; go_at_call 100; refine (H8.out _ ((below_drew1 HB2.out).trans (HB3.out.mono (below_drew1 HB2.out).size))).mono ?_; rintro e w4 ⟨v8, rfl, hv8, hb4⟩; obtain ⟨B8, d8, hs8⟩ := Kd.R_slice hv8; subst hs8; have HV8 := Aside0.mk hv8; have HB4 := Aside0.mk hb4; have X4 := Aside0.mk (blk_below X3.out hb4); have Y4 := Aside0.mk (blk_below Y3.out hb4); clear hv8 hb4 x7 x8 f7 f8 X3 Y3; have x7 := blk_cell X4.out 7; have x8 := blk_cell X4.out 8; have f7 := blk_frozen X4.out 7; have f8 := blk_frozen X4.out 8))
  all_goals
    have B3 : Aside0 (Below w.heap.size w w3) := ⟨(below_drew1 HB2.out).trans (HB3.out.mono (below_drew1 HB2.out).size)⟩
    have B4 : Aside0 (Below w.heap.size w w4) := ⟨B3.out.trans (HB4.out.mono B3.out.size)⟩
    have BX5 : Aside0 (((w4.setCell ⟨w.heap.size, 7, none⟩ (.slice B7 r7.length d7)).setCell ⟨w.heap.size, 8, none⟩ (.slice B8 r8.length d8)).heap[w.heap.size]? = some (.cells #[.int .i64 r0, .int .i64 r1, .int .i64 r2, .int .i64 r3, .string r4, .string r5, .bool r6, .slice B7 r7.length d7, .slice B8 r8.length d8] 35 (0, 0))) := ⟨blk_put (blk_put X4.out 7 _ rfl) 8 _ rfl⟩
    have BY5 := Aside0.mk (blk_far (blk_far Y4.out (p := ⟨w.heap.size, 7, none⟩) (by simp) (.slice B7 r7.length d7)) (p := ⟨w.heap.size, 8, none⟩) (by simp) (.slice B8 r8.length d8))
    have B5 : Aside0 (Below w.heap.size w ((w4.setCell ⟨w.heap.size, 7, none⟩ (.slice B7 r7.length d7)).setCell ⟨w.heap.size, 8, none⟩ (.slice B8 r8.length d8))) := ⟨(B4.out.setCell (Nat.le_refl _) _).setCell (Nat.le_refl _) _⟩
    have V7 := Aside0.mk (Kd.R_lower (Kd.R_below HV7.out HB4.out) (below_drew1 HB2.out).size)
    have V8 := Aside0.mk (Kd.R_lower HV8.out B3.out.size)
    have W7 := Aside0.mk (R_far2 (by decide) V7.out (g := w.heap.size) X4.out 7 (.slice B7 r7.length d7) 8 (.slice B8 r8.length d8))
    have W8 := Aside0.mk (R_far2 (by decide) V8.out (g := w.heap.size) X4.out 7 (.slice B7 r7.length d7) 8 (.slice B8 r8.length d8))
    generalize (w4.setCell ⟨w.heap.size, 7, none⟩ (.slice B7 r7.length d7)).setCell ⟨w.heap.size, 8, none⟩ (.slice B8 r8.length d8) = w5 at *
    clear x7 x8 f7 f8 V7 V8 B3 B4 X4 Y4 HV7 HV8 HB3 HB4
    have x0 := blk_cell BX5.out 0
    have x1 := blk_cell BX5.out 1
    have x2 := blk_cell BX5.out 2
    have x3 := blk_cell BX5.out 3
    have x4 := blk_cell BX5.out 4
    have x5 := blk_cell BX5.out 5
    have x6 := blk_cell BX5.out 6
    have x7 := blk_cell BX5.out 7
    have x8 := blk_cell BX5.out 8
    have y0 := blk_cell BY5.out 0
    have y1 := blk_cell BY5.out 1
    have y2 := blk_cell BY5.out 2
    have y3 := blk_cell BY5.out 3
    have y4 := blk_cell BY5.out 4
    have y5 := blk_cell BY5.out 5
    have y6 := blk_cell BY5.out 6
    have y7 := blk_cell BY5.out 7
    have y8 := blk_cell BY5.out 8
    have f0 := blk_frozen BY5.out 0
    have f1 := blk_frozen BY5.out 1
    have f2 := blk_frozen BY5.out 2
    have f3 := blk_frozen BY5.out 3
    have f4 := blk_frozen BY5.out 4
    have f5 := blk_frozen BY5.out 5
    have f6 := blk_frozen BY5.out 6
    have f7 := blk_frozen BY5.out 7
    have f8 := blk_frozen BY5.out 8
    go_wp2
    have z0 := blk_put (cs' := #[.int .i64 r0, .int .i64 0, .int .i64 0, .int .i64 0, .string ⟨#[]⟩, .string ⟨#[]⟩, .bool false, .slice none 0 0, .slice none 0 0]) BY5.out 0 (.int .i64 r0) rfl
    have z1 := blk_put (cs' := #[.int .i64 r0, .int .i64 r1, .int .i64 0, .int .i64 0, .string ⟨#[]⟩, .string ⟨#[]⟩, .bool false, .slice none 0 0, .slice none 0 0]) z0 1 (.int .i64 r1) rfl
    have z2 := blk_put (cs' := #[.int .i64 r0, .int .i64 r1, .int .i64 r2, .int .i64 0, .string ⟨#[]⟩, .string ⟨#[]⟩, .bool false, .slice none 0 0, .slice none 0 0]) z1 2 (.int .i64 r2) rfl
    have z3 := blk_put (cs' := #[.int .i64 r0, .int .i64 r1, .int .i64 r2, .int .i64 r3, .string ⟨#[]⟩, .string ⟨#[]⟩, .bool false, .slice none 0 0, .slice none 0 0]) z2 3 (.int .i64 r3) rfl
    have z4 := blk_put (cs' := #[.int .i64 r0, .int .i64 r1, .int .i64 r2, .int .i64 r3, .string r4, .string ⟨#[]⟩, .bool false, .slice none 0 0, .slice none 0 0]) z3 4 (.string r4) rfl
    have z5 := blk_put (cs' := #[.int .i64 r0, .int .i64 r1, .int .i64 r2, .int .i64 r3, .string r4, .string r5, .bool false, .slice none 0 0, .slice none 0 0]) z4 5 (.string r5) rfl
    have z6 := blk_put (cs' := #[.int .i64 r0, .int .i64 r1, .int .i64 r2, .int .i64 r3, .string r4, .string r5, .bool r6, .slice none 0 0, .slice none 0 0]) z5 6 (.bool r6) rfl
    have z7 := blk_put (cs' := #[.int .i64 r0, .int .i64 r1, .int .i64 r2, .int .i64 r3, .string r4, .string r5, .bool r6, .slice B7 r7.length d7, .slice none 0 0]) z6 7 (.slice B7 r7.length d7) rfl
    have z8 := blk_put (cs' := #[.int .i64 r0, .int .i64 r1, .int .i64 r2, .int .i64 r3, .string r4, .string r5, .bool r6, .slice B7 r7.length d7, .slice B8 r8.length d8]) z7 8 (.slice B8 r8.length d8) rfl
    have BZ : Aside0 ((((((((((w5.setCell ⟨w.heap.size + 1, 0, none⟩ (.int .i64 r0)).setCell ⟨w.heap.size + 1, 1, none⟩ (.int .i64 r1)).setCell ⟨w.heap.size + 1, 2, none⟩ (.int .i64 r2)).setCell ⟨w.heap.size + 1, 3, none⟩ (.int .i64 r3)).setCell ⟨w.heap.size + 1, 4, none⟩ (.string r4)).setCell ⟨w.heap.size + 1, 5, none⟩ (.string r5)).setCell ⟨w.heap.size + 1, 6, none⟩ (.bool r6)).setCell ⟨w.heap.size + 1, 7, none⟩ (.slice B7 r7.length d7)).setCell ⟨w.heap.size + 1, 8, none⟩ (.slice B8 r8.length d8)).heap[w.heap.size + 1]? = some (.cells #[.int .i64 r0, .int .i64 r1, .int .i64 r2, .int .i64 r3, .string r4, .string r5, .bool r6, .slice B7 r7.length d7, .slice B8 r8.length d8] 35 (0, 0))) := ⟨z8⟩
    have B6 : Aside0 (Below w.heap.size w (((((((((w5.setCell ⟨w.heap.size + 1, 0, none⟩ (.int .i64 r0)).setCell ⟨w.heap.size + 1, 1, none⟩ (.int .i64 r1)).setCell ⟨w.heap.size + 1, 2, none⟩ (.int .i64 r2)).setCell ⟨w.heap.size + 1, 3, none⟩ (.int .i64 r3)).setCell ⟨w.heap.size + 1, 4, none⟩ (.string r4)).setCell ⟨w.heap.size + 1, 5, none⟩ (.string r5)).setCell ⟨w.heap.size + 1, 6, none⟩ (.bool r6)).setCell ⟨w.heap.size + 1, 7, none⟩ (.slice B7 r7.length d7)).setCell ⟨w.heap.size + 1, 8, none⟩ (.slice B8 r8.length d8))) := ⟨(Below.setCell (Below.setCell (Below.setCell (Below.setCell (Below.setCell (Below.setCell (Below.setCell (Below.setCell (Below.setCell B5.out (Nat.le_succ _) _) (Nat.le_succ _) _) (Nat.le_succ _) _) (Nat.le_succ _) _) (Nat.le_succ _) _) (Nat.le_succ _) _) (Nat.le_succ _) _) (Nat.le_succ _) _) (Nat.le_succ _) _)⟩
    have HM : Aside0 (∀ k, k ≠ w.heap.size + 1 → (((((((((w5.setCell ⟨w.heap.size + 1, 0, none⟩ (.int .i64 r0)).setCell ⟨w.heap.size + 1, 1, none⟩ (.int .i64 r1)).setCell ⟨w.heap.size + 1, 2, none⟩ (.int .i64 r2)).setCell ⟨w.heap.size + 1, 3, none⟩ (.int .i64 r3)).setCell ⟨w.heap.size + 1, 4, none⟩ (.string r4)).setCell ⟨w.heap.size + 1, 5, none⟩ (.string r5)).setCell ⟨w.heap.size + 1, 6, none⟩ (.bool r6)).setCell ⟨w.heap.size + 1, 7, none⟩ (.slice B7 r7.length d7)).setCell ⟨w.heap.size + 1, 8, none⟩ (.slice B8 r8.length d8)).heap[k]? = w5.heap[k]?) := ⟨fun k hk => (Eq.trans (Below.heap_setCell _ _ _ k hk) (Eq.trans (Below.heap_setCell _ _ _ k hk) (Eq.trans (Below.heap_setCell _ _ _ k hk) (Eq.trans (Below.heap_setCell _ _ _ k hk) (Eq.trans (Below.heap_setCell _ _ _ k hk) (Eq.trans (Below.heap_setCell _ _ _ k hk) (Eq.trans (Below.heap_setCell _ _ _ k hk) (Eq.trans (Below.heap_setCell _ _ _ k hk) (Below.heap_setCell _ _ _ k hk)))))))))⟩
    clear z0 z1 z2 z3 z4 z5 z6 z7 z8
    generalize (((((((((w5.setCell ⟨w.heap.size + 1, 0, none⟩ (.int .i64 r0)).setCell ⟨w.heap.size + 1, 1, none⟩ (.int .i64 r1)).setCell ⟨w.heap.size + 1, 2, none⟩ (.int .i64 r2)).setCell ⟨w.heap.size + 1, 3, none⟩ (.int .i64 r3)).setCell ⟨w.heap.size + 1, 4, none⟩ (.string r4)).setCell ⟨w.heap.size + 1, 5, none⟩ (.string r5)).setCell ⟨w.heap.size + 1, 6, none⟩ (.bool r6)).setCell ⟨w.heap.size + 1, 7, none⟩ (.slice B7 r7.length d7)).setCell ⟨w.heap.size + 1, 8, none⟩ (.slice B8 r8.length d8)) = w6 at *
    have Z7 := Aside0.mk (R_box (by decide) W7.out BY5.out HM.out)
    have Z8 := Aside0.mk (R_box (by decide) W8.out BY5.out HM.out)
    refine bodyPost_ret (results_cell_row rfl _ _ (w.heap.size + 1) 35 _ (0, 0) _ rfl BZ.out Try.underlying35 rfl (by kernel_rfl)) rfl ?_
    exact ⟨[.int .i64 r0, .int .i64 r1, .int .i64 r2, .int .i64 r3, .string r4, .string r5, .bool r6, .slice B7 r7.length d7, .slice B8 r8.length d8], rfl, k35_mkM _ _ _ (⟨r0, r1, r2, r3, r4, r5, r6, r7, r8⟩ : Rec) Z7.out Z8.out, B6.out⟩
end Go.Proofs.Ytaldfbmjmpkmmaa.PL
namespace Go.Proofs.Ytaldfbmjmpkmmaa.PL
open Go.RowKit Go.Proofs.YtaldfbmjmpkmmaaW.PrintWords Go.Proofs.YtaldfbmjmpkmmaaW.PrintLast Go.Proofs.YtaldfbmjmpkmmaaW.PrintMore Go.Shelf Go.Maps Go.WideMaps Go.Proofs.Ytaldfbmjmpkmmaa.Mk
set_option linter.unusedVariables false
set_option linter.unusedSimpArgs false
set_option linter.unusedSectionVars false

set_option maxRecDepth 100000 in
theorem new_walk (w : World) : Calls Try.prog 32 #[] w fun e w' => ∃ b, e = .returned (.pointer (some ⟨b, 0, none⟩)) ∧ ShAt w' (fun g => w.heap.size ≤ g) b 0 sh0 ∧ Below w.heap.size w w' := by
  have m1 := MapL.made Try.prog 9 w
  have m2 := MapL.made Try.prog 3 (w.alloc (.map #[] 0))
  have b1 := below_alloc (Below.refl _ (w.alloc (.map #[] 0))) (.map #[] 0)
  have b2 := below_alloc (Below.refl _ ((w.alloc (.map #[] 0)).alloc (.map #[] 0))) (.cells #[.map (some w.heap.size), .map (some (w.heap.size + 1)), .slice none 0 0, .int .i64 0] 78)
  have h1 := (m1.below b1).below b2
  have h2 := m2.below b2
  have hbx := blk_new ((w.alloc (.map #[] 0)).alloc (.map #[] 0)) (.cells #[.map (some w.heap.size), .map (some (w.heap.size + 1)), .slice none 0 0, .int .i64 0] 78)
  have hs : (w.alloc (.map #[] 0)).heap.size = w.heap.size + 1 := by simp
  have hs2 : ((w.alloc (.map #[] 0)).alloc (.map #[] 0)).heap.size = w.heap.size + 2 := by simp
  rw [hs] at h2
  rw [hs2] at hbx
  have H := Aside0.mk (And.intro h1 (And.intro h2 hbx))
  clear m1 m2 b1 b2 h1 h2 hbx hs hs2
  have hmm := @run_makeMap Try.prog
  go_enter Try.func32, Try.ntmps32
  go_wp2
  go_ret
  refine ⟨w.heap.size + 2, rfl, ⟨w.heap.size, w.heap.size + 1, .slice none 0 0, fun _ => none, fun _ => none, ?_⟩, below_alloc (below_alloc (below_alloc (Below.refl _ w) _) _) _⟩
  exact ⟨H.out.2.2, H.out.1, H.out.2.1, Kd.R_nil _ _ _ _ _, (fun q v hq => by cases hq), (fun k hk => by simp [sh0, keysK] at hk), (fun q v hq => by cases hq), (fun r hr => by simp [sh0] at hr), by omega, by omega, by omega, by omega, sh0_ok⟩
end Go.Proofs.Ytaldfbmjmpkmmaa.PL
