/- locks.Keys: all keys of a list. -/
-- IMPORTS
-- END IMPORTS
import Derived.Test.YtaldfbmjmpkmmaaPL0
import Derived.Test.YtaldfbmjmpkmmaaHRise
import Derived.Test.YtaldfbmjmpkmmaaHAdmit
import Derived.Test.YtaldfbmjmpkmmaaPLf58
import Derived.Test.YtaldfbmjmpkmmaaHOpen
namespace Go.Proofs.Ytaldfbmjmpkmmaa.PL.Lk
open Go.Proofs.Ytaldfbmjmpkmmaa.PL Go.RowKit Go.Proofs.YtaldfbmjmpkmmaaW.PrintWords Go.Proofs.YtaldfbmjmpkmmaaW.PrintLast Go.Proofs.YtaldfbmjmpkmmaaW.PrintMore Go.Maps Mk
set_option linter.unusedVariables false
set_option linter.unusedSimpArgs false
def recKeys (r : S35) : List ByteArray := r.f7 ++ wkeys r.f8
/-- What is in the set behind the first k. -/
def allTo (l : List S35) : Nat → List (List UInt8)
  | 0 => []
  | k + 1 => allTo l k ++ uniq (strs (rd_T35 l (k : Int)).f7) ++ uniq (strs (wkeys (rd_T35 l (k : Int)).f8))
theorem strs_app (a b : List ByteArray) : strs (a ++ b) = strs a ++ strs b := by unfold strs; rw [List.map_append]
theorem allTo_mem (l : List S35) (x : List UInt8) : ∀ k, k ≤ l.length → (x ∈ allTo l k ↔ x ∈ strs ((l.take k).flatMap recKeys))
  | 0, _ => by simp [allTo, strs]
  | k + 1, hk => by
    have hk' : k < l.length := by omega
    unfold allTo
    rw [List.mem_append, List.mem_append, allTo_mem l x k (by omega), mem_uniq, mem_uniq, rd25_nat l k hk', List.take_succ_eq_append_getElem hk', List.flatMap_append, strs_app, List.mem_append]
    simp only [List.flatMap_cons, List.flatMap_nil, List.append_nil, recKeys, strs_app, List.mem_append]
    exact or_assoc
theorem prep_len (r : S35) (h : prepB r = true) : r.f7.length ≤ 16 ∧ r.f8.length ≤ 16 := ⟨(listed_small _ _ (recVR_listed r h)).2.2.1, (listed_small _ _ (recVR_listed r h)).2.2.2⟩
theorem strs_len (l : List ByteArray) : (strs l).length = l.length := by simp [strs]
theorem allTo_len (l : List S35) (h : ∀ r, r ∈ l → prepB r = true) : ∀ k, k ≤ l.length → (allTo l k).length ≤ 32 * k
  | 0, _ => by simp [allTo]
  | k + 1, hk => by
    have hk' : k < l.length := by omega
    have h1 := allTo_len l h k (by omega)
    have h2 := prep_len _ (h _ (List.getElem_mem hk'))
    have h3 := uniq_len (strs l[k].f7)
    have h4 := uniq_len (strs (wkeys l[k].f8))
    rw [strs_len] at h3 h4
    have h5 : (wkeys l[k].f8).length = l[k].f8.length := by simp [wkeys]
    unfold allTo
    rw [rd25_nat l k hk', List.length_append, List.length_append]
    omega
def keysV (l : List S35) : List ByteArray × Int := if wrongV l = 0 then (bytesOfL (uniq (strs (l.flatMap recKeys))), 0) else ([], wrongV l)
def locks_Keys.f (l0 : List (S35)) : Option (List ByteArray × Int) := if l0.all sizesOkB = true then some (keysV l0) else none
theorem uniq_small (l : List ByteArray) (h : small l) (s : ByteArray) (hs : s ∈ bytesOfL (uniq (strs l))) : s.size ≤ 1000000000 := by
  unfold bytesOfL at hs
  obtain ⟨x, hx, rfl⟩ := List.mem_map.1 hs
  rw [mem_uniq] at hx
  obtain ⟨y, hy, rfl⟩ := List.mem_map.1 hx
  show y.data.toList.toArray.size ≤ 1000000000
  rw [List.size_toArray, Array.length_toList]
  exact h.2 y hy

set_option maxRecDepth 100000 in
set_option maxHeartbeats 4000000 in
theorem keys_walk (A0 : Option Addr) (c0 : Nat) (l0 : List (S35)) (w : World) (hr0 : Kd.C k35 w A0 l0.length l0) (hc0 : l0.length ≤ c0) (hs : ∀ r, r ∈ l0 → sizesOk r) :
    Calls Try.prog 28 #[.slice A0 l0.length c0] w fun e w' => ∃ v0_ : Value, e = .returned (.tuple #[v0_, .int .i64 (keysV l0).2]) ∧ Kd.R Kd.string 9 w' w.heap.size (fun _ => True) v0_ (keysV l0).1 ∧ Below w.heap.size w w' := by
  have hmax := Kd.C_max hr0
  have HR := Aside0.mk hr0
  have HC := Aside0.mk hc0
  have HW := Aside0.mk (wrong_f l0 hmax hs (l0.length + 1) (by omega))
  clear hr0 hc0 hs
  have hu35 := Try.underlying35
  have hmm := @run_makeMap Try.prog
  go_enter Try.func28, Try.ntmps28
  go_wp2_with fail
  refine (locks_wrong.calls _ A0 c0 l0 _ _ HR.out HC.out HW.out).mono ?_
  rintro e w1 ⟨rfl, hb1⟩
  have HB := Aside0.mk hb1
  clear hb1 HW
  by_cases hv : wrongV l0 = 0
  · have HV := Aside0.mk (wrong_zero l0 hv)
    have HA : Aside0 (keysV l0 = (bytesOfL (uniq (strs (l0.flatMap recKeys))), 0)) := ⟨by unfold keysV; rw [if_pos hv]⟩
    rw [hv]
    clear hv
    have HM := Aside0.mk (SetIs.made Try.prog 9 w1)
    have HBM := Aside0.mk (below_alloc HB.out (.map #[] 0))
    have HLT := Aside0.mk HB.out.size
    go_wp2
    clear hmm
    go_loopw [18] (fun i wr => ∃ k : Nat, k ≤ l0.length ∧ i = .int .i64 k ∧ Aside0 (SetIs Try.prog 9 wr w1.heap.size (allTo l0 k)) ∧ Aside0 (Below w.heap.size w wr))
      (fun i _ => l0.length - (intOf i).toNat)
    case atStart => exact ⟨0, Nat.zero_le _, rfl, HM, HBM⟩
    case round =>
      clear HM HBM HB
      obtain ⟨k, hk, rfl, HS, HB⟩ := hrel
      by_cases hlt : k < l0.length
      · obtain ⟨ad, A7, c7, A8, c8, rfl, q0, q1, q2, q3, q4, q5, q6, q7, q8, g7c, g7, g8c, g8⟩ := at_T35 (Kd.C_below HR.out HB.out) (k : Int) (by omega) (by omega)
        rw [Int.toNat_natCast] at q0 q1 q2 q3 q4 q5 q6 q7 q8
        obtain ⟨r, hr⟩ : ∃ r, r = rd_T35 l0 (k : Int) := ⟨_, rfl⟩
        rw [← hr] at q0 q1 q2 q3 q4 q5 q6 q7 q8 g7c g7 g8c g8
        have hpr : prepB r = true := by rw [hr, rd25_nat l0 k hlt]; exact HV.out.2 _ (List.getElem_mem hlt)
        have HSR := Aside0.mk (prep_small r hpr)
        have HPL := Aside0.mk (prep_len r hpr)
        have HAL := Aside0.mk (allTo_len l0 HV.out.2 k (by omega))
        have HST : Aside0 (allTo l0 (k + 1) = allTo l0 k ++ uniq (strs r.f7) ++ uniq (strs (wkeys r.f8))) := ⟨by rw [hr]; rfl⟩
        have HG := Aside0.mk (And.intro g7 g8)
        have hB2 : Below w.heap.size w (wr.alloc (.cells #[.int .i64 r.f0, .int .i64 r.f1, .int .i64 r.f2, .int .i64 r.f3, .string r.f4, .string r.f5, .bool r.f6, .slice A7 r.f7.length c7, .slice A8 r.f8.length c8] 35)) := HB.out.alloc HB.out.size _
        have HB2 := Aside0.mk hB2
        have HS2 := Aside0.mk (HS.out.below (below_alloc (Below.refl _ wr) (.cells #[.int .i64 r.f0, .int .i64 r.f1, .int .i64 r.f2, .int .i64 r.f3, .string r.f4, .string r.f5, .bool r.f6, .slice A7 r.f7.length c7, .slice A8 r.f8.length c8] 35)))
        clear hr g7 g8 g7c g8c hB2 hpr HS HB
        go_wp2_with fail
        refine (touched _ _ _ _ _ _ _ _ A7 c7 r.f7 A8 c8 r.f8 (Kd.C_alloc HG.out.1 _) (Kd.C_alloc HG.out.2 _) HSR.out.1 HSR.out.2).mono ?_
        rintro e w3 ⟨b1, b2, rfl, hs1, hs2, hne, hge1, hge2, hb3⟩
        have HB3 : Aside0 (Below w.heap.size w w3) := ⟨HB2.out.trans (hb3.mono HB2.out.size)⟩
        have HS3 := Aside0.mk (HS2.out.below hb3)
        have HX1 := Aside0.mk hs1
        have HX2 := Aside0.mk hs2
        have HGE : Aside0 (w1.heap.size < b1 ∧ w1.heap.size < b2 ∧ w1.heap.size < w3.heap.size) := ⟨by
          have h1 := HS2.out.lt
          have h2 := hb3.size
          omega⟩
        have hl7 := HPL.out.1
        have hl8 : (wkeys r.f8).length ≤ 16 := by simpa [wkeys] using HPL.out.2
        have hall := HAL.out
        clear hs1 hs2 hb3 hge1 hge2 hne HB2 HS2 HG q0 q1 q2 q3 q4 q5 q6 q7 q8
        go_wp2_with fail
        refine (rise_walk w3 b1 _ HX1.out (by rw [strs_len]; omega)).mono ?_
        rintro e w4 ⟨v4, rfl, ho4, hb4⟩
        obtain ⟨A4, c4, rfl, hlc4, hC4⟩ := Kd.R_reads ho4
        have HC4 := Aside0.mk hC4
        have HS4 := Aside0.mk (HS3.out.below hb4)
        have HX4 := Aside0.mk (HX2.out.below hb4)
        have HB4 : Aside0 (Below w.heap.size w w4) := ⟨HB3.out.trans (hb4.mono HB3.out.size)⟩
        clear ho4 hlc4 hC4 hb4 HS3 HB3 HX1 HX2
        have hu1 := uniq_len (strs r.f7)
        rw [strs_len] at hu1
        have hbl1 : (bytesOfL (uniq (strs r.f7))).length ≤ 16 := by unfold bytesOfL; rw [List.length_map]; omega
        go_wp2_with fail
        refine (set_add w4 w1.heap.size _ HS4.out A4 _ c4 HC4.out (fun s hs => by have := uniq_small _ HSR.out.1 s hs; unfold maxLen; omega) (by have := HV.out.1; omega)).mono ?_
        rintro e w5 ⟨rfl, hs5, hg5⟩
        rw [strs_bytes] at hs5
        have HS5 := Aside0.mk hs5
        have HX5 := Aside0.mk (HX4.out.kept hg5 (by have := HGE.out; intro h; injection h with h; omega))
        have HB5 : Aside0 (Below w.heap.size w w5) := ⟨HB4.out.grown hg5 HB4.out.size (fun j hj => by cases hj; exact HLT.out)⟩
        clear hs5 hg5 HS4 HX4 HB4 HC4
        go_wp2_with fail
        refine (rise_walk w5 b2 _ HX5.out (by rw [strs_len]; omega)).mono ?_
        rintro e w6 ⟨v6, rfl, ho6, hb6⟩
        obtain ⟨A6, c6, rfl, hlc6, hC6⟩ := Kd.R_reads ho6
        have HC6 := Aside0.mk hC6
        have HS6 := Aside0.mk (HS5.out.below hb6)
        have HB6 : Aside0 (Below w.heap.size w w6) := ⟨HB5.out.trans (hb6.mono HB5.out.size)⟩
        clear ho6 hlc6 hC6 hb6 HS5 HX5 HB5
        have hu2 := uniq_len (strs (wkeys r.f8))
        rw [strs_len] at hu2
        have hbl2 : (bytesOfL (uniq (strs (wkeys r.f8)))).length ≤ 16 := by unfold bytesOfL; rw [List.length_map]; omega
        go_wp2_with fail
        refine (set_add w6 w1.heap.size _ HS6.out A6 _ c6 HC6.out (fun s hs => by have := uniq_small _ HSR.out.2 s hs; unfold maxLen; omega) (by have := HV.out.1; simp only [List.length_append]; omega)).mono ?_
        rintro e w7 ⟨rfl, hs7, hg7⟩
        rw [strs_bytes, ← HST.out] at hs7
        have HS7 := Aside0.mk hs7
        have HB7 : Aside0 (Below w.heap.size w w7) := ⟨HB6.out.grown hg7 HB6.out.size (fun j hj => by cases hj; exact HLT.out)⟩
        clear hs7 hg7 HS6 HB6 HC6
        go_wp2
        go_roundw
        case rel => exact ⟨k + 1, by omega, by go_num, HS7, HB7⟩
        case measure => simp [intOf]; omega
      · obtain rfl : k = l0.length := by omega
        have hall := allTo_len l0 HV.out.2 l0.length (Nat.le_refl _)
        have hl256 := HV.out.1
        have heq : uniq (allTo l0 l0.length) = uniq (strs (l0.flatMap recKeys)) := by
          refine up_ext (up_uniq _) (up_uniq _) (fun x => ?_)
          rw [mem_uniq, mem_uniq, allTo_mem l0 x l0.length (Nat.le_refl _), List.take_length]
        go_wp2_with fail
        refine (rise_walk wr w1.heap.size _ HS.out (by omega)).mono ?_
        rintro e w4 ⟨v4, rfl, ho4, hb4⟩
        rw [heq] at ho4
        have HO4 := Aside0.mk (Kd.R_lower ho4 HB.out.size)
        have HB4 : Aside0 (Below w.heap.size w w4) := ⟨HB.out.trans (hb4.mono HB.out.size)⟩
        clear ho4 hb4 heq
        go_wp2
        go_ret2
        exact ⟨_, by rw [HA.out]; rfl, by rw [HA.out]; exact HO4.out, HB4.out⟩
  · have HA : Aside0 (keysV l0 = ([], wrongV l0)) := ⟨by unfold keysV; rw [if_neg hv]⟩
    have hb : (wrongV l0 != 0) = true := by simpa using hv
    clear hv
    generalize wrongV l0 = v at *
    go_wp2
    go_ret2
    exact ⟨_, by rw [HA.out]; rfl, by rw [HA.out]; exact Kd.R_nil _ _ _ _ _, HB.out⟩
theorem locks_Keys.calls (A0 : Option Addr) (c0 : Nat) (l0 : List (S35)) (r1 : List ByteArray) (r2 : Int) (w : World) (hr0 : Kd.C k35 w A0 l0.length l0) (hc0 : l0.length ≤ c0) (h : locks_Keys.f l0 = some (r1, r2)) :
    Calls Try.prog 28 #[.slice A0 l0.length c0] w fun e w' => ∃ v0_ : Value, e = .returned (.tuple #[v0_, .int .i64 r2]) ∧ Kd.R Kd.string 9 w' w.heap.size (fun _ => True) v0_ r1 ∧ Below w.heap.size w w' := by
  unfold locks_Keys.f at h
  split at h
  · rename_i hs
    have he : keysV l0 = (r1, r2) := by simpa using h
    have := keys_walk A0 c0 l0 w hr0 hc0 (fun r hr => sizesOk_of r (List.all_eq_true.1 hs r hr))
    rw [he] at this
    exact this
  · cases h
end Go.Proofs.Ytaldfbmjmpkmmaa.PL.Lk
