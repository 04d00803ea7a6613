/- Closed forms of the document's Clash and Blockers, as the print tells them. -/
-- IMPORTS
import Derived.Test.YtpfhdgacjeklaaaPLocks0
import Derived.Test.YtpfhdgacjeklaaaPLocksf38
import Derived.Test.YtpfhdgacjeklaaaPLocksf63
import Derived.Test.YtpfhdgacjeklaaaPLocksf39
import Derived.Test.YtpfhdgacjeklaaaPLocksf14
import Derived.Test.YtpfhdgacjeklaaaPLocksf40
import Derived.Test.YtpfhdgacjeklaaaPLocksf16
import Derived.Test.YtpfhdgacjeklaaaHRefC
-- END IMPORTS
import Derived.Test.YtpfhdgacjeklaaaHRefV
import Derived.Test.YtpfhdgacjeklaaaHRefC
namespace Go.Proofs.Ytpfhdgacjeklaaa.PLocks
open Go.RowKit Go.Proofs.YtpfhdgacjeklaaaW.PrintWords Go.Proofs.YtpfhdgacjeklaaaW.PrintLast Go.Proofs.YtpfhdgacjeklaaaW.PrintMore
set_option linter.unusedVariables false
set_option linter.unusedSimpArgs false
theorem refCheck_f (r : S25) (h : sizesOk r) : corncribref08_Check.f r.f0 r.f1 r.f2 r.f3 r.f4 r.f5 r.f6 r.f7 r.f8 = some (recVR r) := by
  unfold corncribref08_Check.f recVR
  exact if_pos h
theorem may_from (l : List S25) (hm : l.length ≤ 9223372036854775807) (hs : ∀ r, r ∈ l → sizesOk r) (d : Nat) : ∀ i, i + d = l.length → Ev (fun k => corncribref18_may.l0 k l (i : Int)) (if (l.drop i).all prepB = true then 0 else 80) := by
  induction d with
  | zero =>
    intro i hd
    refine ⟨1, fun k hk => ?_⟩
    obtain ⟨m, rfl, hm⟩ := pred_of (K := 0) hk
    show corncribref18_may.l0 (m + 1) l (i : Int) = _
    simp only [corncribref18_may.l0]
    rw [if_neg (by omega), List.drop_of_length_le (by omega)]
    rfl
  | succ d ih =>
    intro i hd
    have ha : i < l.length := by omega
    obtain ⟨K, hK⟩ := ih (i + 1) (by omega)
    refine ⟨K + 1, fun k hk => ?_⟩
    obtain ⟨m, rfl, hm'⟩ := pred_of hk
    show corncribref18_may.l0 (m + 1) l (i : Int) = _
    simp only [corncribref18_may.l0]
    rw [if_pos (by omega), if_pos (by omega), rd25_nat l i ha, refCheck_f _ (hs _ (List.getElem_mem ha)), List.drop_eq_getElem_cons ha, List.all_cons, w64n i _ ha hm]
    by_cases c1 : l[i].f0 = 1
    · rw [if_pos c1, Option.bind_some]
      by_cases c2 : recVR l[i] = 0
      · rw [if_pos c2]
        refine (hK m hm').trans ?_
        simp [prepB, c1, c2]
      · rw [if_neg c2]
        simp [prepB, c1, c2]
    · rw [if_neg c1]
      simp [prepB, c1]
theorem may_f (l : List S25) (hm : l.length ≤ 9223372036854775807) (hs : ∀ r, r ∈ l → sizesOk r) : Ev (fun k => corncribref18_may.f k l) (if l.all prepB = true then 0 else 80) := may_from l hm hs l.length 0 (by omega)
theorem list_f (l : List S25) (hm : l.length ≤ 9223372036854775807) (hs : ∀ r, r ∈ l → sizesOk r) : Ev (fun k => corncribref18_list.f k l) (wrongV l) := by
  obtain ⟨K, hK⟩ := may_f l hm hs
  refine ⟨K, fun k hk => ?_⟩
  show corncribref18_list.f k l = _
  unfold corncribref18_list.f wrongV
  have e := hK k hk
  simp only at e
  by_cases h : 256 < l.length
  · rw [if_pos (by omega), if_pos h]
  · rw [if_neg (by omega), if_neg h, e, Option.bind_some]
/-- Does a record read or write a key? -/
def touchB (r : S25) (s : ByteArray) : Bool := (strs r.f7).contains s.data.toList || (strs (wkeys r.f8)).contains s.data.toList
theorem touch1_from (s : ByteArray) (r : S25) (hm : r.f8.length ≤ 9223372036854775807) (d : Nat) : ∀ i, i + d = r.f8.length →
    Ev (fun k => corncribref18_touches.l1 k s (i : Int) r.f0 r.f1 r.f2 r.f3 r.f4 r.f5 r.f6 r.f7 r.f8) ((strs (wkeys (r.f8.drop i))).contains s.data.toList) := by
  induction d with
  | zero =>
    intro i hd
    refine ⟨1, fun k hk => ?_⟩
    obtain ⟨m, rfl, hm⟩ := pred_of (K := 0) hk
    show corncribref18_touches.l1 (m + 1) s (i : Int) r.f0 r.f1 r.f2 r.f3 r.f4 r.f5 r.f6 r.f7 r.f8 = _
    simp only [corncribref18_touches.l1]
    rw [if_neg (by omega), List.drop_of_length_le (by omega)]
    rfl
  | succ d ih =>
    intro i hd
    have ha : i < r.f8.length := by omega
    obtain ⟨K, hK⟩ := ih (i + 1) (by omega)
    refine ⟨K + 1, fun k hk => ?_⟩
    obtain ⟨m, rfl, hm'⟩ := pred_of hk
    show corncribref18_touches.l1 (m + 1) s (i : Int) r.f0 r.f1 r.f2 r.f3 r.f4 r.f5 r.f6 r.f7 r.f8 = _
    simp only [corncribref18_touches.l1]
    rw [if_pos (by omega), if_pos (by omega), rd62_nat r.f8 i ha, w64n i _ ha hm, List.drop_eq_getElem_cons ha, ByteArray.toList_eq, ByteArray.toList_eq]
    by_cases c : r.f8[i].f0.data.toList = s.data.toList
    · rw [if_pos c]
      simp only [wkeys, strs, List.map_cons, List.contains_cons, c, beq_self_eq_true, Bool.true_or]
    · rw [if_neg c]
      refine (hK m hm').trans ?_
      have c' : (s.data.toList == r.f8[i].f0.data.toList) = false := beq_false_of_ne (fun e => c e.symm)
      simp only [wkeys, strs, List.map_cons, List.contains_cons, c', Bool.false_or]
theorem touch0_from (s : ByteArray) (r : S25) (hm7 : r.f7.length ≤ 9223372036854775807) (hm : r.f8.length ≤ 9223372036854775807) (d : Nat) : ∀ i, i + d = r.f7.length →
    Ev (fun k => corncribref18_touches.l0 k s (i : Int) r.f0 r.f1 r.f2 r.f3 r.f4 r.f5 r.f6 r.f7 r.f8) ((strs (r.f7.drop i)).contains s.data.toList || (strs (wkeys r.f8)).contains s.data.toList) := by
  induction d with
  | zero =>
    intro i hd
    obtain ⟨K, hK⟩ := touch1_from s r hm r.f8.length 0 (by omega)
    refine ⟨K + 1, fun k hk => ?_⟩
    obtain ⟨m, rfl, hm'⟩ := pred_of hk
    show corncribref18_touches.l0 (m + 1) s (i : Int) r.f0 r.f1 r.f2 r.f3 r.f4 r.f5 r.f6 r.f7 r.f8 = _
    simp only [corncribref18_touches.l0]
    rw [if_neg (by omega), List.drop_of_length_le (by omega)]
    refine (hK m hm').trans ?_
    simp [strs]
  | succ d ih =>
    intro i hd
    have ha : i < r.f7.length := by omega
    obtain ⟨K, hK⟩ := ih (i + 1) (by omega)
    refine ⟨K + 1, fun k hk => ?_⟩
    obtain ⟨m, rfl, hm'⟩ := pred_of hk
    show corncribref18_touches.l0 (m + 1) s (i : Int) r.f0 r.f1 r.f2 r.f3 r.f4 r.f5 r.f6 r.f7 r.f8 = _
    simp only [corncribref18_touches.l0]
    rw [if_pos (by omega), if_pos (by omega), rdOf_nat r.f7 i ha, w64n i _ ha hm7, List.drop_eq_getElem_cons ha, ByteArray.toList_eq, ByteArray.toList_eq]
    by_cases c : r.f7[i].data.toList = s.data.toList
    · rw [if_pos c]
      simp only [strs, List.map_cons, List.contains_cons, c, beq_self_eq_true, Bool.true_or]
    · rw [if_neg c]
      refine (hK m hm').trans ?_
      have c' : (s.data.toList == r.f7[i].data.toList) = false := beq_false_of_ne (fun e => c e.symm)
      simp only [strs, List.map_cons, List.contains_cons, c', Bool.false_or]
theorem touch_f (s : ByteArray) (r : S25) (h : sizesOk r) : Ev (fun k => corncribref18_touches.f k r.f0 r.f1 r.f2 r.f3 r.f4 r.f5 r.f6 r.f7 r.f8 s) (touchB r s) :=
  touch0_from s r (by have := h.1; omega) (by have := h.2; omega) r.f7.length 0 (by omega)
theorem refclash1_from (a b : S25) (ha : sizesOk a) (hb : sizesOk b) (d : Nat) : ∀ i, i + d = b.f8.length →
    Ev (fun k => corncribref18_clash.l1 k (i : Int) a.f0 a.f1 a.f2 a.f3 a.f4 a.f5 a.f6 a.f7 a.f8 b.f0 b.f1 b.f2 b.f3 b.f4 b.f5 b.f6 b.f7 b.f8) ((b.f8.drop i).any (fun x => touchB a x.f0)) := by
  induction d with
  | zero =>
    intro i hd
    refine ⟨1, fun k hk => ?_⟩
    obtain ⟨m, rfl, hm⟩ := pred_of (K := 0) hk
    show corncribref18_clash.l1 (m + 1) (i : Int) a.f0 a.f1 a.f2 a.f3 a.f4 a.f5 a.f6 a.f7 a.f8 b.f0 b.f1 b.f2 b.f3 b.f4 b.f5 b.f6 b.f7 b.f8 = _
    simp only [corncribref18_clash.l1]
    rw [if_neg (by omega), List.drop_of_length_le (by omega)]
    rfl
  | succ d ih =>
    intro i hd
    have hi : i < b.f8.length := by omega
    have hm : b.f8.length ≤ 9223372036854775807 := by have := hb.2; omega
    obtain ⟨K, hK⟩ := ih (i + 1) (by omega)
    obtain ⟨K2, hK2⟩ := touch_f b.f8[i].f0 a ha
    refine ⟨K + K2 + 1, fun k hk => ?_⟩
    obtain ⟨m, rfl, hm'⟩ := pred_of hk
    show corncribref18_clash.l1 (m + 1) (i : Int) a.f0 a.f1 a.f2 a.f3 a.f4 a.f5 a.f6 a.f7 a.f8 b.f0 b.f1 b.f2 b.f3 b.f4 b.f5 b.f6 b.f7 b.f8 = _
    simp only [corncribref18_clash.l1]
    have e1 := hK2 m (by omega)
    simp only at e1
    rw [if_pos (by omega), if_pos (by omega), rd62_nat b.f8 i hi, e1, Option.bind_some, w64n i _ hi hm, List.drop_eq_getElem_cons hi, List.any_cons]
    cases touchB a b.f8[i].f0 with
    | true => rw [if_pos rfl]; rfl
    | false =>
      rw [if_neg (by decide)]
      exact (hK m (by omega)).trans (by simp)
theorem refclash0_from (a b : S25) (ha : sizesOk a) (hb : sizesOk b) (d : Nat) : ∀ i, i + d = a.f8.length →
    Ev (fun k => corncribref18_clash.l0 k (i : Int) a.f0 a.f1 a.f2 a.f3 a.f4 a.f5 a.f6 a.f7 a.f8 b.f0 b.f1 b.f2 b.f3 b.f4 b.f5 b.f6 b.f7 b.f8) ((a.f8.drop i).any (fun x => touchB b x.f0) || b.f8.any (fun x => touchB a x.f0)) := by
  induction d with
  | zero =>
    intro i hd
    obtain ⟨K, hK⟩ := refclash1_from a b ha hb b.f8.length 0 (by omega)
    refine ⟨K + 1, fun k hk => ?_⟩
    obtain ⟨m, rfl, hm'⟩ := pred_of hk
    show corncribref18_clash.l0 (m + 1) (i : Int) a.f0 a.f1 a.f2 a.f3 a.f4 a.f5 a.f6 a.f7 a.f8 b.f0 b.f1 b.f2 b.f3 b.f4 b.f5 b.f6 b.f7 b.f8 = _
    simp only [corncribref18_clash.l0]
    rw [if_neg (by omega), List.drop_of_length_le (by omega)]
    exact (hK m hm').trans (by simp)
  | succ d ih =>
    intro i hd
    have hi : i < a.f8.length := by omega
    have hm : a.f8.length ≤ 9223372036854775807 := by have := ha.2; omega
    obtain ⟨K, hK⟩ := ih (i + 1) (by omega)
    obtain ⟨K2, hK2⟩ := touch_f a.f8[i].f0 b hb
    refine ⟨K + K2 + 1, fun k hk => ?_⟩
    obtain ⟨m, rfl, hm'⟩ := pred_of hk
    show corncribref18_clash.l0 (m + 1) (i : Int) a.f0 a.f1 a.f2 a.f3 a.f4 a.f5 a.f6 a.f7 a.f8 b.f0 b.f1 b.f2 b.f3 b.f4 b.f5 b.f6 b.f7 b.f8 = _
    simp only [corncribref18_clash.l0]
    have e1 := hK2 m (by omega)
    simp only at e1
    rw [if_pos (by omega), if_pos (by omega), rd62_nat a.f8 i hi, e1, Option.bind_some, w64n i _ hi hm, List.drop_eq_getElem_cons hi, List.any_cons]
    cases touchB b a.f8[i].f0 with
    | true => rw [if_pos rfl]; rfl
    | false =>
      rw [if_neg (by decide)]
      exact (hK m (by omega)).trans (by simp)
theorem any_strs (l : List S62) (p : List UInt8 → Bool) : (strs (wkeys l)).any p = l.any (fun x => p x.f0.data.toList) := by
  unfold strs wkeys
  rw [List.any_map, List.any_map]
  rfl
theorem any_or' {α : Type} (a : List α) (p q : α → Bool) : a.any (fun k => p k || q k) = (a.any p || a.any q) := by
  induction a with
  | nil => rfl
  | cons x r ih => rw [List.any_cons, List.any_cons, List.any_cons, ih]; cases p x <;> cases q x <;> simp
theorem refclash_eq (a b : S25) : (a.f8.any (fun x => touchB b x.f0) || b.f8.any (fun x => touchB a x.f0)) = clashR a b := by
  have hsym : b.f8.any (fun x => (strs (wkeys a.f8)).contains x.f0.data.toList) = a.f8.any (fun x => (strs (wkeys b.f8)).contains x.f0.data.toList) := by
    rw [Bool.eq_iff_iff, List.any_eq_true, List.any_eq_true]
    constructor
    · rintro ⟨x, hx, h⟩
      have h2 : x.f0.data.toList ∈ strs (wkeys a.f8) := by simpa using h
      obtain ⟨y, hy, e⟩ : ∃ y, y ∈ a.f8 ∧ y.f0.data.toList = x.f0.data.toList := by simpa [strs, wkeys] using h2
      exact ⟨y, hy, by simp only [List.contains_iff_mem]; rw [e]; simp only [strs, wkeys, List.map_map, List.mem_map]; exact ⟨x, hx, rfl⟩⟩
    · rintro ⟨x, hx, h⟩
      have h2 : x.f0.data.toList ∈ strs (wkeys b.f8) := by simpa using h
      obtain ⟨y, hy, e⟩ : ∃ y, y ∈ b.f8 ∧ y.f0.data.toList = x.f0.data.toList := by simpa [strs, wkeys] using h2
      exact ⟨y, hy, by simp only [List.contains_iff_mem]; rw [e]; simp only [strs, wkeys, List.map_map, List.mem_map]; exact ⟨x, hx, rfl⟩⟩
  unfold clashR clashB touchB
  rw [any_strs, any_strs, any_or', any_or', hsym]
  cases a.f8.any (fun x => (strs b.f7).contains x.f0.data.toList) <;> cases a.f8.any (fun x => (strs (wkeys b.f8)).contains x.f0.data.toList) <;> cases b.f8.any (fun x => (strs a.f7).contains x.f0.data.toList) <;> rfl
theorem refclash_f (a b : S25) (ha : sizesOk a) (hb : sizesOk b) : Ev (fun k => corncribref18_clash.f k a.f0 a.f1 a.f2 a.f3 a.f4 a.f5 a.f6 a.f7 a.f8 b.f0 b.f1 b.f2 b.f3 b.f4 b.f5 b.f6 b.f7 b.f8) (clashR a b) := by
  rw [← refclash_eq]
  exact refclash0_from a b ha hb a.f8.length 0 (by omega)
theorem refClash_f (a b : S25) (ha : sizesOk a) (hb : sizesOk b) : Ev (fun k => corncribref18_Clash.f k a.f0 a.f1 a.f2 a.f3 a.f4 a.f5 a.f6 a.f7 a.f8 b.f0 b.f1 b.f2 b.f3 b.f4 b.f5 b.f6 b.f7 b.f8) (ClashV a b) := by
  have hw : wrongV [a, b] = if [a, b].all prepB = true then 0 else 80 := by unfold wrongV; rw [if_neg (by simp)]
  obtain ⟨K1, h1⟩ := may_f [a, b] (by simp) (fun r hr => by rcases List.mem_cons.1 hr with rfl | hr; exact ha; rcases List.mem_cons.1 hr with rfl | hr; exact hb; cases hr)
  obtain ⟨K2, h2⟩ := refclash_f a b ha hb
  refine ⟨K1 + K2, fun k hk => ?_⟩
  have e1 := h1 k (by omega)
  have e2 := h2 k (by omega)
  simp only at e1 e2
  show corncribref18_Clash.f k a.f0 a.f1 a.f2 a.f3 a.f4 a.f5 a.f6 a.f7 a.f8 b.f0 b.f1 b.f2 b.f3 b.f4 b.f5 b.f6 b.f7 b.f8 = _
  unfold corncribref18_Clash.f
  rw [show ([(⟨a.f0, a.f1, a.f2, a.f3, a.f4, a.f5, a.f6, a.f7, a.f8⟩ : S25), (⟨b.f0, b.f1, b.f2, b.f3, b.f4, b.f5, b.f6, b.f7, b.f8⟩ : S25)] : List S25) = [a, b] from rfl, e1, Option.bind_some, ← hw, e2]
  unfold ClashV
  by_cases h : wrongV [a, b] = 0
  · rw [if_pos h, if_pos h]; rfl
  · rw [if_neg h, if_neg h]
theorem refBlock_from (l : List S25) (r : S25) (hm : l.length ≤ 256) (hs : ∀ x, x ∈ l → sizesOk x) (hr : sizesOk r) (d : Nat) : ∀ i, i + d = l.length →
    Ev (fun k => corncribref18_Blockers.l0 k l (blockTo l r i) (i : Int) r.f0 r.f1 r.f2 r.f3 r.f4 r.f5 r.f6 r.f7 r.f8) (blockTo l r l.length, 0) := by
  induction d with
  | zero =>
    intro i hd
    refine ⟨1, fun k hk => ?_⟩
    obtain ⟨m, rfl, hm⟩ := pred_of (K := 0) hk
    show corncribref18_Blockers.l0 (m + 1) l (blockTo l r i) (i : Int) r.f0 r.f1 r.f2 r.f3 r.f4 r.f5 r.f6 r.f7 r.f8 = _
    simp only [corncribref18_Blockers.l0]
    rw [if_neg (by omega), show i = l.length by omega]
  | succ d ih =>
    intro i hd
    have hi : i < l.length := by omega
    obtain ⟨K, hK⟩ := ih (i + 1) (by omega)
    obtain ⟨K2, hK2⟩ := refclash_f l[i] r (hs _ (List.getElem_mem hi)) hr
    refine ⟨K + K2 + 1, fun k hk => ?_⟩
    obtain ⟨m, rfl, hm'⟩ := pred_of hk
    show corncribref18_Blockers.l0 (m + 1) l (blockTo l r i) (i : Int) r.f0 r.f1 r.f2 r.f3 r.f4 r.f5 r.f6 r.f7 r.f8 = _
    simp only [corncribref18_Blockers.l0]
    have e1 := hK2 m (by omega)
    have e2 := hK m (by omega)
    simp only at e1 e2
    have hlen := blockTo_len l r i
    rw [if_pos (by omega), if_pos (by omega), rd25_nat l i hi, e1, Option.bind_some, w64n i _ hi (by omega)]
    have hst : blockTo l r (i + 1) = if clashR l[i] r = true then blockTo l r i ++ [(i : Int)] else blockTo l r i := by
      show (if clashR (rd_T25 l (i : Int)) r = true then blockTo l r i ++ [(i : Int)] else blockTo l r i) = _
      rw [rd25_nat l i hi]
    rw [hst] at e2
    cases hc : clashR l[i] r with
    | true =>
      rw [hc, if_pos rfl] at e2
      rw [if_pos rfl, if_pos (by omega)]
      exact e2
    | false =>
      rw [hc, if_neg (by decide)] at e2
      rw [if_neg (by decide)]
      exact e2
theorem refBlock_f (l : List S25) (r : S25) (hm : l.length ≤ 9223372036854775807) (hs : ∀ x, x ∈ l → sizesOk x) (hr : sizesOk r) : Ev (fun k => corncribref18_Blockers.f k l r.f0 r.f1 r.f2 r.f3 r.f4 r.f5 r.f6 r.f7 r.f8) (blockV l r) := by
  have hw : wrongV [r] = if [r].all prepB = true then 0 else 80 := by unfold wrongV; rw [if_neg (by simp)]
  obtain ⟨K1, h1⟩ := list_f l hm hs
  obtain ⟨K2, h2⟩ := may_f [r] (by simp) (fun x hx => by rw [List.mem_singleton.1 hx]; exact hr)
  rw [← hw] at h2
  by_cases hv : wrongV l = 0
  · have hl : l.length ≤ 256 := (wrong_zero l hv).1
    obtain ⟨K3, h3⟩ := refBlock_from l r hl hs hr l.length 0 (by omega)
    refine ⟨K1 + K2 + K3, fun k hk => ?_⟩
    have e1 := h1 k (by omega)
    have e2 := h2 k (by omega)
    have e3 := h3 k (by omega)
    simp only at e1 e2 e3
    show corncribref18_Blockers.f k l r.f0 r.f1 r.f2 r.f3 r.f4 r.f5 r.f6 r.f7 r.f8 = _
    unfold corncribref18_Blockers.f blockV
    rw [e1, Option.bind_some, if_pos hv, if_pos hv, show ([(⟨r.f0, r.f1, r.f2, r.f3, r.f4, r.f5, r.f6, r.f7, r.f8⟩ : S25)] : List S25) = [r] from rfl, e2, Option.bind_some]
    by_cases h : wrongV [r] = 0
    · rw [if_pos h, if_pos h]
      exact e3
    · rw [if_neg h, if_neg h]
  · refine ⟨K1, fun k hk => ?_⟩
    have e1 := h1 k (by omega)
    simp only at e1
    show corncribref18_Blockers.f k l r.f0 r.f1 r.f2 r.f3 r.f4 r.f5 r.f6 r.f7 r.f8 = _
    unfold corncribref18_Blockers.f blockV
    rw [e1, Option.bind_some, if_neg hv, if_neg hv]
end Go.Proofs.Ytpfhdgacjeklaaa.PLocks
