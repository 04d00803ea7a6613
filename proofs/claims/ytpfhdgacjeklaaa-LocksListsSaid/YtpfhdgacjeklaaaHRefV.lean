/- Closed forms of the document's answers, as the print tells them: once there are rounds enough. -/
-- IMPORTS
import Derived.Test.YtpfhdgacjeklaaaPLocks0
import Derived.Test.YtpfhdgacjeklaaaPLocksf37
import Derived.Test.YtpfhdgacjeklaaaPLocksf13
import Derived.Test.YtpfhdgacjeklaaaPLocksg1
import Derived.Test.YtpfhdgacjeklaaaPLocksf41
import Derived.Test.YtpfhdgacjeklaaaPLocksf18
-- END IMPORTS
import Derived.Test.YtpfhdgacjeklaaaHRefP
import Derived.Test.YtpfhdgacjeklaaaHBlock
namespace Go.Proofs.Ytpfhdgacjeklaaa.PLocks
open Go.RowKit Go.Proofs.YtpfhdgacjeklaaaW.PrintWords Go.Proofs.YtpfhdgacjeklaaaW.PrintLast Go.Proofs.YtpfhdgacjeklaaaW.PrintMore
set_option linter.unusedVariables false
/-- With rounds enough it is v. -/
def Ev {α : Type} (F : Nat → Option α) (v : α) : Prop := ∃ K, ∀ k, K ≤ k → F k = some v
theorem pred_of {K k : Nat} (h : K + 1 ≤ k) : ∃ m, k = m + 1 ∧ K ≤ m := ⟨k - 1, by omega, by omega⟩

theorem w64n (i n : Nat) (h : i < n) (hn : n ≤ 9223372036854775807) : wrap64 ((i : Int) + 1) = ((i + 1 : Nat) : Int) := by rw [w64 _ (by omega) (by omega)]; omega

theorem sameInts_from (a b : List Int) (hl : a.length = b.length) (hm : a.length ≤ 9223372036854775807) (d : Nat) : ∀ i, i + d = a.length → Ev (fun k => corncribbook_SameInts.l0 k a b (i : Int)) (decide (a.drop i = b.drop i)) := by
  induction d with
  | zero =>
    intro i hd
    refine ⟨1, fun k hk => ?_⟩
    obtain ⟨m, rfl, hm⟩ := pred_of (K := 0) hk
    show corncribbook_SameInts.l0 (m + 1) a b (i : Int) = _
    simp only [corncribbook_SameInts.l0]
    rw [if_neg (by omega), List.drop_of_length_le (by omega), List.drop_of_length_le (by omega)]
    rfl
  | succ d ih =>
    intro i hd
    obtain ⟨K, hK⟩ := ih (i + 1) (by omega)
    refine ⟨K + 1, fun k hk => ?_⟩
    obtain ⟨m, rfl, hm'⟩ := pred_of hk
    have ha : i < a.length := by omega
    have hb : i < b.length := by omega
    show corncribbook_SameInts.l0 (m + 1) a b (i : Int) = _
    simp only [corncribbook_SameInts.l0]
    have ra : rd a (i : Int) = a[i] := by unfold rd; simp [List.getElem?_eq_getElem ha]
    have rb : rd b (i : Int) = b[i] := by unfold rd; simp [List.getElem?_eq_getElem hb]
    rw [if_pos (by omega), if_pos (by omega), if_pos (by omega), ra, rb, List.drop_eq_getElem_cons ha, List.drop_eq_getElem_cons hb, w64n i _ ha hm]
    by_cases e : a[i] = b[i]
    · rw [if_pos e]
      refine (hK m hm').trans ?_
      simp only [List.cons.injEq, e, true_and]
    · rw [if_neg e]
      simp only [List.cons.injEq, e, false_and, decide_false]
theorem sameInts_f (a b : List Int) (hm : a.length ≤ 9223372036854775807) : Ev (fun k => corncribbook_SameInts.f k a b) (decide (a = b)) := by
  by_cases h : a.length = b.length
  · obtain ⟨K, hK⟩ := sameInts_from a b h hm a.length 0 (by omega)
    refine ⟨K, fun k hk => ?_⟩
    show corncribbook_SameInts.f k a b = _
    unfold corncribbook_SameInts.f
    rw [if_pos (by omega)]
    exact hK k hk
  · refine ⟨0, fun k _ => ?_⟩
    show corncribbook_SameInts.f k a b = _
    unfold corncribbook_SameInts.f
    rw [if_neg (by omega)]
    have : a ≠ b := fun e => h (by rw [e])
    simp [this]
/-- A record is the same as itself. -/
theorem sameTexts_from (a : List ByteArray) (hm : a.length ≤ 9223372036854775807) (d : Nat) : ∀ i, i + d = a.length → Ev (fun k => corncribbook_SameTexts.l0 k a a (i : Int)) true := by
  induction d with
  | zero =>
    intro i hd
    refine ⟨1, fun k hk => ?_⟩
    obtain ⟨m, rfl, hm⟩ := pred_of (K := 0) hk
    show corncribbook_SameTexts.l0 (m + 1) a a (i : Int) = _
    simp only [corncribbook_SameTexts.l0]
    rw [if_neg (by omega)]
  | succ d ih =>
    intro i hd
    obtain ⟨K, hK⟩ := ih (i + 1) (by omega)
    refine ⟨K + 1, fun k hk => ?_⟩
    obtain ⟨m, rfl, hm'⟩ := pred_of hk
    have ha : i < a.length := by omega
    show corncribbook_SameTexts.l0 (m + 1) a a (i : Int) = _
    simp only [corncribbook_SameTexts.l0]
    rw [if_pos (by omega), if_pos (by omega), if_pos (by omega), if_pos trivial, w64n i _ ha hm]
    exact hK m hm'
theorem sameTexts_f (a : List ByteArray) (hm : a.length ≤ 9223372036854775807) : Ev (fun k => corncribbook_SameTexts.f k a a) true := by
  obtain ⟨K, hK⟩ := sameTexts_from a hm a.length 0 (by omega)
  refine ⟨K, fun k hk => ?_⟩
  show corncribbook_SameTexts.f k a a = _
  unfold corncribbook_SameTexts.f
  rw [if_pos rfl]
  exact hK k hk
theorem sameWrites_from (a : List S62) (hm : a.length ≤ 9223372036854775807) (d : Nat) : ∀ i, i + d = a.length → Ev (fun k => corncribbook_SameWrites.l0 k a a (i : Int)) true := by
  induction d with
  | zero =>
    intro i hd
    refine ⟨1, fun k hk => ?_⟩
    obtain ⟨m, rfl, hm⟩ := pred_of (K := 0) hk
    show corncribbook_SameWrites.l0 (m + 1) a a (i : Int) = _
    simp only [corncribbook_SameWrites.l0]
    rw [if_neg (by omega)]
  | succ d ih =>
    intro i hd
    obtain ⟨K, hK⟩ := ih (i + 1) (by omega)
    refine ⟨K + 1, fun k hk => ?_⟩
    obtain ⟨m, rfl, hm'⟩ := pred_of hk
    have ha : i < a.length := by omega
    show corncribbook_SameWrites.l0 (m + 1) a a (i : Int) = _
    simp only [corncribbook_SameWrites.l0]
    rw [if_pos (by omega), if_pos (by omega), if_pos (by omega), if_neg (by simp), w64n i _ ha hm]
    exact hK m hm'
theorem sameWrites_f (a : List S62) (hm : a.length ≤ 9223372036854775807) : Ev (fun k => corncribbook_SameWrites.f k a a) true := by
  obtain ⟨K, hK⟩ := sameWrites_from a hm a.length 0 (by omega)
  refine ⟨K, fun k hk => ?_⟩
  show corncribbook_SameWrites.f k a a = _
  unfold corncribbook_SameWrites.f
  rw [if_pos rfl]
  exact hK k hk
theorem sameRecord_f (r : S25) (h : sizesOk r) : Ev (fun k => corncribbook_SameRecord.f k r.f0 r.f1 r.f2 r.f3 r.f4 r.f5 r.f6 r.f7 r.f8 r.f0 r.f1 r.f2 r.f3 r.f4 r.f5 r.f6 r.f7 r.f8) true := by
  obtain ⟨K1, h1⟩ := sameTexts_f r.f7 (by have := h.1; omega)
  obtain ⟨K2, h2⟩ := sameWrites_f r.f8 (by have := h.2; omega)
  refine ⟨K1 + K2, fun k hk => ?_⟩
  show corncribbook_SameRecord.f k r.f0 r.f1 r.f2 r.f3 r.f4 r.f5 r.f6 r.f7 r.f8 r.f0 r.f1 r.f2 r.f3 r.f4 r.f5 r.f6 r.f7 r.f8 = _
  unfold corncribbook_SameRecord.f
  have e1 := h1 k (by omega)
  have e2 := h2 k (by omega)
  simp only at e1 e2
  rw [if_pos rfl, if_pos rfl, if_pos rfl, if_pos rfl, if_pos rfl, if_pos rfl, if_pos (by simp), e1, Option.bind_some, if_pos rfl, e2]
  rfl
theorem kept_from (l : List S25) (hm : l.length ≤ 9223372036854775807) (hs : ∀ r, r ∈ l → sizesOk r) (d : Nat) : ∀ i, i + d = l.length → Ev (fun k => corncriblaw18_kept.l0 k l l (i : Int)) true := by
  induction d with
  | zero =>
    intro i hd
    refine ⟨1, fun k hk => ?_⟩
    obtain ⟨m, rfl, hm⟩ := pred_of (K := 0) hk
    show corncriblaw18_kept.l0 (m + 1) l l (i : Int) = _
    simp only [corncriblaw18_kept.l0]
    rw [if_neg (by omega)]
  | succ d ih =>
    intro i hd
    have ha : i < l.length := by omega
    obtain ⟨K, hK⟩ := ih (i + 1) (by omega)
    obtain ⟨K2, hK2⟩ := sameRecord_f l[i] (hs _ (List.getElem_mem ha))
    refine ⟨K + K2 + 1, fun k hk => ?_⟩
    obtain ⟨m, rfl, hm'⟩ := pred_of hk
    show corncriblaw18_kept.l0 (m + 1) l l (i : Int) = _
    simp only [corncriblaw18_kept.l0]
    have e1 := hK2 m (by omega)
    have e2 := hK m (by omega)
    simp only at e1 e2
    rw [if_pos (by omega), if_pos (by omega), if_pos (by omega), rd25_nat l i ha, e1, Option.bind_some, if_pos rfl, w64n i _ ha hm]
    exact e2
theorem kept_f (l : List S25) (hm : l.length ≤ 9223372036854775807) (hs : ∀ r, r ∈ l → sizesOk r) : Ev (fun k => corncriblaw18_kept.f k l l) true := kept_from l hm hs l.length 0 (by omega)
theorem copy_f (r : S25) (h7 : r.f7.length < 8796093022208) (h8 : r.f8.length < 3518437208883) : corncribbook_CopyRecord.f r.f0 r.f1 r.f2 r.f3 r.f4 r.f5 r.f6 r.f7 r.f8 = some (r.f0, r.f1, r.f2, r.f3, r.f4, r.f5, r.f6, r.f7, r.f8) := by
  unfold corncribbook_CopyRecord.f
  simp [h7, h8]
theorem copied_from (l : List S25) (hm : l.length < 1172812402961) (hs : ∀ r, r ∈ l → r.f7.length < 8796093022208 ∧ r.f8.length < 3518437208883) (d : Nat) : ∀ i, i + d = l.length → Ev (fun k => corncriblaw18_copied.l0 k l (l.take i) (i : Int)) l := by
  induction d with
  | zero =>
    intro i hd
    refine ⟨1, fun k hk => ?_⟩
    obtain ⟨m, rfl, hm⟩ := pred_of (K := 0) hk
    show corncriblaw18_copied.l0 (m + 1) l (l.take i) (i : Int) = _
    simp only [corncriblaw18_copied.l0]
    rw [if_neg (by omega), List.take_of_length_le (by omega)]
  | succ d ih =>
    intro i hd
    have ha : i < l.length := by omega
    obtain ⟨K, hK⟩ := ih (i + 1) (by omega)
    refine ⟨K + 1, fun k hk => ?_⟩
    obtain ⟨m, rfl, hm'⟩ := pred_of hk
    show corncriblaw18_copied.l0 (m + 1) l (l.take i) (i : Int) = _
    simp only [corncriblaw18_copied.l0]
    have hr := hs _ (List.getElem_mem ha)
    have e2 := hK m hm'
    simp only at e2
    rw [if_pos (by omega), if_pos (by omega), rd25_nat l i ha, copy_f _ hr.1 hr.2, Option.bind_some, if_pos (by simp; omega), w64n i _ ha (by omega)]
    rw [List.take_succ_eq_append_getElem ha] at e2
    exact e2
theorem copied_f (l : List S25) (hm : l.length < 1172812402961) (hs : ∀ r, r ∈ l → r.f7.length < 8796093022208 ∧ r.f8.length < 3518437208883) : Ev (fun k => corncriblaw18_copied.f k l) l := copied_from l hm hs l.length 0 (by omega)
end Go.Proofs.Ytpfhdgacjeklaaa.PLocks
