/- LocksLists: closed forms of the document's Quiet, Admit, put and Keys, and the walk. -/
-- IMPORTS
import Derived.Test.YtpfhdgacjeklaaaPLocks0
import Derived.Test.YtpfhdgacjeklaaaPLocksf13
import Derived.Test.YtpfhdgacjeklaaaPLocksg1
import Derived.Test.YtpfhdgacjeklaaaPLocksf18
import Derived.Test.YtpfhdgacjeklaaaPLocksg2
import Derived.Test.YtpfhdgacjeklaaaPLocksg3
-- END IMPORTS
import Derived.Test.YtpfhdgacjeklaaaHRise
import Derived.Test.YtpfhdgacjeklaaaHRefW
import Derived.Test.YtpfhdgacjeklaaaHQuiet
import Derived.Test.YtpfhdgacjeklaaaHRefV
import Derived.Test.YtpfhdgacjeklaaaHKeys
import Derived.Test.YtpfhdgacjeklaaaHWorks
import Derived.Test.YtpfhdgacjeklaaaHOpen
namespace Go.Proofs.Ytpfhdgacjeklaaa.PLocks
open Go.RowKit Go.Proofs.YtpfhdgacjeklaaaW.PrintWords Go.Proofs.YtpfhdgacjeklaaaW.PrintLast Go.Proofs.YtpfhdgacjeklaaaW.PrintMore
open Mk (putL uniq Up)
set_option linter.unusedVariables false
set_option linter.unusedSimpArgs false
theorem clashR_swap (a b : S25) : clashR a b = clashR b a := by
  rw [← refclash_eq, ← refclash_eq, Bool.or_comm]
/-! ### Admit -/
theorem refAdmit1 (l : List S25) (hs : ∀ x, x ∈ l → sizesOk x) (hm : l.length ≤ 256) (i : Nat) (hi : i < l.length) (a : List Int) (ha : ∀ j, j ∈ a → 0 ≤ j ∧ j < (i : Int)) (hal : a.length ≤ i) (R : List Int × Int) (d : Nat) :
    ∀ (j : Nat) (ok : Bool), j + d = a.length → Ev (fun k => corncribref18_Admit.l0 k l (if (ok && !(a.drop j).any (fun x => clashR (rd_T25 l x) l[i])) = true then a ++ [(i : Int)] else a) ((i + 1 : Nat) : Int)) R →
      Ev (fun k => corncribref18_Admit.l1 k l a (i : Int) ok (j : Int)) R := by
  induction d with
  | zero =>
    intro j ok hd hn
    obtain ⟨K, hK⟩ := hn
    refine ⟨K + 1, fun k hk => ?_⟩
    obtain ⟨m, rfl, hm'⟩ := pred_of hk
    show corncribref18_Admit.l1 (m + 1) l a (i : Int) ok (j : Int) = _
    have e := hK m hm'
    simp only [List.drop_of_length_le (show a.length ≤ j by omega), List.any_nil, Bool.not_false, Bool.and_true] at e
    simp only [corncribref18_Admit.l1]
    rw [if_neg (by omega), w64n i _ hi (by omega)]
    cases ok with
    | true =>
      rw [if_pos rfl, if_pos (by omega)]
      simpa using e
    | false =>
      rw [if_neg (by decide)]
      simpa using e
  | succ d ih =>
    intro j ok hd hn
    have hj : j < a.length := by omega
    have hmem := ha _ (List.getElem_mem hj)
    have hrd : rd a (j : Int) = a[j] := by unfold rd; simp [List.getElem?_eq_getElem hj]
    rw [List.drop_eq_getElem_cons hj, List.any_cons] at hn
    cases ok with
    | false =>
      obtain ⟨K, hK⟩ := ih (j + 1) false (by omega) (by simpa using hn)
      refine ⟨K + 1, fun k hk => ?_⟩
      obtain ⟨m, rfl, hm'⟩ := pred_of hk
      show corncribref18_Admit.l1 (m + 1) l a (i : Int) false (j : Int) = _
      simp only [corncribref18_Admit.l1]
      rw [if_pos (by omega), if_neg (by decide), w64n j _ hj (by omega)]
      exact hK m hm'
    | true =>
      obtain ⟨n, hn'⟩ : ∃ n : Nat, a[j] = (n : Int) := ⟨a[j].toNat, by omega⟩
      have hnl : n < l.length := by omega
      obtain ⟨K2, hK2⟩ := refclash_f l[i] l[n] (hs _ (List.getElem_mem hi)) (hs _ (List.getElem_mem hnl))
      have hc : clashR (rd_T25 l a[j]) l[i] = clashR l[i] l[n] := by rw [hn', rd25_nat l n hnl, clashR_swap]
      rw [hc] at hn
      obtain ⟨K, hK⟩ := ih (j + 1) (!clashR l[i] l[n]) (by omega) (by cases hcc : clashR l[i] l[n] <;> rw [hcc] at hn <;> simpa using hn)
      refine ⟨K + K2 + 1, fun k hk => ?_⟩
      obtain ⟨m, rfl, hm'⟩ := pred_of hk
      show corncribref18_Admit.l1 (m + 1) l a (i : Int) true (j : Int) = _
      simp only [corncribref18_Admit.l1]
      have e1 := hK2 m (by omega)
      simp only at e1
      rw [if_pos (by omega), if_pos trivial, if_pos (by omega), if_pos (by omega), if_pos (by omega), hrd, hn', if_pos (by omega), if_pos (by omega), rd25_nat l i hi, rd25_nat l n hnl, e1, Option.bind_some, w64n j _ hj (by omega)]
      exact hK m (by omega)
theorem refAdmit0 (l : List S25) (hs : ∀ x, x ∈ l → sizesOk x) (hm : l.length ≤ 256) (d : Nat) : ∀ i, i + d = l.length → Ev (fun k => corncribref18_Admit.l0 k l (admitTo l i) (i : Int)) (admitTo l l.length, 0) := by
  induction d with
  | zero =>
    intro i hd
    refine ⟨1, fun k hk => ?_⟩
    obtain ⟨m, rfl, _⟩ := pred_of (K := 0) hk
    show corncribref18_Admit.l0 (m + 1) l (admitTo l i) (i : Int) = _
    simp only [corncribref18_Admit.l0]
    rw [if_neg (by omega), show i = l.length by omega]
  | succ d ih =>
    intro i hd
    have hi : i < l.length := by omega
    have hnext := ih (i + 1) (by omega)
    have h1 := refAdmit1 l hs hm i hi (admitTo l i) (admitTo_mem l i) (admitTo_len l i) (admitTo l l.length, 0) (admitTo l i).length 0 true (by omega) (by
      have hstep : admitTo l (i + 1) = if (true && !((admitTo l i).drop 0).any (fun x => clashR (rd_T25 l x) l[i])) = true then admitTo l i ++ [(i : Int)] else admitTo l i := by
        show (if (admitTo l i).any (fun j => clashR (rd_T25 l j) (rd_T25 l (i : Int))) = true then admitTo l i else admitTo l i ++ [(i : Int)]) = _
        rw [rd25_nat l i hi, List.drop_zero]
        cases (admitTo l i).any (fun j => clashR (rd_T25 l j) l[i]) <;> rfl
      rw [← hstep]
      exact hnext)
    obtain ⟨K, hK⟩ := h1
    refine ⟨K + 1, fun k hk => ?_⟩
    obtain ⟨m, rfl, hm'⟩ := pred_of hk
    show corncribref18_Admit.l0 (m + 1) l (admitTo l i) (i : Int) = _
    simp only [corncribref18_Admit.l0]
    rw [if_pos (by omega)]
    exact hK m hm'
theorem refAdmit_f (l : List S25) (hm : l.length ≤ 9223372036854775807) (hs : ∀ x, x ∈ l → sizesOk x) : Ev (fun k => corncribref18_Admit.f k l) (admitV l) := by
  obtain ⟨K1, h1⟩ := list_f l hm hs
  by_cases hv : wrongV l = 0
  · obtain ⟨K2, h2⟩ := refAdmit0 l hs (wrong_zero l hv).1 l.length 0 (by omega)
    refine ⟨K1 + K2, fun k hk => ?_⟩
    have e1 := h1 k (by omega)
    have e2 := h2 k (by omega)
    simp only at e1 e2
    show corncribref18_Admit.f k l = _
    unfold corncribref18_Admit.f admitV
    rw [e1, Option.bind_some, if_pos hv, if_pos hv]
    exact e2
  · refine ⟨K1, fun k hk => ?_⟩
    have e1 := h1 k (by omega)
    simp only at e1
    show corncribref18_Admit.f k l = _
    unfold corncribref18_Admit.f admitV
    rw [e1, Option.bind_some, if_neg hv, if_neg hv]
/-! ### Quiet -/
theorem admit_full (l : List S25) : ∀ n, n ≤ l.length → (admitTo l n).length = n → (∀ i, i < n → ∀ k, k < i → clashR (rd_T25 l (k : Int)) (rd_T25 l (i : Int)) = false) ∧ admitTo l n = (List.range n).map (fun m => ((m : Nat) : Int))
  | 0, _, _ => ⟨fun i hi => by omega, rfl⟩
  | n + 1, hn, h => by
    have hlen := admitTo_len l n
    have hs : admitTo l (n + 1) = if (admitTo l n).any (fun j => clashR (rd_T25 l j) (rd_T25 l (n : Int))) = true then admitTo l n else admitTo l n ++ [(n : Int)] := rfl
    rw [hs] at h ⊢
    split at h
    · omega
    · rename_i hc
      rw [if_neg hc]
      have hl : (admitTo l n).length = n := by simpa using h
      obtain ⟨h1, h2⟩ := admit_full l n (by omega) hl
      refine ⟨fun i hi k hk => ?_, by rw [h2, List.range_succ, List.map_append]; rfl⟩
      by_cases e : i = n
      · subst e
        have hc2 : (admitTo l i).any (fun j => clashR (rd_T25 l j) (rd_T25 l (i : Int))) = false := by simpa using hc
        rw [List.any_eq_false] at hc2
        have := hc2 (k : Int) (by rw [h2]; exact List.mem_map.2 ⟨k, List.mem_range.2 hk, rfl⟩)
        simpa using this
      · exact h1 i (by omega) k hk
theorem calm_of (l : List S25) (h : ∀ i, i < l.length → ∀ k, k < i → clashR (rd_T25 l (k : Int)) (rd_T25 l (i : Int)) = false) : Calm l := by
  refine List.pairwise_iff_getElem.2 (fun k i hk hi hki => ?_)
  have := h i hi k hki
  rwa [rd25_nat l k hk, rd25_nat l i hi] at this
theorem refQuiet1 (l : List S25) (hs : ∀ x, x ∈ l → sizesOk x) (hm : l.length ≤ 256) (hw : ¬ (admitTo l l.length).length = l.length → True) (i : Nat) (hi : i < l.length) (d : Nat) : ∀ j, j + d = i →
    (∀ k, k < j → clashR (rd_T25 l (k : Int)) (rd_T25 l (i : Int)) = false) →
    ((∀ k, k < i → clashR (rd_T25 l (k : Int)) (rd_T25 l (i : Int)) = false) → Ev (fun k => corncribref18_Quiet.l0 k l ((i + 1 : Nat) : Int)) ((admitTo l l.length).length == l.length, 0)) →
    Ev (fun k => corncribref18_Quiet.l1 k l (i : Int) (j : Int)) ((admitTo l l.length).length == l.length, 0) := by
  induction d with
  | zero =>
    intro j hd hb hn
    obtain ⟨K, hK⟩ := hn (fun k hk => hb k (by omega))
    refine ⟨K + 1, fun k hk => ?_⟩
    obtain ⟨m, rfl, hm'⟩ := pred_of hk
    show corncribref18_Quiet.l1 (m + 1) l (i : Int) (j : Int) = _
    simp only [corncribref18_Quiet.l1]
    rw [if_neg (by omega), w64n i _ hi (by omega)]
    exact hK m hm'
  | succ d ih =>
    intro j hd hb hn
    have hj : j < l.length := by omega
    obtain ⟨K2, hK2⟩ := refclash_f l[i] l[j] (hs _ (List.getElem_mem hi)) (hs _ (List.getElem_mem hj))
    cases hc : clashR l[i] l[j] with
    | true =>
      refine ⟨K2 + 1, fun k hk => ?_⟩
      obtain ⟨m, rfl, hm'⟩ := pred_of hk
      show corncribref18_Quiet.l1 (m + 1) l (i : Int) (j : Int) = _
      simp only [corncribref18_Quiet.l1]
      have e1 := hK2 m hm'
      simp only at e1
      rw [if_pos (by omega), if_pos (by omega), if_pos (by omega), if_pos (by omega), if_pos (by omega), rd25_nat l i hi, rd25_nat l j hj, e1, Option.bind_some, hc, if_pos rfl]
      have hne : ((admitTo l l.length).length == l.length) = false := by
        rw [beq_eq_false_iff_ne]
        intro hlen
        have := (admit_full l l.length (Nat.le_refl _) hlen).1 i hi j (by omega)
        rw [rd25_nat l i hi, rd25_nat l j hj, clashR_swap, hc] at this
        cases this
      rw [hne]
    | false =>
      obtain ⟨K, hK⟩ := ih (j + 1) (by omega) (fun k hk => by
        by_cases e : k = j
        · rw [e, rd25_nat l i hi, rd25_nat l j hj, clashR_swap, hc]
        · exact hb k (by omega)) hn
      refine ⟨K + K2 + 1, fun k hk => ?_⟩
      obtain ⟨m, rfl, hm'⟩ := pred_of hk
      show corncribref18_Quiet.l1 (m + 1) l (i : Int) (j : Int) = _
      simp only [corncribref18_Quiet.l1]
      have e1 := hK2 m (by omega)
      simp only at e1
      rw [if_pos (by omega), if_pos (by omega), if_pos (by omega), if_pos (by omega), if_pos (by omega), rd25_nat l i hi, rd25_nat l j hj, e1, Option.bind_some, hc, if_neg (by decide), w64n j _ hj (by omega)]
      exact hK m (by omega)
theorem refQuiet0 (l : List S25) (hs : ∀ x, x ∈ l → sizesOk x) (hm : l.length ≤ 256) (d : Nat) : ∀ i, i + d = l.length → (∀ j, j < i → ∀ k, k < j → clashR (rd_T25 l (k : Int)) (rd_T25 l (j : Int)) = false) →
    Ev (fun k => corncribref18_Quiet.l0 k l (i : Int)) ((admitTo l l.length).length == l.length, 0) := by
  induction d with
  | zero =>
    intro i hd hb
    refine ⟨1, fun k hk => ?_⟩
    obtain ⟨m, rfl, _⟩ := pred_of (K := 0) hk
    show corncribref18_Quiet.l0 (m + 1) l (i : Int) = _
    simp only [corncribref18_Quiet.l0]
    have hil : i = l.length := by omega
    rw [if_neg (by omega), calm_admit l (calm_of l (fun j hj => hb j (by omega))) l.length (Nat.le_refl _)]
    simp
  | succ d ih =>
    intro i hd hb
    have hi : i < l.length := by omega
    obtain ⟨K, hK⟩ := refQuiet1 l hs hm (fun _ => trivial) i hi i 0 (by omega) (fun k hk => by omega) (fun hall => ih (i + 1) (by omega) (fun j hj k hk => by
      by_cases e : j = i
      · subst e; exact hall k hk
      · exact hb j (by omega) k hk))
    refine ⟨K + 1, fun k hk => ?_⟩
    obtain ⟨m, rfl, hm'⟩ := pred_of hk
    show corncribref18_Quiet.l0 (m + 1) l (i : Int) = _
    simp only [corncribref18_Quiet.l0]
    rw [if_pos (by omega)]
    exact hK m hm'
theorem refQuiet_f (l : List S25) (hm : l.length ≤ 9223372036854775807) (hs : ∀ x, x ∈ l → sizesOk x) : Ev (fun k => corncribref18_Quiet.f k l) (quietV l) := by
  obtain ⟨K1, h1⟩ := list_f l hm hs
  by_cases hv : wrongV l = 0
  · obtain ⟨K2, h2⟩ := refQuiet0 l hs (wrong_zero l hv).1 l.length 0 (by omega) (fun j hj => by omega)
    refine ⟨K1 + K2, fun k hk => ?_⟩
    have e1 := h1 k (by omega)
    have e2 := h2 k (by omega)
    simp only at e1 e2
    show corncribref18_Quiet.f k l = _
    unfold corncribref18_Quiet.f quietV admitV
    rw [e1, Option.bind_some, if_pos hv, if_pos hv, if_pos rfl]
    exact e2
  · refine ⟨K1, fun k hk => ?_⟩
    have e1 := h1 k (by omega)
    simp only at e1
    show corncribref18_Quiet.f k l = _
    unfold corncribref18_Quiet.f quietV admitV
    rw [e1, Option.bind_some, if_neg hv, if_neg hv, if_neg hv]
end Go.Proofs.Ytpfhdgacjeklaaa.PLocks
namespace Go.Proofs.Ytpfhdgacjeklaaa.PLocks
open Go.RowKit Go.Proofs.YtpfhdgacjeklaaaW.PrintWords Go.Proofs.YtpfhdgacjeklaaaW.PrintLast Go.Proofs.YtpfhdgacjeklaaaW.PrintMore
open Mk (putL uniq Up)
set_option linter.unusedVariables false
set_option linter.unusedSimpArgs false
def putB : List ByteArray → ByteArray → List ByteArray
  | [], s => [s]
  | x :: r, s => if Op.bytesLess x.toList s.toList = true then x :: putB r s else if x.toList = s.toList then x :: r else s :: x :: r
theorem putB_strs (l : List ByteArray) (s : ByteArray) : (putB l s).map (·.data.toList) = putL (l.map (·.data.toList)) s.data.toList := by
  induction l with
  | nil => rfl
  | cons x r ih =>
    rw [List.map_cons]
    unfold putB putL
    rw [bytesLess_eq, ByteArray.toList_eq, ByteArray.toList_eq]
    by_cases h1 : x.data.toList < s.data.toList
    · rw [if_pos (by simpa using h1), if_pos h1, List.map_cons, ih]
    · rw [if_neg (by simpa using h1), if_neg h1]
      by_cases h2 : x.data.toList = s.data.toList
      · rw [if_pos h2, if_pos h2]; rfl
      · rw [if_neg h2, if_neg h2]; rfl
theorem putB_len (l : List ByteArray) (s : ByteArray) : (putB l s).length ≤ l.length + 1 := by
  induction l with
  | nil => simp [putB]
  | cons x r ih =>
    unfold putB
    split
    · simp; omega
    · split
      · simp
      · simp
theorem put_from (l : List ByteArray) (s : ByteArray) (hm : l.length < 8796093022207) (d : Nat) : ∀ i, i + d = l.length → Ev (fun k => corncribref18_put.l0 k l s (i : Int)) (l.take i ++ putB (l.drop i) s) := by
  induction d with
  | zero =>
    intro i hd
    refine ⟨1, fun k hk => ?_⟩
    obtain ⟨m, rfl, _⟩ := pred_of (K := 0) hk
    show corncribref18_put.l0 (m + 1) l s (i : Int) = _
    simp only [corncribref18_put.l0]
    have hil : i = l.length := by omega
    rw [if_neg (by omega), if_pos (by omega), if_pos (by omega)]
    simp only [Option.bind_some, Int.toNat_natCast, List.nil_append, List.length_nil]
    rw [if_pos (by simp; omega), if_pos (by simp; omega), if_pos (by simp; omega), List.drop_of_length_le (by omega)]
    simp [putB]
  | succ d ih =>
    intro i hd
    have hi : i < l.length := by omega
    obtain ⟨K, hK⟩ := ih (i + 1) (by omega)
    refine ⟨K + 1, fun k hk => ?_⟩
    obtain ⟨m, rfl, hm'⟩ := pred_of hk
    show corncribref18_put.l0 (m + 1) l s (i : Int) = _
    simp only [corncribref18_put.l0]
    rw [if_pos (by omega), if_pos (by omega), rdOf_nat l i hi, w64n i _ hi (by omega), List.drop_eq_getElem_cons hi]
    unfold putB
    by_cases h1 : Op.bytesLess l[i].toList s.toList = true
    · rw [if_pos h1, if_pos h1]
      refine (hK m hm').trans ?_
      rw [List.take_succ_eq_append_getElem hi, List.append_assoc]
      rfl
    · rw [if_neg h1, if_neg h1]
      by_cases h2 : l[i].toList = s.toList
      · rw [if_pos h2, if_pos h2, ← List.drop_eq_getElem_cons hi, List.take_append_drop]
      · rw [if_neg h2, if_neg h2, if_pos (by omega)]
        simp only [Option.bind_some, Int.toNat_natCast, List.nil_append, List.length_nil]
        rw [if_pos (by simp; omega), if_pos (by simp; omega), if_pos (by simp; omega), List.drop_eq_getElem_cons hi]
        simp
theorem put_f (l : List ByteArray) (s : ByteArray) (hm : l.length < 8796093022207) : Ev (fun k => corncribref18_put.f k l s) (putB l s) := by
  have h := put_from l s hm l.length 0 (by omega)
  simp only [List.take_zero, List.drop_zero, List.nil_append] at h
  exact h
end Go.Proofs.Ytpfhdgacjeklaaa.PLocks
namespace Go.Proofs.Ytpfhdgacjeklaaa.PLocks
open Go.RowKit Go.Proofs.YtpfhdgacjeklaaaW.PrintWords Go.Proofs.YtpfhdgacjeklaaaW.PrintLast Go.Proofs.YtpfhdgacjeklaaaW.PrintMore
open Mk (putL uniq Up)
set_option linter.unusedVariables false
set_option linter.unusedSimpArgs false
theorem foldB_len (ks : List ByteArray) : ∀ a, (ks.foldl putB a).length ≤ a.length + ks.length := by
  induction ks with
  | nil => intro a; simp
  | cons k r ih =>
    intro a
    have h1 := ih (putB a k)
    have h2 := putB_len a k
    rw [List.foldl_cons, List.length_cons]
    omega
theorem foldB_strs (ks : List ByteArray) : ∀ a, strs (ks.foldl putB a) = (strs ks).foldl putL (strs a) := by
  induction ks with
  | nil => intro a; rfl
  | cons k r ih =>
    intro a
    rw [List.foldl_cons, ih]
    show (strs r).foldl putL (strs (putB a k)) = (strs r).foldl putL (putL (strs a) k.data.toList)
    rw [show strs (putB a k) = putL (strs a) k.data.toList from putB_strs a k]
theorem refKeys2 (l : List S25) (i : Nat) (hi : i < l.length) (hl : l.length ≤ 256) (h8 : l[i].f8.length ≤ 16) (R : List ByteArray × Int) (d : Nat) : ∀ (j : Nat) (a : List ByteArray), j + d = l[i].f8.length → a.length ≤ 100000 + j →
    Ev (fun k => corncribref18_Keys.l0 k l ((wkeys (l[i].f8.drop j)).foldl putB a) ((i + 1 : Nat) : Int)) R → Ev (fun k => corncribref18_Keys.l2 k l a (i : Int) (j : Int)) R := by
  induction d with
  | zero =>
    intro j a hd ha hn
    obtain ⟨K, hK⟩ := hn
    refine ⟨K + 1, fun k hk => ?_⟩
    obtain ⟨m, rfl, hm'⟩ := pred_of hk
    show corncribref18_Keys.l2 (m + 1) l a (i : Int) (j : Int) = _
    have e := hK m hm'
    simp only [List.drop_of_length_le (show l[i].f8.length ≤ j by omega)] at e
    simp only [corncribref18_Keys.l2]
    rw [if_pos (by omega), if_pos (by omega), rd25_nat l i hi, if_neg (by omega), w64n i _ hi (by omega)]
    exact e
  | succ d ih =>
    intro j a hd ha hn
    have hj : j < l[i].f8.length := by omega
    obtain ⟨K2, hK2⟩ := put_f a l[i].f8[j].f0 (by omega)
    have hlen := putB_len a l[i].f8[j].f0
    obtain ⟨K, hK⟩ := ih (j + 1) (putB a l[i].f8[j].f0) (by omega) (by omega) (by
      rw [List.drop_eq_getElem_cons hj] at hn
      exact hn)
    refine ⟨K + K2 + 1, fun k hk => ?_⟩
    obtain ⟨m, rfl, hm'⟩ := pred_of hk
    show corncribref18_Keys.l2 (m + 1) l a (i : Int) (j : Int) = _
    simp only [corncribref18_Keys.l2]
    have e1 := hK2 m (by omega)
    simp only at e1
    rw [if_pos (by omega), if_pos (by omega), rd25_nat l i hi, if_pos (by omega), if_pos (by omega), rd62_nat _ j hj, e1, Option.bind_some, w64n j _ hj (by omega)]
    exact hK m (by omega)
theorem refKeys1 (l : List S25) (i : Nat) (hi : i < l.length) (hl : l.length ≤ 256) (h7 : l[i].f7.length ≤ 16) (R : List ByteArray × Int) (d : Nat) : ∀ (j : Nat) (a : List ByteArray), j + d = l[i].f7.length → a.length ≤ 90000 + j →
    Ev (fun k => corncribref18_Keys.l2 k l ((l[i].f7.drop j).foldl putB a) (i : Int) (0 : Int)) R → Ev (fun k => corncribref18_Keys.l1 k l a (i : Int) (j : Int)) R := by
  induction d with
  | zero =>
    intro j a hd ha hn
    obtain ⟨K, hK⟩ := hn
    refine ⟨K + 1, fun k hk => ?_⟩
    obtain ⟨m, rfl, hm'⟩ := pred_of hk
    show corncribref18_Keys.l1 (m + 1) l a (i : Int) (j : Int) = _
    have e := hK m hm'
    simp only [List.drop_of_length_le (show l[i].f7.length ≤ j by omega)] at e
    simp only [corncribref18_Keys.l1]
    rw [if_pos (by omega), if_pos (by omega), rd25_nat l i hi, if_neg (by omega)]
    exact e
  | succ d ih =>
    intro j a hd ha hn
    have hj : j < l[i].f7.length := by omega
    obtain ⟨K2, hK2⟩ := put_f a l[i].f7[j] (by omega)
    have hlen := putB_len a l[i].f7[j]
    obtain ⟨K, hK⟩ := ih (j + 1) (putB a l[i].f7[j]) (by omega) (by omega) (by
      rw [List.drop_eq_getElem_cons hj] at hn
      exact hn)
    refine ⟨K + K2 + 1, fun k hk => ?_⟩
    obtain ⟨m, rfl, hm'⟩ := pred_of hk
    show corncribref18_Keys.l1 (m + 1) l a (i : Int) (j : Int) = _
    simp only [corncribref18_Keys.l1]
    have e1 := hK2 m (by omega)
    simp only at e1
    rw [if_pos (by omega), if_pos (by omega), rd25_nat l i hi, if_pos (by omega), if_pos (by omega), rdOf_nat _ j hj, e1, Option.bind_some, w64n j _ hj (by omega)]
    exact hK m (by omega)
theorem refKeys0 (l : List S25) (hl : l.length ≤ 256) (hp : ∀ r, r ∈ l → prepB r = true) (d : Nat) : ∀ i, i + d = l.length → Ev (fun k => corncribref18_Keys.l0 k l (((l.take i).flatMap recKeys).foldl putB []) (i : Int)) ((l.flatMap recKeys).foldl putB [], 0) := by
  induction d with
  | zero =>
    intro i hd
    refine ⟨1, fun k hk => ?_⟩
    obtain ⟨m, rfl, _⟩ := pred_of (K := 0) hk
    show corncribref18_Keys.l0 (m + 1) l (((l.take i).flatMap recKeys).foldl putB []) (i : Int) = _
    simp only [corncribref18_Keys.l0]
    rw [if_neg (by omega), List.take_of_length_le (by omega)]
  | succ d ih =>
    intro i hd
    have hi : i < l.length := by omega
    have hb := prep_len l[i] (hp _ (List.getElem_mem hi))
    have hkl : ∀ n, n ≤ l.length → ((l.take n).flatMap recKeys).length ≤ 32 * n := by
      intro n
      induction n with
      | zero => intro _; simp
      | succ n ihn =>
        intro hn
        have h1 := ihn (by omega)
        have h2 := prep_len l[n] (hp _ (List.getElem_mem (by omega)))
        rw [List.take_succ_eq_append_getElem (by omega), List.flatMap_append, List.length_append]
        simp only [List.flatMap_cons, List.flatMap_nil, List.append_nil, recKeys, List.length_append, wkeys, List.length_map]
        omega
    have hlen := foldB_len ((l.take i).flatMap recKeys) []
    have hlen2 := foldB_len (l[i].f7) (((l.take i).flatMap recKeys).foldl putB [])
    have hki := hkl i (by omega)
    simp only [List.length_nil] at hlen
    have hstep : (l.take (i + 1)).flatMap recKeys = (l.take i).flatMap recKeys ++ (l[i].f7 ++ wkeys l[i].f8) := by
      rw [List.take_succ_eq_append_getElem hi, List.flatMap_append]
      simp [recKeys]
    have hn := ih (i + 1) (by omega)
    rw [hstep, List.foldl_append, List.foldl_append] at hn
    have h2 := refKeys2 l i hi hl hb.2 ((l.flatMap recKeys).foldl putB [], 0) l[i].f8.length 0 (l[i].f7.foldl putB (((l.take i).flatMap recKeys).foldl putB [])) (by omega) (by omega) hn
    have h1 := refKeys1 l i hi hl hb.1 ((l.flatMap recKeys).foldl putB [], 0) l[i].f7.length 0 (((l.take i).flatMap recKeys).foldl putB []) (by omega) (by omega) h2
    obtain ⟨K, hK⟩ := h1
    refine ⟨K + 1, fun k hk => ?_⟩
    obtain ⟨m, rfl, hm'⟩ := pred_of hk
    show corncribref18_Keys.l0 (m + 1) l (((l.take i).flatMap recKeys).foldl putB []) (i : Int) = _
    simp only [corncribref18_Keys.l0]
    rw [if_pos (by omega)]
    exact hK m hm'
theorem keys_same (l : List S25) : (l.flatMap recKeys).foldl putB [] = bytesOfL (uniq (strs (l.flatMap recKeys))) := by
  have h := foldB_strs (l.flatMap recKeys) []
  have h2 := bytes_strs ((l.flatMap recKeys).foldl putB [])
  rw [h] at h2
  exact h2.symm
theorem refKeys_f (l : List S25) (hm : l.length ≤ 9223372036854775807) (hs : ∀ x, x ∈ l → sizesOk x) : Ev (fun k => corncribref18_Keys.f k l) (keysV l) := by
  obtain ⟨K1, h1⟩ := list_f l hm hs
  by_cases hv : wrongV l = 0
  · obtain ⟨K2, h2⟩ := refKeys0 l (wrong_zero l hv).1 (wrong_zero l hv).2 l.length 0 (by omega)
    refine ⟨K1 + K2, fun k hk => ?_⟩
    have e1 := h1 k (by omega)
    have e2 := h2 k (by omega)
    simp only at e1 e2
    show corncribref18_Keys.f k l = _
    unfold corncribref18_Keys.f keysV
    rw [e1, Option.bind_some, if_pos hv, if_pos hv, ← keys_same]
    exact e2
  · refine ⟨K1, fun k hk => ?_⟩
    have e1 := h1 k (by omega)
    simp only at e1
    show corncribref18_Keys.f k l = _
    unfold corncribref18_Keys.f keysV
    rw [e1, Option.bind_some, if_neg hv, if_neg hv]
theorem okB_of (x : S25) (h : sizesOk x) : sizesOkB x = true := by
  unfold sizesOkB
  simp [h.1, h.2]
theorem admitV_len (l : List S25) : (admitV l).1.length ≤ l.length := by
  unfold admitV
  split
  · exact admitTo_len l l.length
  · simp
theorem keysV_len (l : List S25) (hp : wrongV l = 0 → (l.flatMap recKeys).length ≤ 9223372036854775807) : (keysV l).1.length ≤ 9223372036854775807 := by
  unfold keysV
  split
  · rename_i h
    have := uniq_len (strs (l.flatMap recKeys))
    rw [strs_len] at this
    unfold bytesOfL
    rw [List.length_map]
    have := hp h
    omega
  · simp
set_option maxRecDepth 100000 in
set_option maxHeartbeats 4000000 in
theorem locksLists_walk (w : World) {l : List S25} {A0 : Option Addr} {c0 : Nat} (hr0 : Kd.C k25 w A0 l.length l) (hc0 : l.length ≤ c0) (g0 : l.length * 120 ≤ 140737488351232 ∧ ∀ r, r ∈ l → okRec r) :
    Calls Try.prog 7 #[.slice A0 l.length c0] w fun e w' => e = .returned (.bool true) ∧ Below w.heap.size w w' := by
  have hz : ∀ r, okRec r → sizesOk r ∧ r.f8.length < 3518437208883 := fun r h => by unfold okRec at h; unfold sizesOk; omega
  have hs' : ∀ r, r ∈ l → sizesOk r := fun r hr => (hz r (g0.2 r hr)).1
  have hl := g0.1
  obtain ⟨K1, h1⟩ := copied_f l (by omega) (fun r hr => ⟨(hs' r hr).1, (hz r (g0.2 r hr)).2⟩)
  obtain ⟨K2, h2⟩ := refQuiet_f l (by omega) hs'
  obtain ⟨K3, h3⟩ := refAdmit_f l (by omega) hs'
  obtain ⟨K4, h4⟩ := refKeys_f l (by omega) hs'
  obtain ⟨K5, h5⟩ := sameInts_f (admitV l).1 (admitV l).1 (by have := admitV_len l; omega)
  obtain ⟨K6, h6⟩ := sameTexts_f (keysV l).1 (keysV_len l (fun hv => by
    have hw := wrong_zero l hv
    have hgen : ∀ x : List S25, (∀ r, r ∈ x → prepB r = true) → (x.flatMap recKeys).length ≤ 32 * x.length := by
      intro x
      induction x with
      | nil => intro _; simp
      | cons y r ihx =>
        intro hx
        have h1 := ihx (fun r hr => hx r (List.mem_cons_of_mem _ hr))
        have h2 := prep_len y (hx y List.mem_cons_self)
        rw [List.flatMap_cons, List.length_append, List.length_cons]
        simp only [recKeys, List.length_append, wkeys, List.length_map] at h1 ⊢
        omega
    have := hgen l hw.2
    have := hw.1
    omega))
  obtain ⟨K7, h7⟩ := kept_f l (by omega) hs'
  have HR := Aside0.mk hr0
  have HC := Aside0.mk hc0
  have HS := Aside0.mk hs'
  have E1 : Aside0 (corncriblaw18_copied.f K1 l = some l) := ⟨h1 K1 (Nat.le_refl _)⟩
  have E2 : Aside0 (corncribref18_Quiet.f K2 l = some ((quietV l).1, (quietV l).2)) := ⟨h2 K2 (Nat.le_refl _)⟩
  have E3 : Aside0 (corncribref18_Admit.f K3 l = some ((admitV l).1, (admitV l).2)) := ⟨h3 K3 (Nat.le_refl _)⟩
  have E4 : Aside0 (corncribref18_Keys.f K4 l = some ((keysV l).1, (keysV l).2)) := ⟨h4 K4 (Nat.le_refl _)⟩
  have E5 : Aside0 (corncribbook_SameInts.f K5 (admitV l).1 (admitV l).1 = some true) := ⟨(h5 K5 (Nat.le_refl _)).trans (by simp)⟩
  have E6 : Aside0 (corncribbook_SameTexts.f K6 (keysV l).1 (keysV l).1 = some true) := ⟨h6 K6 (Nat.le_refl _)⟩
  have E7 : Aside0 (corncriblaw18_kept.f K7 l l = some true) := ⟨h7 K7 (Nat.le_refl _)⟩
  clear hr0 hc0 hs' hz h1 h2 h3 h4 h5 h6 h7 g0 hl
  go_enter Try.func7, Try.ntmps7
  go_wp2_with fail
  refine (corncriblaw18_copied.calls K1 A0 c0 l l w HR.out HC.out E1.out).mono ?_
  rintro e w1 ⟨v1, rfl, ho, hb⟩
  have ho' := Kd.S_R ho
  obtain ⟨A1, c1, rfl, hlc, hC⟩ := Kd.R_reads ho'
  have HO := Aside0.mk (And.intro hC hlc)
  have HB1 := Aside0.mk hb
  clear ho ho' hb hC hlc
  go_wp2_with fail
  refine (quiet_walk A1 c1 l w1 HO.out.1 HO.out.2 HS.out).mono ?_
  rintro e w2 ⟨rfl, hb⟩
  have HO2 := Aside0.mk (Kd.C_below HO.out.1 hb)
  have HB2 : Aside0 (Below w.heap.size w w2) := ⟨HB1.out.trans (hb.mono HB1.out.size)⟩
  clear hb HB1
  go_wp2_with fail
  refine (corncribref18_Quiet.calls K2 A0 c0 l _ _ w2 (Kd.C_below HR.out HB2.out) HC.out E2.out).mono ?_
  rintro e w3 ⟨rfl, hb⟩
  have HO3 := Aside0.mk (Kd.C_below HO2.out hb)
  have HB3 : Aside0 (Below w.heap.size w w3) := ⟨HB2.out.trans (hb.mono HB2.out.size)⟩
  clear hb HB2 HO2
  go_wp2_with fail
  refine (admit_walk A1 c1 l w3 HO3.out HO.out.2 HS.out).mono ?_
  rintro e w4 ⟨v4, rfl, hr4, hb⟩
  obtain ⟨A4, c4, rfl, hlc4, hC4⟩ := Kd.R_reads hr4
  have HI4 := Aside0.mk (And.intro hC4 hlc4)
  have HO4 := Aside0.mk (Kd.C_below HO3.out hb)
  have HB4 : Aside0 (Below w.heap.size w w4) := ⟨HB3.out.trans (hb.mono HB3.out.size)⟩
  clear hb HB3 HO3 hr4 hlc4 hC4
  go_wp2_with fail
  refine (corncribref18_Admit.calls K3 A0 c0 l _ _ w4 (Kd.C_below HR.out HB4.out) HC.out E3.out).mono ?_
  rintro e w5 ⟨v5, rfl, hr5, hb⟩
  obtain ⟨A5, c5, rfl, hlc5, hC5⟩ := Kd.R_reads hr5
  have HI5 := Aside0.mk (And.intro hC5 hlc5)
  have HI4b := Aside0.mk (Kd.C_below HI4.out.1 hb)
  have HO5 := Aside0.mk (Kd.C_below HO4.out hb)
  have HB5 : Aside0 (Below w.heap.size w w5) := ⟨HB4.out.trans (hb.mono HB4.out.size)⟩
  clear hb HB4 HO4 hr5 hlc5 hC5
  go_wp2_with fail
  refine (keys_walk A1 c1 l w5 HO5.out HO.out.2 HS.out).mono ?_
  rintro e w6 ⟨v6, rfl, hr6, hb⟩
  obtain ⟨A6, c6, rfl, hlc6, hC6⟩ := Kd.R_reads hr6
  have HI6 := Aside0.mk (And.intro hC6 hlc6)
  have HI4c := Aside0.mk (Kd.C_below HI4b.out hb)
  have HI5b := Aside0.mk (Kd.C_below HI5.out.1 hb)
  have HO6 := Aside0.mk (Kd.C_below HO5.out hb)
  have HB6 : Aside0 (Below w.heap.size w w6) := ⟨HB5.out.trans (hb.mono HB5.out.size)⟩
  clear hb HB5 HO5 HI4b hr6 hlc6 hC6
  go_wp2_with fail
  refine (corncribref18_Keys.calls K4 A0 c0 l _ _ w6 (Kd.C_below HR.out HB6.out) HC.out E4.out).mono ?_
  rintro e w7 ⟨v7, rfl, hr7, hb⟩
  obtain ⟨A7, c7, rfl, hlc7, hC7⟩ := Kd.R_reads hr7
  have HI7 := Aside0.mk (And.intro hC7 hlc7)
  have HI4d := Aside0.mk (Kd.C_below HI4c.out hb)
  have HI5c := Aside0.mk (Kd.C_below HI5b.out hb)
  have HI6b := Aside0.mk (Kd.C_below HI6.out.1 hb)
  have HO7 := Aside0.mk (Kd.C_below HO6.out hb)
  have HB7 : Aside0 (Below w.heap.size w w7) := ⟨HB6.out.trans (hb.mono HB6.out.size)⟩
  have q1 : ((quietV l).1 == (quietV l).1) = true := by simp
  clear hb HB6 HO6 HI4c HI5b hr7 hlc7 hC7
  go_wp2_with fail
  refine (corncribbook_SameInts.calls K5 A4 c4 _ A5 c5 _ true w7 HI4d.out HI4.out.2 HI5c.out HI5.out.2 E5.out).mono ?_
  rintro e w8 ⟨rfl, ⟨nd, rfl⟩⟩
  have HB8 : Aside0 (Below w.heap.size w (w7.drewN nd)) := ⟨pw_below_drewN HB7.out nd⟩
  have hb8 : Below w7.heap.size w7 (w7.drewN nd) := pw_below_drewN (Below.refl _ _) nd
  have HI6c := Aside0.mk (Kd.C_below HI6b.out hb8)
  have HI7b := Aside0.mk (Kd.C_below HI7.out.1 hb8)
  have HO8 := Aside0.mk (Kd.C_below HO7.out hb8)
  clear hb8 HB7 HO7 HI4d HI5c HI6b
  generalize w7.drewN nd = w8 at *
  go_wp2_with fail
  refine (corncribbook_SameTexts.calls K6 A6 c6 _ A7 c7 _ true w8 HI6c.out HI6.out.2 HI7b.out HI7.out.2 E6.out).mono ?_
  rintro e w9 ⟨rfl, ⟨nd, rfl⟩⟩
  have HB9 : Aside0 (Below w.heap.size w (w8.drewN nd)) := ⟨pw_below_drewN HB8.out nd⟩
  have HO9 := Aside0.mk (Kd.C_below HO8.out (pw_below_drewN (Below.refl _ w8) nd))
  clear HB8 HO8 HI6c HI7b
  generalize w8.drewN nd = w9 at *
  go_wp2_with fail
  refine (corncriblaw18_kept.calls K7 A1 c1 l A0 c0 l true w9 HO9.out HO.out.2 (Kd.C_below HR.out HB9.out) HC.out E7.out).mono ?_
  rintro e w10 ⟨rfl, hb⟩
  have HB10 : Aside0 (Below w.heap.size w w10) := ⟨HB9.out.trans (hb.mono HB9.out.size)⟩
  clear hb
  go_wp2_with fail
  refine (works_walk w10).mono ?_
  rintro e w11 ⟨rfl, hb⟩
  have HB11 : Aside0 (Below w.heap.size w w11) := ⟨HB10.out.trans (hb.mono HB10.out.size)⟩
  clear hb
  go_wp2_with fail
  go_ret
  exact ⟨rfl, HB11.out⟩
end Go.Proofs.Ytpfhdgacjeklaaa.PLocks
