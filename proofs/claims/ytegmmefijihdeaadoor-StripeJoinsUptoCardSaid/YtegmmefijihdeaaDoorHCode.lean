/- Codes and shards: closed forms of code, Size, even; the parity's rows. -/
import Derived.Test.YtegmmefijihdeaaDoorPSf47
import Derived.Test.YtegmmefijihdeaaDoorPSf50
import Derived.Test.YtegmmefijihdeaaDoorPSf15
import Derived.Test.YtegmmefijihdeaaDoorHGen
namespace Go.Proofs.YtegmmefijihdeaaDoor.PS
open Go.RowKit Go.Proofs.YtegmmefijihdeaaDoorW.PrintWords Go.Proofs.YtegmmefijihdeaaDoorW.PrintLast Go.Proofs.YtegmmefijihdeaaDoorW.PrintMore Go.Proofs.YtegmmefijihdeaaDoor.Gf Go.Proofs.YtegmmefijihdeaaDoor.Grd Go.Proofs.YtegmmefijihdeaaDoor.Rowb
set_option linter.unusedVariables false
set_option linter.unusedSimpArgs false
theorem pred_of {K k : Nat} (h : K + 1 ≤ k) : ∃ m, k = m + 1 ∧ K ≤ m := ⟨k - 1, by omega, by omega⟩
theorem w64_in (x : Int) (h0 : -9223372036854775808 ≤ x) (h1 : x ≤ 9223372036854775807) : wrap64 x = x := by unfold wrap64; omega
def codeB (k m : Int) : Bool := decide (1 ≤ k ∧ k ≤ 255 ∧ 0 ≤ m ∧ m ≤ 255 - k)
theorem code_f (k m : Int) : stripe_code.f k m = some (codeB k m) := by
  unfold stripe_code.f codeB
  by_cases h1 : k ≥ 1
  · rw [if_pos h1]
    by_cases h2 : k ≤ 255
    · rw [if_pos h2]
      by_cases h3 : m ≥ 0
      · rw [if_pos h3, w64_in _ (by omega) (by omega)]
        congr 1
        rw [decide_eq_decide]
        omega
      · rw [if_neg h3]
        congr 1
        symm
        rw [decide_eq_false_iff_not]
        omega
    · rw [if_neg h2]
      congr 1
      symm
      rw [decide_eq_false_iff_not]
      omega
  · rw [if_neg h1]
    congr 1
    symm
    rw [decide_eq_false_iff_not]
    omega
theorem codeB_nat {k m : Int} (h : codeB k m = true) : ∃ K M : Nat, k = (K : Int) ∧ m = (M : Int) ∧ 1 ≤ K ∧ K + M ≤ 255 := by
  unfold codeB at h
  have := of_decide_eq_true h
  exact ⟨k.toNat, m.toNat, by omega, by omega, by omega, by omega⟩
/-- A shard's length. -/
def sizeN (k long : Nat) : Nat := (4 + long + k - 1) / k
def sizeV (k long : Int) : Int × Int := if codeB k 0 = true ∧ 0 ≤ long ∧ long ≤ 2048 then ((sizeN k.toNat long.toNat : Int), 0) else (0, 1)
theorem size_f (k long : Int) : stripe_Size.f k long = some (sizeV k long) := by
  unfold stripe_Size.f sizeV
  rw [code_f, Option.bind_some]
  by_cases h : codeB k 0 = true
  · obtain ⟨K, M, rfl, hm, h1, h2⟩ := codeB_nat h
    rw [if_pos h]
    by_cases h3 : long < 0
    · rw [if_pos h3, if_neg (by omega)]
    · rw [if_neg h3]
      by_cases h4 : long > 2048
      · rw [if_pos h4, if_neg (by omega)]
      · rw [if_neg h4, if_neg (by omega), if_pos ⟨h, by omega, by omega⟩]
        obtain ⟨L, rfl⟩ : ∃ L : Nat, long = (L : Int) := ⟨long.toNat, by omega⟩
        have e1 : wrap64 ((wrap64 ((wrap64 (4 + (L : Int))) + (K : Int))) - 1) = ((4 + L + K - 1 : Nat) : Int) := by
          rw [w64_in (4 + (L : Int)) (by omega) (by omega), w64_in (4 + (L : Int) + (K : Int)) (by omega) (by omega), w64_in _ (by omega) (by omega)]
          omega
        have e2 : ((4 + L + K - 1 : Nat) : Int).tdiv (K : Int) = ((sizeN K L : Nat) : Int) := by
          rw [Int.tdiv_eq_ediv_of_nonneg (by omega)]
          unfold sizeN
          rw [Int.natCast_ediv]
        have e3 : sizeN K L ≤ 4 + L + K - 1 := Nat.div_le_self _ _
        rw [e1, e2, w64_in _ (by omega) (by omega)]
        simp
  · rw [if_neg h, if_neg (fun e => h e.1)]
/-- Are shards as long, all of them? -/
def evenB (l : List ByteArray) : Bool := l.all (fun s => s.size == (rdOf ByteArray.empty l 0).size)
theorem rdOf_nat (l : List ByteArray) (i : Nat) (h : i < l.length) : rdOf ByteArray.empty l (i : Int) = l[i] := by
  unfold rdOf
  simp [List.getElem?_eq_getElem h]
theorem even_from (l : List ByteArray) (hl : l.length ≤ 9223372036854775807) (d : Nat) : ∀ i, i + d = l.length → (∀ j, j < i → ∀ (h : j < l.length), (l[j].size == (rdOf ByteArray.empty l 0).size) = true) → Ev (fun k => stripe_even.l0 k l l (l.length : Int) (i : Int)) (evenB l) := by
  induction d with
  | zero =>
    intro i hi hb
    refine ⟨1, fun k hk => ?_⟩
    obtain ⟨m, rfl, _⟩ := pred_of (K := 0) hk
    show stripe_even.l0 (m + 1) l l (l.length : Int) (i : Int) = _
    simp only [stripe_even.l0]
    rw [if_neg (by omega)]
    congr 1
    symm
    unfold evenB
    rw [List.all_eq_true]
    intro s hs
    obtain ⟨j, hj, rfl⟩ := List.getElem_of_mem hs
    exact hb j (by omega) hj
  | succ d ih =>
    intro i hi hb
    have hil : i < l.length := by omega
    by_cases e : (l[i].size == (rdOf ByteArray.empty l 0).size) = true
    · obtain ⟨K, hK⟩ := ih (i + 1) (by omega) (fun j hj h => by
        by_cases e2 : j = i
        · subst e2; exact e
        · exact hb j (by omega) h)
      refine ⟨K + 1, fun k hk => ?_⟩
      obtain ⟨m, rfl, hm⟩ := pred_of hk
      show stripe_even.l0 (m + 1) l l (l.length : Int) (i : Int) = _
      simp only [stripe_even.l0]
      have e' : l[i].size = (rdOf ByteArray.empty l 0).size := by simpa using e
      rw [if_pos (by omega), if_pos (by omega), if_pos (by omega), if_pos (by omega), rdOf_nat l i hil, if_pos (by omega), w64_in _ (by omega) (by omega)]
      exact hK m hm
    · refine ⟨1, fun k hk => ?_⟩
      obtain ⟨m, rfl, _⟩ := pred_of (K := 0) hk
      show stripe_even.l0 (m + 1) l l (l.length : Int) (i : Int) = _
      simp only [stripe_even.l0]
      have e' : ¬ l[i].size = (rdOf ByteArray.empty l 0).size := by simpa using e
      rw [if_pos (by omega), if_pos (by omega), if_pos (by omega), if_pos (by omega), rdOf_nat l i hil, if_neg (by omega)]
      congr 1
      symm
      unfold evenB
      rw [List.all_eq_false]
      exact ⟨l[i], List.getElem_mem hil, e⟩
theorem even_f (l : List ByteArray) (hl : l.length ≤ 9223372036854775807) : Ev (fun k => stripe_even.f k l) (evenB l) := even_from l hl l.length 0 (by omega) (fun j hj => by omega)
theorem even_of {l : List ByteArray} (h : evenB l = true) : ∀ s, s ∈ l → s.size = (rdOf ByteArray.empty l 0).size := fun s hs => by
  have := List.all_eq_true.1 h s hs
  simpa using this
theorem even_walk (A0 : Option Addr) (c0 : Nat) (l : List ByteArray) (w : World) (hr0 : Kd.C Kd.string w A0 l.length l) (hc0 : l.length ≤ c0) :
    Calls Tryd.prog 50 #[.slice A0 l.length c0] w fun e w' => e = .returned (.bool (evenB l)) ∧ Drawn0 w w' := by
  obtain ⟨K, hK⟩ := even_f l (by have := Kd.C_max hr0; omega)
  exact stripe_even.calls K A0 c0 l _ w hr0 hc0 (hK K (Nat.le_refl _))
/-! The parity. -/
def dAt (data : List ByteArray) (j at_ : Nat) : UInt8 := (data.getD j ByteArray.empty).data.toList.getD at_ 0
/-- Row r of the code over q of the shards. -/
def accRow (k r n : Nat) (data : List ByteArray) (q : Nat) : List UInt8 := (List.range n).map fun at_ => xs (List.range q) fun j => gmul (genAt k r j) (dAt data j at_)
/-- .., of which t bytes have one shard more. -/
def mixRow (k r n : Nat) (data : List ByteArray) (q t : Nat) : List UInt8 := (List.range n).map fun at_ => xs (List.range (if at_ < t then q + 1 else q)) fun j => gmul (genAt k r j) (dAt data j at_)
theorem acc_len (k r n : Nat) (data : List ByteArray) (q : Nat) : (accRow k r n data q).length = n := by simp [accRow]
theorem mix_len (k r n : Nat) (data : List ByteArray) (q t : Nat) : (mixRow k r n data q t).length = n := by simp [mixRow]
theorem acc_zero (k r n : Nat) (data : List ByteArray) : accRow k r n data 0 = zeros n := by
  unfold accRow zeros
  apply List.ext_getElem
  · simp
  · intro i h1 h2
    simp [xs]
theorem mix_zero (k r n : Nat) (data : List ByteArray) (q : Nat) : mixRow k r n data q 0 = accRow k r n data q := by simp [mixRow, accRow]
theorem mix_full (k r n : Nat) (data : List ByteArray) (q : Nat) : mixRow k r n data q n = accRow k r n data (q + 1) := by
  unfold mixRow accRow
  refine List.map_congr_left (fun i hi => ?_)
  rw [if_pos (List.mem_range.1 hi)]
theorem xs_succ (q : Nat) (f : Nat → UInt8) : xs (List.range (q + 1)) f = xs (List.range q) f ^^^ f q := by
  rw [List.range_succ, xs_append, xs_cons]
  show _ ^^^ (f q ^^^ 0) = _
  rw [UInt8.xor_zero]
theorem mix_get (k r n : Nat) (data : List ByteArray) (q t i : Nat) (h : i < (mixRow k r n data q t).length) : (mixRow k r n data q t)[i] = xs (List.range (if i < t then q + 1 else q)) fun j => gmul (genAt k r j) (dAt data j i) := by simp [mixRow]
theorem mix_at (k r n : Nat) (data : List ByteArray) (q t : Nat) (h : t < n) : (mixRow k r n data q t)[t]'(by rw [mix_len]; exact h) = xs (List.range q) fun j => gmul (genAt k r j) (dAt data j t) := by
  rw [mix_get, if_neg (by omega)]
theorem mix_set (k r n : Nat) (data : List ByteArray) (q t : Nat) (h : t < n) : (mixRow k r n data q t).set t ((xs (List.range q) fun j => gmul (genAt k r j) (dAt data j t)) ^^^ gmul (genAt k r q) (dAt data q t)) = mixRow k r n data q (t + 1) := by
  apply List.ext_getElem
  · rw [List.length_set, mix_len, mix_len]
  · intro i h1 h2
    rw [List.getElem_set, mix_get, mix_get]
    by_cases e : t = i
    · subst e
      rw [if_pos rfl, if_pos (by omega), xs_succ]
    · rw [if_neg e]
      by_cases h3 : i < t
      · rw [if_pos h3, if_pos (by omega)]
      · rw [if_neg h3, if_neg (by omega)]
def txt (l : List UInt8) : ByteArray := ⟨l.toArray⟩
theorem txt_list (l : List UInt8) : (txt l).data.toList = l := by unfold txt; simp
theorem txt_size (l : List UInt8) : (txt l).size = l.length := by show (List.toArray l).size = _; simp
/-- The first r of the parity's shards. -/
def parL (k n : Nat) (data : List ByteArray) (r : Nat) : List ByteArray := (List.range r).map fun i => txt (accRow k (k + i) n data k)
theorem parL_succ (k n : Nat) (data : List ByteArray) (r : Nat) : parL k n data (r + 1) = parL k n data r ++ [txt (accRow k (k + r) n data k)] := by
  unfold parL
  rw [List.range_succ, List.map_append]
  rfl
theorem parL_len (k n : Nat) (data : List ByteArray) (r : Nat) : (parL k n data r).length = r := by simp [parL]
def parityV (k m : Int) (data : List ByteArray) : List ByteArray × Int :=
  if codeB k m = true then (if (data.length : Int) = k ∧ evenB data = true then (if (rdOf ByteArray.empty data 0).size ≤ 2052 then (parL k.toNat (rdOf ByteArray.empty data 0).size data m.toNat, 0) else ([], 2)) else ([], 4)) else ([], 1)
theorem gen_byte (k m r j : Nat) (hr : r < k + m) (hj : j < k) : (genG k m).flatten[r * k + j]? = some (genAt k r j) := by
  have key : ∀ (n : Nat), n ≤ k + m → ∀ r, r < n → ((List.range n).map (genRow k)).flatten[r * k + j]? = some (genAt k r j) ∧ ((List.range n).map (genRow k)).flatten.length = n * k := by
    intro n
    induction n with
    | zero => intro _ r hr; omega
    | succ n ih =>
      intro hn r hr
      have hlen : ((List.range n).map (genRow k)).flatten.length = n * k := by
        cases n with
        | zero => simp
        | succ p => exact (ih (by omega) 0 (by omega)).2
      rw [List.range_succ, List.map_append, List.flatten_append]
      have e2 : (List.map (genRow k) [n]).flatten = genRow k n := by simp
      rw [e2]
      refine ⟨?_, by rw [List.length_append, hlen, genRow_len, Nat.succ_mul]⟩
      by_cases e : r = n
      · subst e
        rw [List.getElem?_append_right (by rw [hlen]; omega), hlen, Nat.add_sub_cancel_left]
        unfold genRow
        simp [hj]
      · have hb : r * k + j < n * k := by
          have : (r + 1) * k ≤ n * k := Nat.mul_le_mul_right _ (by omega)
          rw [Nat.succ_mul] at this
          omega
        rw [List.getElem?_append_left (by rw [hlen]; exact hb)]
        exact (ih (by omega) r (by omega)).1
  exact (key (k + m) (Nat.le_refl _) r hr).1
end Go.Proofs.YtegmmefijihdeaaDoor.PS
