/- The document's stripe: closed forms of Size, Plain, Split, Even, Under, Parity, Encode; of Encode; texts that are the same. -/
import Derived.Test.YtegmmefijihdeaaDoorPSf25
import Derived.Test.YtegmmefijihdeaaDoorPSf16
import Derived.Test.YtegmmefijihdeaaDoorPSf49
import Derived.Test.YtegmmefijihdeaaDoorPSf18
import Derived.Test.YtegmmefijihdeaaDoorPSf53
import Derived.Test.YtegmmefijihdeaaDoorPSf58
import Derived.Test.YtegmmefijihdeaaDoorPSf29
import Derived.Test.YtegmmefijihdeaaDoorPSf27
import Derived.Test.YtegmmefijihdeaaDoorPSf26
import Derived.Test.YtegmmefijihdeaaDoorPSf19
import Derived.Test.YtegmmefijihdeaaDoorHMade
import Derived.Test.YtegmmefijihdeaaDoorHParity
import Derived.Test.YtegmmefijihdeaaDoorHSplit
namespace Go.Proofs.YtegmmefijihdeaaDoor.PS
open Go.RowKit Go.Proofs.YtegmmefijihdeaaDoorW.PrintWords Go.Proofs.YtegmmefijihdeaaDoorW.PrintLast Go.Proofs.YtegmmefijihdeaaDoorW.PrintMore Go.Proofs.YtegmmefijihdeaaDoor.Gf Go.Proofs.YtegmmefijihdeaaDoor.Fld Go.Proofs.YtegmmefijihdeaaDoor.Grd Go.Proofs.YtegmmefijihdeaaDoor.Rowb
set_option linter.unusedVariables false
set_option linter.unusedSimpArgs false
theorem refcode_f (k m : Int) : corncribref03_Code.f k m = some (codeB k m) := code_f k m
theorem refsize_f (k long : Int) : corncribref03_Size.f k long = some (sizeV k long) := by
  rw [← size_f]
  unfold corncribref03_Size.f stripe_Size.f
  rw [refcode_f, code_f]
theorem codeB_in {K M : Nat} (h1 : 1 ≤ K) (h2 : K + M ≤ 255) : codeB (K : Int) (M : Int) = true := by unfold codeB; exact decide_eq_true (by omega)
theorem codeB_0 {K : Nat} (h1 : 1 ≤ K) (h2 : K ≤ 255) : codeB (K : Int) 0 = true := by unfold codeB; exact decide_eq_true (by omega)
theorem sizeV_in {K L : Nat} (h1 : 1 ≤ K) (h2 : K ≤ 255) (hL : L ≤ 2048) : sizeV (K : Int) (L : Int) = ((sizeN K L : Int), 0) := by
  unfold sizeV
  rw [if_pos ⟨codeB_0 h1 h2, by omega, by omega⟩]
  rfl
/-! Plain -/
/-- Plain bytes behind i rounds. -/
def plainP (K : Nat) (o : ByteArray) (i : Nat) : List UInt8 := be4 o.size ++ o.data.toList.take i ++ zeros (sizeN K o.size * K - (4 + i))
theorem plainP_len (K : Nat) (o : ByteArray) (i : Nat) (h1 : 1 ≤ K) (hi : i ≤ o.size) : (plainP K o i).length = sizeN K o.size * K := by
  have := sizeN_ge K o.size h1
  have hl : o.data.toList.length = o.size := Array.length_toList
  unfold plainP be4
  rw [List.length_append, List.length_append, zeros_len, List.length_take, hl]
  show 4 + min i o.size + _ = _
  omega
theorem plainP_full (K : Nat) (o : ByteArray) : plainP K o o.size = plainL K o := by
  unfold plainP plainL
  rw [List.take_of_length_le (by rw [Array.length_toList]; exact Nat.le_refl _)]
theorem zeros_set (n : Nat) (b : UInt8) (h : 0 < n) : (zeros n).set 0 b = b :: zeros (n - 1) := by
  obtain ⟨m, rfl⟩ : ∃ m, n = m + 1 := ⟨n - 1, by omega⟩
  rfl
theorem plainP_set (K : Nat) (o : ByteArray) (i : Nat) (h1 : 1 ≤ K) (hi : i < o.size) : (plainP K o i).set (4 + i) (o.data.toList.getD i 0) = plainP K o (i + 1) := by
  have hg := sizeN_ge K o.size h1
  have hl : o.data.toList.length = o.size := Array.length_toList
  have h4 : (be4 o.size).length = 4 := rfl
  unfold plainP
  rw [List.set_append_right _ _ (by rw [List.length_append, h4, List.length_take]; omega)]
  have e : 4 + i - (be4 o.size ++ o.data.toList.take i).length = 0 := by rw [List.length_append, h4, List.length_take]; omega
  rw [e, zeros_set _ _ (by omega), List.take_succ_eq_append_getElem (by omega), List.getD_eq_getElem?_getD, List.getElem?_eq_getElem (by omega), ← List.append_assoc, List.append_assoc _ [_] _]
  congr 2
theorem plain_from (K : Nat) (o : ByteArray) (h1 : 1 ≤ K) (h2 : K ≤ 255) (ho : o.size ≤ 2048) (d : Nat) : ∀ i, i + d = o.size → ∀ k, d + 1 ≤ k → corncribref03_Plain.l0 k o (ints (plainP K o i)) (i : Int) = some (txt (plainL K o)) := by
  have hg := sizeN_ge K o.size h1
  induction d with
  | zero =>
    intro i hi k hk
    obtain ⟨m, rfl, _⟩ := pred_of (K := 0) hk
    simp only [corncribref03_Plain.l0]
    rw [if_neg (by omega), str_ints, show i = o.size by omega, plainP_full]
  | succ d ih =>
    intro i hi k hk
    obtain ⟨m, rfl, hm⟩ := pred_of hk
    simp only [corncribref03_Plain.l0]
    rw [if_pos (by omega), if_pos (by omega), w64_in (4 + (i : Int)) (by omega) (by omega), if_pos (by omega), if_pos (by rw [ints_len, plainP_len K o i h1 (by omega)]; omega), w64_in ((i : Int) + 1) (by omega) (by omega), bt_nat o i (by omega), show (4 + (i : Int)).toNat = 4 + i by omega, ints_set, plainP_set K o i h1 (by omega)]
    exact ih (i + 1) (by omega) m hm
theorem plainP_zero (K : Nat) (o : ByteArray) (h1 : 1 ≤ K) (ho : o.size ≤ 2048) (n : Nat) (hn : n = sizeN K o.size * K) :
    ((((List.replicate n (0 : Int)).set (0 : Int).toNat (((o.size : Int) / 16777216) % 256)).set (1 : Int).toNat (((o.size : Int) / 65536) % 256)).set (2 : Int).toNat (((o.size : Int) / 256) % 256)).set (3 : Int).toNat (((o.size : Int)) % 256) = ints (plainP K o 0) := by
  have hg := sizeN_ge K o.size h1
  rw [← hn] at hg
  obtain ⟨m, rfl⟩ : ∃ m, n = m + 4 := ⟨n - 4, by omega⟩
  have e1 : ((o.size : Int) / 16777216) % 256 = 0 := by omega
  have e2 : ((o.size : Int) / 65536) % 256 = 0 := by omega
  have e3 : ((o.size : Int) / 256) % 256 = ((UInt8.ofNat (o.size / 256)).toNat : Int) := by rw [UInt8.toNat_ofNat', Nat.mod_eq_of_lt (by omega)]; omega
  have e4 : (o.size : Int) % 256 = ((UInt8.ofNat (o.size % 256)).toNat : Int) := by rw [UInt8.toNat_ofNat', Nat.mod_eq_of_lt (by omega)]; omega
  rw [e1, e2, e3, e4]
  unfold plainP
  rw [← hn, Nat.add_zero, Nat.add_sub_cancel, List.take_zero, List.append_nil]
  have e : List.replicate (m + 4) (0 : Int) = 0 :: 0 :: 0 :: 0 :: List.replicate m 0 := rfl
  rw [e]
  unfold ints be4 zeros
  simp
theorem plain_f (K : Nat) (o : ByteArray) (h1 : 1 ≤ K) (h2 : K ≤ 255) (ho : o.size ≤ 2048) (k : Nat) (hk : 2060 ≤ k) : corncribref03_Plain.f k (K : Int) o = some (txt (plainL K o)) := by
  have hg := sizeN_ge K o.size h1
  have hlt := sizeN_lt K o.size h1
  unfold corncribref03_Plain.f
  rw [refsize_f, sizeV_in h1 h2 ho, Option.bind_some]
  simp only
  have e1 : (sizeN K o.size : Int) * (K : Int) = ((sizeN K o.size * K : Nat) : Int) := by push_cast; rfl
  rw [e1, w64_in _ (by omega) (by omega), if_pos (by omega), Int.toNat_natCast, if_pos (by omega), Option.bind_some, List.length_replicate, if_pos (by omega), if_pos (by omega), if_pos (by omega), if_pos (by omega), plainP_zero K o h1 ho _ rfl]
  exact plain_from K o h1 h2 ho o.size 0 (by omega) k (by omega)
/-! Split -/
theorem shard_extract' (pl : List UInt8) (n i : Nat) (h : i * n + n ≤ pl.length) : (txt pl).extract (i * n) (i * n + n) = shardOf pl n i := shard_extract (txt pl) pl n i (i * n) rfl rfl h
theorem rsplit_from (K n : Nat) (h1 : 1 ≤ K) (h2 : K ≤ 255) (pl : List UInt8) (hp : pl.length = n * K) (hn : n ≤ 3000) (d : Nat) : ∀ i, i + d = K → ∀ k, d + 1 ≤ k →
    corncribref03_Split.l0 k (K : Int) (txt pl) (n : Int) ((List.range i).map (shardOf pl n)) (i : Int) = some ((List.range K).map (shardOf pl n), 0) := by
  induction d with
  | zero =>
    intro i hi k hk
    obtain ⟨m, rfl, _⟩ := pred_of (K := 0) hk
    simp only [corncribref03_Split.l0]
    rw [if_neg (by omega), show i = K by omega]
  | succ d ih =>
    intro i hi k hk
    obtain ⟨m, rfl, hm⟩ := pred_of hk
    have e1 : (i : Int) * (n : Int) = ((i * n : Nat) : Int) := by push_cast; rfl
    have hin : i * n + n ≤ pl.length := by
      rw [hp, Nat.mul_comm n K]
      have : (i + 1) * n ≤ K * n := Nat.mul_le_mul_right _ (by omega)
      rw [Nat.succ_mul] at this
      exact this
    have hb : n * K ≤ 3000 * 255 := Nat.mul_le_mul hn h2
    simp only [corncribref03_Split.l0]
    rw [if_pos (by omega), e1, w64_in ((i * n : Nat) : Int) (by omega) (by omega), w64_in (((i * n : Nat) : Int) + (n : Int)) (by omega) (by omega), if_pos (by omega), if_pos (by omega), if_pos (by rw [txt_size]; omega), if_pos (by simp; omega), w64_in ((i : Int) + 1) (by omega) (by omega), Int.toNat_natCast, show (((i * n : Nat) : Int) + (n : Int)).toNat = i * n + n by omega, shard_extract' pl n i hin]
    have e2 : (List.range i).map (shardOf pl n) ++ [shardOf pl n i] = (List.range (i + 1)).map (shardOf pl n) := by rw [List.range_succ, List.map_append]; rfl
    rw [e2]
    exact ih (i + 1) (by omega) m hm
theorem sizeN_small (K L : Nat) (h1 : 1 ≤ K) (h2 : K ≤ 255) (hL : L ≤ 2048) : sizeN K L ≤ 2052 := by
  unfold sizeN
  exact Nat.div_le_of_le_mul (by omega)
theorem refsplit_f (a0 : Int) (o : ByteArray) (k : Nat) (hk : 3000 ≤ k) : corncribref03_Split.f k a0 o = some (splitV a0 o) := by
  unfold corncribref03_Split.f splitV
  rw [refcode_f, Option.bind_some]
  by_cases hc : codeB a0 0 = true
  · rw [if_pos hc, if_pos hc]
    obtain ⟨K, M, rfl, hM, h1, h2⟩ := codeB_nat hc
    by_cases ho : o.size ≤ 2048
    · rw [if_neg (by omega), if_pos ho, plain_f K o h1 (by omega) ho k (by omega), Option.bind_some, if_neg (by omega)]
      have hl := plain_len K o h1
      have hs := sizeN_small K o.size h1 (by omega) ho
      have e : wrap64 (((txt (plainL K o)).size : Int) / (K : Int)) = ((sizeN K o.size : Nat) : Int) := by
        rw [txt_size, hl]
        have : ((sizeN K o.size * K : Nat) : Int) / (K : Int) = ((sizeN K o.size : Nat) : Int) := by
          rw [← Int.natCast_ediv, Nat.mul_div_cancel _ (by omega)]
        rw [this, w64_in _ (by omega) (by omega)]
      rw [e]
      exact rsplit_from K _ h1 (by omega) _ hl (by omega) K 0 (by omega) k (by omega)
    · rw [if_pos (by omega), if_neg ho]
  · rw [if_neg hc, if_neg hc]
/-! Even -/
theorem reven_from (l : List ByteArray) (hl : l.length ≤ 9223372036854775807) (d : Nat) : ∀ i, 1 ≤ i → (i + d = l.length ∨ (d = 0 ∧ l.length ≤ i)) → (∀ j, j < i → ∀ (h : j < l.length), (l[j].size == (rdOf ByteArray.empty l 0).size) = true) → ∀ k, d + 1 ≤ k → corncribref03_Even.l0 k l (i : Int) = some (evenB l) := by
  induction d with
  | zero =>
    intro i h1 hi hb k hk
    obtain ⟨m, rfl, _⟩ := pred_of (K := 0) hk
    simp only [corncribref03_Even.l0]
    rw [if_neg (by omega)]
    congr 1
    symm
    unfold evenB
    rw [List.all_eq_true]
    intro s hs
    obtain ⟨j, hj, rfl⟩ := List.getElem_of_mem hs
    exact hb j (by omega) hj
  | succ d ih =>
    intro i h1 hi hb k hk
    obtain ⟨m, rfl, hm⟩ := pred_of hk
    have hil : i < l.length := by omega
    simp only [corncribref03_Even.l0]
    rw [if_pos (by omega), if_pos (by omega), if_pos (by omega), rdOf_nat l i hil]
    by_cases e : (l[i].size == (rdOf ByteArray.empty l 0).size) = true
    · have e' : l[i].size = (rdOf ByteArray.empty l 0).size := by simpa using e
      rw [if_pos (by omega), w64_in _ (by omega) (by omega)]
      exact ih (i + 1) (by omega) (by omega) (fun j hj h => by
        by_cases e2 : j = i
        · subst e2; exact e
        · exact hb j (by omega) h) m hm
    · have e' : ¬ l[i].size = (rdOf ByteArray.empty l 0).size := by simpa using e
      rw [if_neg (by omega)]
      congr 1
      symm
      unfold evenB
      rw [List.all_eq_false]
      exact ⟨l[i], List.getElem_mem hil, e⟩
theorem reven_f (l : List ByteArray) (hl : l.length ≤ 9223372036854775807) (k : Nat) (hk : l.length + 1 ≤ k) : corncribref03_Even.f k l = some (evenB l) := by
  unfold corncribref03_Even.f
  refine reven_from l hl (l.length - 1) 1 (Nat.le_refl _) (by omega) (fun j hj h => ?_) k (by omega)
  have : j = 0 := by omega
  subst this
  have : rdOf ByteArray.empty l 0 = l[0] := rdOf_nat l 0 h
  rw [this]
  simp
/-! Under -/
def accC (c : Nat → UInt8) (n : Nat) (data : List ByteArray) (q : Nat) : List UInt8 := (List.range n).map fun at_ => xs (List.range q) fun j => gmul (c j) (dAt data j at_)
def mixC (c : Nat → UInt8) (n : Nat) (data : List ByteArray) (q t : Nat) : List UInt8 := (List.range n).map fun at_ => xs (List.range (if at_ < t then q + 1 else q)) fun j => gmul (c j) (dAt data j at_)
theorem accC_gen (k r n : Nat) (data : List ByteArray) (q : Nat) : accC (genAt k r) n data q = accRow k r n data q := rfl
theorem accC_len (c : Nat → UInt8) (n : Nat) (data : List ByteArray) (q : Nat) : (accC c n data q).length = n := by simp [accC]
theorem mixC_len (c : Nat → UInt8) (n : Nat) (data : List ByteArray) (q t : Nat) : (mixC c n data q t).length = n := by simp [mixC]
theorem mixC_get (c : Nat → UInt8) (n : Nat) (data : List ByteArray) (q t i : Nat) (h : i < (mixC c n data q t).length) : (mixC c n data q t)[i] = xs (List.range (if i < t then q + 1 else q)) fun j => gmul (c j) (dAt data j i) := by simp [mixC]
theorem mixC_set (c : Nat → UInt8) (n : Nat) (data : List ByteArray) (q t : Nat) (h : t < n) : (mixC c n data q t).set t ((xs (List.range q) fun j => gmul (c j) (dAt data j t)) ^^^ gmul (c q) (dAt data q t)) = mixC c n data q (t + 1) := by
  apply List.ext_getElem
  · rw [List.length_set, mixC_len, mixC_len]
  · intro i h1 h2
    rw [List.getElem_set, mixC_get, mixC_get]
    by_cases e : t = i
    · subst e
      rw [if_pos rfl, if_pos (by omega), xs_succ]
    · rw [if_neg e]
      by_cases h3 : i < t
      · rw [if_pos h3, if_pos (by omega)]
      · rw [if_neg h3, if_neg (by omega)]
theorem mixC_zero (c : Nat → UInt8) (n : Nat) (data : List ByteArray) (q : Nat) : mixC c n data q 0 = accC c n data q := by simp [mixC, accC]
theorem mixC_full (c : Nat → UInt8) (n : Nat) (data : List ByteArray) (q : Nat) : mixC c n data q n = accC c n data (q + 1) := by
  unfold mixC accC
  refine List.map_congr_left (fun i hi => ?_)
  rw [if_pos (List.mem_range.1 hi)]
theorem accC_zero (c : Nat → UInt8) (n : Nat) (data : List ByteArray) : List.replicate n (0 : Int) = ints (accC c n data 0) := by
  unfold ints accC
  apply List.ext_getElem
  · simp
  · intro i h1 h2
    simp [xs]
theorem d0 (n : Nat) (data : List ByteArray) (h0 : 0 < data.length) (he : ∀ s, s ∈ data → s.size = n) : (rdOf ByteArray.empty data 0).size = n := by
  have : rdOf ByteArray.empty data 0 = data[0] := rdOf_nat data 0 h0
  rw [this]
  exact he _ (List.getElem_mem h0)
section
variable (R C n : Nat) (c : Nat → Nat → UInt8) (S : List UInt8) (data : List ByteArray)
variable (hR : R ≤ 255) (hC : C ≤ 255) (hS : S.length = R * C) (hSc : ∀ i j, i < R → j < C → S.getD (i * C + j) 0 = c i j)
variable (hd : data.length = C) (hC1 : 1 ≤ C) (he : ∀ s, s ∈ data → s.size = n) (hn : n ≤ 140737488355231)
include hR hC hS hSc hd hC1 he hn
theorem under2 (i : Nat) (hi : i < R) (out : List ByteArray) (res : Option (List ByteArray)) (j : Nat) (hj : j < C) (d : Nat) : ∀ t, t + d = n → ∀ N, (∀ k, N ≤ k → corncribref03_Under.l1 k data out (i : Int) (ints (accC (c i) n data (j + 1))) ((j + 1 : Nat) : Int) (R : Int) (C : Int) (txt S) = res) → ∀ k, N + d + 1 ≤ k →
    corncribref03_Under.l2 k data out (i : Int) (ints (mixC (c i) n data j t)) (j : Int) (txt (data[j].data.toList.map (gmul (c i j)))) (t : Int) (R : Int) (C : Int) (txt S) = res := by
  have _u1 := hR
  have _u2 := hS
  have _u3 := hSc
  have hjl : j < data.length := by omega
  have hsz : data[j].data.toList.length = n := by rw [Array.length_toList]; exact he _ (List.getElem_mem hjl)
  induction d with
  | zero =>
    intro t ht N hN k hk
    obtain ⟨m, rfl, hm⟩ := pred_of (K := N) (k := k) (by omega)
    simp only [corncribref03_Under.l2]
    rw [ints_len, mixC_len, if_neg (by omega), show t = n by omega, mixC_full, w64_in _ (by omega) (by omega)]
    exact hN m hm
  | succ d ih =>
    intro t ht N hN k hk
    obtain ⟨m, rfl, hm⟩ := pred_of (K := N + d + 1) (k := k) (by omega)
    have htn : t < n := by omega
    have hts : (txt (data[j].data.toList.map (gmul (c i j)))).size = n := by rw [txt_size, List.length_map, hsz]
    simp only [corncribref03_Under.l2]
    rw [ints_len, mixC_len, if_pos (by omega), if_pos (by omega), hts, if_pos (by omega), rd_ints _ t (by rw [mixC_len]; exact htn), bt_nat _ t (by rw [hts]; exact htn), txt_list]
    have e1 : (data[j].data.toList.map (gmul (c i j))).getD t 0 = gmul (c i j) (dAt data j t) := by
      have e0 : data.getD j ByteArray.empty = data[j] := by rw [List.getD_eq_getElem?_getD, List.getElem?_eq_getElem hjl]; rfl
      unfold dAt
      rw [e0, List.getD_eq_getElem?_getD, List.getD_eq_getElem?_getD, List.getElem?_map, List.getElem?_eq_getElem (by omega)]
      rfl
    rw [e1, mixC_get, if_neg (by omega), xor_u8 _ _ (b_lt _) (b_lt _), ← UInt8.toNat_xor, Int.toNat_natCast, ints_set, mixC_set _ _ _ _ _ htn, w64_in _ (by omega) (by omega)]
    exact ih (t + 1) (by omega) N hN m hm
theorem under1 (i : Nat) (hi : i < R) (out : List ByteArray) (hout : out.length ≤ 255) (res : Option (List ByteArray)) (d : Nat) : ∀ j, j + d = C → ∀ N, (∀ k, N ≤ k → corncribref03_Under.l0 k data (out ++ [txt (accC (c i) n data C)]) ((i + 1 : Nat) : Int) (R : Int) (C : Int) (txt S) = res) → ∀ k, N + d * (n + 30) + 1 ≤ k →
    corncribref03_Under.l1 k data out (i : Int) (ints (accC (c i) n data j)) (j : Int) (R : Int) (C : Int) (txt S) = res := by
  induction d with
  | zero =>
    intro j hj N hN k hk
    rw [Nat.zero_mul] at hk
    obtain ⟨m, rfl, hm⟩ := pred_of (K := N) (k := k) (by omega)
    simp only [corncribref03_Under.l1]
    rw [if_neg (by omega), if_pos (by omega), str_ints, show j = C by omega, w64_in _ (by omega) (by omega)]
    exact hN m hm
  | succ d ih =>
    intro j hj N hN k hk
    rw [Nat.succ_mul] at hk
    obtain ⟨P, hP⟩ : ∃ P, d * (n + 30) = P := ⟨_, rfl⟩
    rw [hP] at hk ih
    clear hP
    obtain ⟨m, rfl, hm⟩ := pred_of (K := N + P + (n + 30)) (k := k) (by omega)
    have hjC : j < C := by omega
    have hjl : j < data.length := by omega
    have hij : i * C + j < R * C := by
      have : (i + 1) * C ≤ R * C := Nat.mul_le_mul_right _ (by omega)
      rw [Nat.succ_mul] at this
      omega
    have hb : R * C ≤ 255 * 255 := Nat.mul_le_mul hR hC
    have e1 : (i : Int) * (C : Int) = ((i * C : Nat) : Int) := by push_cast; rfl
    have hsz : data[j].size = n := he _ (List.getElem_mem hjl)
    simp only [corncribref03_Under.l1]
    rw [if_pos (by omega), e1, w64_in ((i * C : Nat) : Int) (by omega) (by omega), w64_in (((i * C : Nat) : Int) + (j : Int)) (by omega) (by omega), if_pos (by omega), if_pos (by rw [txt_size, hS]; omega), if_pos (by omega), if_pos (by omega)]
    have e2 : bt (txt S) (((i * C : Nat) : Int) + (j : Int)) = ((c i j).toNat : Int) := by
      rw [show ((i * C : Nat) : Int) + (j : Int) = ((i * C + j : Nat) : Int) by omega, bt_nat _ _ (by rw [txt_size, hS]; exact hij), txt_list, hSc i j hi hjC]
    rw [e2, rdOf_nat data j hjl, scale_f (c i j) data[j] (by omega) m (by omega), Option.bind_some, ← mixC_zero]
    exact under2 R C n c S data hR hC hS hSc hd hC1 he hn i hi out res j hjC n 0 (by omega) (N + P + 1) (fun k hk2 => ih (j + 1) (by omega) N hN k hk2) m (by omega)
theorem under0 (d : Nat) : ∀ i, i + d = R → ∀ k, d * (C * (n + 30) + 2) + 1 ≤ k →
    corncribref03_Under.l0 k data ((List.range i).map fun r => txt (accC (c r) n data C)) (i : Int) (R : Int) (C : Int) (txt S) = some ((List.range R).map fun r => txt (accC (c r) n data C)) := by
  have h0 := d0 n data (by omega) he
  induction d with
  | zero =>
    intro i hi k hk
    rw [Nat.zero_mul] at hk
    obtain ⟨m, rfl, _⟩ := pred_of (K := 0) hk
    simp only [corncribref03_Under.l0]
    rw [if_neg (by omega), show i = R by omega]
  | succ d ih =>
    intro i hi k hk
    rw [Nat.succ_mul] at hk
    obtain ⟨P, hP⟩ : ∃ P, d * (C * (n + 30) + 2) = P := ⟨_, rfl⟩
    obtain ⟨Q, hQ⟩ : ∃ Q, C * (n + 30) = Q := ⟨_, rfl⟩
    have hU := fun out hout res => under1 R C n c S data hR hC hS hSc hd hC1 he hn i (by omega) out hout res C
    rw [hP] at hk ih
    rw [hQ] at hk hU
    obtain ⟨m, rfl, hm⟩ := pred_of (K := P + (Q + 2)) (k := k) (by omega)
    simp only [corncribref03_Under.l0]
    rw [if_pos (by omega), if_pos (by omega), h0, if_pos (by omega), if_pos (by omega), Int.toNat_natCast, accC_zero (c i) n data]
    refine hU _ (by simp; omega) _ 0 (by omega) (P + 1) (fun k hk2 => ?_) m (by omega)
    have e : ((List.range i).map fun r => txt (accC (c r) n data C)) ++ [txt (accC (c i) n data C)] = (List.range (i + 1)).map fun r => txt (accC (c r) n data C) := by rw [List.range_succ, List.map_append]; rfl
    rw [e]
    exact ih (i + 1) (by omega) k hk2
/-- Enough rounds. -/
def underN (R C n : Nat) : Nat := R * (C * (n + 30) + 2) + 1
theorem under_f (k : Nat) (hk : underN R C n ≤ k) : corncribref03_Under.f k (R : Int) (C : Int) (txt S) data = some ((List.range R).map fun r => txt (accC (c r) n data C)) :=
  under0 R C n c S data hR hC hS hSc hd hC1 he hn R 0 (by omega) k hk
end
/-! Parity, Encode -/
theorem gen_getD (k m r j : Nat) (hr : r < k + m) (hj : j < k) : (genG k m).flatten.getD (r * k + j) 0 = genAt k r j := by
  rw [List.getD_eq_getElem?_getD, gen_byte k m r j hr hj]
  rfl
def parityN (k : Int) (m : Int) (data : List ByteArray) : Nat := underN (k.toNat + m.toNat) k.toNat (rdOf ByteArray.empty data 0).size + data.length + 10
theorem refparity_f (a0 a1 : Int) (data : List ByteArray) (hl : data.length ≤ 9223372036854775807) (k : Nat) (hk : parityN a0 a1 data ≤ k) : corncribref03_Parity.f k a0 a1 data = some (parityV a0 a1 data) := by
  unfold corncribref03_Parity.f parityV
  rw [refcode_f, Option.bind_some]
  unfold parityN at hk
  obtain ⟨k1, rfl⟩ : ∃ k1, k = k1 + 1 := ⟨k - 1, by omega⟩
  by_cases hc : codeB a0 a1 = true
  · rw [if_pos hc, if_pos hc]
    obtain ⟨K, M, rfl, rfl, h1, h2⟩ := codeB_nat hc
    by_cases hlen : (data.length : Int) = (K : Int)
    · rw [if_pos hlen, reven_f data hl _ (by omega), Option.bind_some]
      cases hev : evenB data with
      | false =>
        simp only [corncribref03_Parity.j0, Bool.not_false]
        rw [if_pos trivial, if_neg (by simp)]
      | true =>
        rw [if_pos ⟨hlen, rfl⟩]
        simp only [corncribref03_Parity.j0, Bool.not_true]
        rw [if_neg (by decide), if_pos (by omega)]
        by_cases hn : (rdOf ByteArray.empty data 0).size ≤ 2052
        · rw [if_neg (by omega), if_pos hn]
          unfold corncribref02_Made.f
          rw [if_pos hc, Option.bind_some]
          simp only [Int.toNat_natCast]
          rw [show (K : Int) + (M : Int) = ((K + M : Nat) : Int) by push_cast; rfl]
          rw [under_f (K + M) K (rdOf ByteArray.empty data 0).size (fun r j => genAt K r j) (genG K M).flatten data (by omega) (by omega) (genG_flat_len K M) (fun r j hr hj => gen_getD K M r j hr hj) (by omega) h1 (even_of hev) (by omega) k1 (by simp only [Int.toNat_natCast] at hk; omega)]
          rw [Option.bind_some, if_pos (by omega), if_pos (by simp; omega)]
          congr 2
          unfold parL
          rw [← List.map_drop, List.range_eq_range', List.drop_range', List.range_eq_range']
          apply List.ext_getElem
          · simp
          · intro i hi1 hi2
            simp only [List.getElem_map, List.getElem_range']
            rw [show 0 + K * 1 + 1 * i = K + (0 + 1 * i) by omega]
            rfl
        · rw [if_pos (by omega), if_neg hn]
    · rw [if_neg hlen, if_neg (fun h => hlen h.1)]
      simp only [corncribref03_Parity.j0]
      rw [if_pos trivial]
  · rw [if_neg hc, if_neg hc]
theorem shard_len (pl : List UInt8) (n i K : Nat) (hp : pl.length = n * K) (hi : i < K) : (shardOf pl n i).size = n := by
  unfold shardOf
  rw [txt_size, List.length_take, List.length_drop, hp]
  have : (i + 1) * n ≤ K * n := Nat.mul_le_mul_right _ (by omega)
  rw [Nat.succ_mul, Nat.mul_comm K n] at this
  omega
theorem splitL_len (K : Nat) (o : ByteArray) : (splitL K o).length = K := by simp [splitL]
theorem splitL_size (K : Nat) (o : ByteArray) (h1 : 1 ≤ K) : ∀ s, s ∈ splitL K o → s.size = sizeN K o.size := fun s hs => by
  obtain ⟨i, hi, rfl⟩ := List.mem_map.1 hs
  exact shard_len _ _ i K (plain_len K o h1) (List.mem_range.1 hi)
theorem splitL_first (K : Nat) (o : ByteArray) (h1 : 1 ≤ K) : (rdOf ByteArray.empty (splitL K o) 0).size = sizeN K o.size := by
  have h0 : 0 < (splitL K o).length := by rw [splitL_len]; exact h1
  have : rdOf ByteArray.empty (splitL K o) 0 = (splitL K o)[0] := rdOf_nat _ 0 h0
  rw [this]
  exact splitL_size K o h1 _ (List.getElem_mem h0)
theorem splitL_even (K : Nat) (o : ByteArray) (h1 : 1 ≤ K) : evenB (splitL K o) = true := by
  unfold evenB
  rw [List.all_eq_true]
  intro s hs
  rw [splitL_size K o h1 s hs, splitL_first K o h1]
  simp
def encL (K M : Nat) (o : ByteArray) : List ByteArray := splitL K o ++ parL K (sizeN K o.size) (splitL K o) M
def encV (k m : Int) (o : ByteArray) : List ByteArray × Int := if codeB k m = true then (if o.size ≤ 2048 then (encL k.toNat m.toNat o, 0) else ([], 2)) else ([], 1)
theorem parity_split (K M : Nat) (h1 : 1 ≤ K) (h2 : K + M ≤ 255) (o : ByteArray) (ho : o.size ≤ 2048) : parityV (K : Int) (M : Int) (splitL K o) = (parL K (sizeN K o.size) (splitL K o) M, 0) := by
  unfold parityV
  rw [if_pos (codeB_in h1 h2), if_pos ⟨by rw [splitL_len], splitL_even K o h1⟩, splitL_first K o h1, if_pos (sizeN_small K o.size h1 (by omega) ho)]
  rfl
theorem encode_f (a0 a1 : Int) (o : ByteArray) : stripe_Encode.f a0 a1 o = some (encV a0 a1 o) := by
  unfold stripe_Encode.f encV
  rw [code_f, Option.bind_some]
  by_cases hc : codeB a0 a1 = true
  · rw [if_pos hc, if_pos hc]
    obtain ⟨K, M, rfl, rfl, h1, h2⟩ := codeB_nat hc
    unfold stripe_Split.f splitV
    rw [Option.bind_some, if_pos (codeB_0 h1 (by omega))]
    by_cases ho : o.size ≤ 2048
    · rw [if_pos ho, if_pos ho, if_pos rfl]
      simp only [Int.toNat_natCast]
      unfold stripe_Parity.f
      rw [parity_split K M h1 h2 o ho, Option.bind_some, if_pos (by rw [splitL_len, parL_len]; omega)]
      rfl
    · rw [if_neg ho, if_neg ho, if_neg (by decide)]
  · rw [if_neg hc, if_neg hc]
theorem refencode_f (a0 a1 : Int) (o : ByteArray) (k : Nat) (hk : underN (a0.toNat + a1.toNat) a0.toNat (sizeN a0.toNat o.size) + 3300 ≤ k) : corncribref03_Encode.f k a0 a1 o = some (encV a0 a1 o) := by
  unfold corncribref03_Encode.f encV
  rw [refcode_f, Option.bind_some]
  by_cases hc : codeB a0 a1 = true
  · rw [if_pos hc, if_pos hc]
    obtain ⟨K, M, rfl, rfl, h1, h2⟩ := codeB_nat hc
    rw [refsplit_f _ o k (by omega), Option.bind_some]
    unfold splitV
    rw [if_pos (codeB_0 h1 (by omega))]
    by_cases ho : o.size ≤ 2048
    · rw [if_pos ho, if_pos ho, if_pos rfl]
      simp only [Int.toNat_natCast] at hk ⊢
      rw [refparity_f (K : Int) (M : Int) (splitL K o) (by rw [splitL_len]; omega) k (by unfold parityN; rw [splitL_first K o h1, splitL_len]; simp only [Int.toNat_natCast]; omega), parity_split K M h1 h2 o ho, Option.bind_some, if_pos (by rw [splitL_len, parL_len]; omega)]
      rfl
    · rw [if_neg ho, if_neg ho, if_neg (by decide)]
  · rw [if_neg hc, if_neg hc]
/-! Texts that are the same -/
theorem same_from (l : List ByteArray) (hl : l.length ≤ 9223372036854775807) (d : Nat) : ∀ i, i + d = l.length → ∀ k, d + 1 ≤ k → corncribbook_SameTexts.l0 k l l (i : Int) = some true := by
  induction d with
  | zero =>
    intro i hi k hk
    obtain ⟨m, rfl, _⟩ := pred_of (K := 0) hk
    simp only [corncribbook_SameTexts.l0]
    rw [if_neg (by omega)]
  | succ d ih =>
    intro i hi k hk
    obtain ⟨m, rfl, hm⟩ := pred_of hk
    simp only [corncribbook_SameTexts.l0]
    rw [if_pos (by omega), if_pos (by omega), if_pos (by omega), if_pos trivial, w64_in _ (by omega) (by omega)]
    exact ih (i + 1) (by omega) m hm
theorem same_f (l : List ByteArray) (hl : l.length ≤ 9223372036854775807) (k : Nat) (hk : l.length + 1 ≤ k) : corncribbook_SameTexts.f k l l = some true := by
  unfold corncribbook_SameTexts.f
  rw [if_pos rfl]
  exact same_from l hl l.length 0 (by omega) k hk
end Go.Proofs.YtegmmefijihdeaaDoor.PS
