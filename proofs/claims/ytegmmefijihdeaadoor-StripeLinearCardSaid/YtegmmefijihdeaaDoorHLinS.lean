/- The parity of sums is the sums of the parity: the law's pure statement, and its walk. -/
import Derived.Test.YtegmmefijihdeaaDoorPSf8
import Derived.Test.YtegmmefijihdeaaDoorHWorksS
namespace Go.Proofs.YtegmmefijihdeaaDoor.PS
open Go.RowKit Go.Proofs.YtegmmefijihdeaaDoorW.PrintWords Go.Proofs.YtegmmefijihdeaaDoorW.PrintLast Go.Proofs.YtegmmefijihdeaaDoorW.PrintMore Go.Proofs.YtegmmefijihdeaaDoor.Gf Go.Proofs.YtegmmefijihdeaaDoor.Fld Go.Proofs.YtegmmefijihdeaaDoor.Grd Go.Proofs.YtegmmefijihdeaaDoor.Rowb
set_option linter.unusedVariables false
set_option linter.unusedSimpArgs false
def sumOf (la lb : List UInt8) (n i : Nat) : ByteArray := txt (xorL (shardOf la n i).data.toList (shardOf lb n i).data.toList)
theorem shard_list (pl : List UInt8) (n i : Nat) : (shardOf pl n i).data.toList = (pl.drop (i * n)).take n := by unfold shardOf; rw [txt_list]
theorem shard_size (pl : List UInt8) (n i : Nat) (h : i * n + n ≤ pl.length) : (shardOf pl n i).size = n := by
  have : (shardOf pl n i).data.toList.length = (shardOf pl n i).size := Array.length_toList
  rw [← this, shard_list, List.length_take, List.length_drop]
  omega
theorem sum_size (la lb : List UInt8) (n i : Nat) (ha : i * n + n ≤ la.length) (hb : i * n + n ≤ lb.length) : (sumOf la lb n i).size = n := by
  unfold sumOf xorL
  rw [txt_size, List.length_zipWith, shard_list, shard_list, List.length_take, List.length_drop, List.length_take, List.length_drop]
  omega
theorem in_of {K n L i : Nat} (h : K * n ≤ L) (hi : i < K) : i * n + n ≤ L := by
  have h2 : (i + 1) * n ≤ K * n := Nat.mul_le_mul_right _ (by omega)
  rw [Nat.succ_mul] at h2
  omega
theorem xor_f (a b : ByteArray) (h : a.size ≤ b.size) (hm : a.size ≤ 140737488355328) : corncriblaw03_xor.f a b = some (txt (xorL a.data.toList b.data.toList)) := by
  unfold corncriblaw03_xor.f
  rw [if_pos ⟨h, hm⟩]
theorem parity_of (K M n : Nat) (data : List ByteArray) (h1 : 1 ≤ K) (h2 : K + M ≤ 255) (hl : data.length = K) (he : ∀ s, s ∈ data → s.size = n) (hn : n ≤ 2052) : parityV (K : Int) (M : Int) data = (parL K n data M, 0) := by
  have h0 : (rdOf ByteArray.empty data 0).size = n := d0 n data (by omega) he
  have hev : evenB data = true := by
    unfold evenB
    rw [List.all_eq_true]
    intro s hs
    rw [h0, he s hs]
    exact beq_self_eq_true n
  unfold parityV
  rw [if_pos (codeB_in h1 h2), if_pos ⟨by omega, hev⟩, h0, if_pos hn]
  rfl
theorem acc_get (k r n : Nat) (data : List ByteArray) (q i : Nat) (h : i < (accRow k r n data q).length) : (accRow k r n data q)[i] = xs (List.range q) fun j => gmul (genAt k r j) (dAt data j i) := by simp [accRow]
theorem acc_xor (k r n : Nat) (A B C : List ByteArray) (q : Nat) (h : ∀ j, j < q → ∀ t, t < n → dAt C j t = dAt A j t ^^^ dAt B j t) : accRow k r n C q = xorL (accRow k r n A q) (accRow k r n B q) := by
  unfold xorL
  apply List.ext_getElem
  · rw [List.length_zipWith, acc_len, acc_len, acc_len, Nat.min_self]
  intro i h1 h2
  rw [acc_len] at h1
  rw [List.getElem_zipWith, acc_get, acc_get, acc_get, ← xs_xor]
  exact xs_congr (fun j hj => by rw [h j (List.mem_range.1 hj) i h1, gmul_xor])
theorem dAt_map (f : Nat → ByteArray) (K j t : Nat) (hj : j < K) : dAt ((List.range K).map f) j t = (f j).data.toList.getD t 0 := by
  unfold dAt
  rw [List.getD_eq_getElem?_getD (l := (List.range K).map f), List.getElem?_eq_getElem (by simp; exact hj)]
  simp
theorem sum_at (la lb : List UInt8) (n K j t : Nat) (ha : K * n ≤ la.length) (hb : K * n ≤ lb.length) (hj : j < K) (ht : t < n) :
    dAt ((List.range K).map (sumOf la lb n)) j t = dAt ((List.range K).map (shardOf la n)) j t ^^^ dAt ((List.range K).map (shardOf lb n)) j t := by
  have h1 := in_of ha hj
  have h2 := in_of hb hj
  rw [dAt_map _ _ _ _ hj, dAt_map _ _ _ _ hj, dAt_map _ _ _ _ hj]
  unfold sumOf xorL
  rw [txt_list, shard_list, shard_list]
  have l1 : t < ((la.drop (j * n)).take n).length := by rw [List.length_take, List.length_drop]; omega
  have l2 : t < ((lb.drop (j * n)).take n).length := by rw [List.length_take, List.length_drop]; omega
  rw [List.getD_eq_getElem?_getD, List.getD_eq_getElem?_getD, List.getD_eq_getElem?_getD, List.getElem?_zipWith, List.getElem?_eq_getElem l1, List.getElem?_eq_getElem l2]
  rfl
theorem lin_rows (K n : Nat) (la lb : List UInt8) (ha : K * n ≤ la.length) (hb : K * n ≤ lb.length) (r : Nat) :
    accRow K r n ((List.range K).map (sumOf la lb n)) K = xorL (accRow K r n ((List.range K).map (shardOf la n)) K) (accRow K r n ((List.range K).map (shardOf lb n)) K) :=
  acc_xor _ _ _ _ _ _ _ (fun j hj t ht => sum_at la lb n K j t ha hb hj ht)
theorem par_at (K n : Nat) (data : List ByteArray) (M i : Nat) (h : i < M) : rdOf ByteArray.empty (parL K n data M) (i : Int) = txt (accRow K (K + i) n data K) := by
  rw [rdOf_nat _ i (by rw [parL_len]; exact h)]
  unfold parL
  rw [List.getElem_map, List.getElem_range]
theorem txt_data' (o : List UInt8) : (txt o).data.toList = o := txt_list o
theorem lin_rounds (K M n : Nat) (la lb : List UInt8) (hm : M ≤ 255) (hn : n ≤ 2052) (ha : K * n ≤ la.length) (hb : K * n ≤ lb.length) (d : Nat) : ∀ i, i + d = M → ∀ k, d + 1 ≤ k →
    corncriblaw03_StripeLinear.l1 k (n : Int) (parL K n ((List.range K).map (shardOf la n)) M) (parL K n ((List.range K).map (shardOf lb n)) M) (parL K n ((List.range K).map (sumOf la lb n)) M) (M : Int) (i : Int) = some true := by
  induction d with
  | zero =>
    intro i hi k hk
    obtain ⟨m, rfl, _⟩ := pred_of (K := 0) hk
    simp only [corncriblaw03_StripeLinear.l1]
    rw [if_neg (by omega)]
  | succ d ih =>
    intro i hi k hk
    obtain ⟨m, rfl, hm2⟩ := pred_of hk
    have hi2 : i < M := by omega
    simp only [corncriblaw03_StripeLinear.l1]
    rw [par_at _ _ _ _ _ hi2, par_at _ _ _ _ _ hi2, par_at _ _ _ _ _ hi2, parL_len, parL_len, parL_len, txt_size, txt_size, acc_len, acc_len, if_pos (by omega), if_pos (by omega), if_pos (by omega), if_pos rfl, if_pos (by omega), if_pos rfl, if_pos (by omega),
      xor_f _ _ (by rw [txt_size, txt_size, acc_len, acc_len]; exact Nat.le_refl _) (by rw [txt_size, acc_len]; omega), Option.bind_some, txt_list, txt_list, ← lin_rows K n la lb ha hb, if_pos rfl, w64_in ((i : Int) + 1) (by omega) (by omega)]
    exact ih (i + 1) (by omega) m hm2
theorem lin_lists (K M n : Nat) (h1 : 1 ≤ K) (h2 : K + M ≤ 255) (hn : n ≤ 300) (x y : ByteArray) (hx : K * n ≤ x.size) (hy : K * n ≤ y.size) (hx2 : x.size ≤ 9223372036854775807) (hy2 : y.size ≤ 9223372036854775807) (d : Nat) : ∀ i, i + d = K → ∀ k, d + M + 3 ≤ k →
    corncriblaw03_StripeLinear.l0 k x y (K : Int) (M : Int) (n : Int) ((List.range i).map (shardOf x.data.toList n)) ((List.range i).map (shardOf y.data.toList n)) ((List.range i).map (sumOf x.data.toList y.data.toList n)) (K : Int) (i : Int) = some true := by
  have hxl : x.data.toList.length = x.size := Array.length_toList
  have hyl : y.data.toList.length = y.size := Array.length_toList
  induction d with
  | zero =>
    intro i hi k hk
    obtain ⟨m, rfl, hm⟩ := pred_of (K := M + 2) (by omega : M + 2 + 1 ≤ k)
    obtain ⟨m2, rfl, hm2⟩ := pred_of (K := M + 1) (by omega : M + 1 + 1 ≤ m)
    obtain rfl : i = K := by omega
    have p1 := parity_of i M n ((List.range i).map (shardOf x.data.toList n)) h1 h2 (by simp) (fun s hs => by obtain ⟨j, hj, rfl⟩ := List.mem_map.1 hs; exact shard_size _ _ _ (in_of (by omega) (List.mem_range.1 hj))) (by omega)
    have p2 := parity_of i M n ((List.range i).map (shardOf y.data.toList n)) h1 h2 (by simp) (fun s hs => by obtain ⟨j, hj, rfl⟩ := List.mem_map.1 hs; exact shard_size _ _ _ (in_of (by omega) (List.mem_range.1 hj))) (by omega)
    have p3 := parity_of i M n ((List.range i).map (sumOf x.data.toList y.data.toList n)) h1 h2 (by simp) (fun s hs => by obtain ⟨j, hj, rfl⟩ := List.mem_map.1 hs; exact sum_size _ _ _ _ (in_of (by omega) (List.mem_range.1 hj)) (in_of (by omega) (List.mem_range.1 hj))) (by omega)
    simp only [corncriblaw03_StripeLinear.l0]
    rw [if_neg (by omega)]
    simp only [stripe_Parity.f]
    rw [p1, p2, p3, Option.bind_some, Option.bind_some, Option.bind_some, if_pos rfl, if_pos rfl, if_pos rfl]
    dsimp only
    rw [parL_len, parL_len, parL_len, if_pos rfl, if_pos rfl]
    simp only [corncriblaw03_StripeLinear.j1]
    rw [if_neg (by simp)]
    exact lin_rounds i M n _ _ (by omega) (by omega) (by omega) (by omega) M 0 (by omega) m2 (by omega)
  | succ d ih =>
    intro i hi k hk
    obtain ⟨m, rfl, hm⟩ := pred_of (K := d + M + 3) (by omega : d + M + 3 + 1 ≤ k)
    have hiK : i < K := by omega
    have hinx : i * n + n ≤ x.size := in_of hx hiK
    have hiny : i * n + n ≤ y.size := in_of hy hiK
    have e1 : (i : Int) * (n : Int) = ((i * n : Nat) : Int) := by push_cast; rfl
    have e2 : ((i * n : Nat) : Int) + (n : Int) = ((i * n + n : Nat) : Int) := by push_cast; rfl
    have b1 : i * n ≤ 9223372036854775807 := by omega
    have b2 : i * n + n ≤ 9223372036854775807 := by omega
    have g1 : x.extract (i * n) (i * n + n) = shardOf x.data.toList n i := shard_extract x x.data.toList n i (i * n) rfl rfl (by omega)
    have g2 : y.extract (i * n) (i * n + n) = shardOf y.data.toList n i := shard_extract y y.data.toList n i (i * n) rfl rfl (by omega)
    have q1 : (List.range i).map (shardOf x.data.toList n) ++ [shardOf x.data.toList n i] = (List.range (i + 1)).map (shardOf x.data.toList n) := by rw [List.range_succ, List.map_append]; rfl
    have q2 : (List.range i).map (shardOf y.data.toList n) ++ [shardOf y.data.toList n i] = (List.range (i + 1)).map (shardOf y.data.toList n) := by rw [List.range_succ, List.map_append]; rfl
    have q3 : (List.range i).map (sumOf x.data.toList y.data.toList n) ++ [sumOf x.data.toList y.data.toList n i] = (List.range (i + 1)).map (sumOf x.data.toList y.data.toList n) := by rw [List.range_succ, List.map_append]; rfl
    have r1 : rdOf ByteArray.empty ((List.range (i + 1)).map (shardOf x.data.toList n)) (i : Int) = shardOf x.data.toList n i := by rw [rdOf_nat _ i (by simp), List.getElem_map, List.getElem_range]
    have r2 : rdOf ByteArray.empty ((List.range (i + 1)).map (shardOf y.data.toList n)) (i : Int) = shardOf y.data.toList n i := by rw [rdOf_nat _ i (by simp), List.getElem_map, List.getElem_range]
    have s1 : (shardOf x.data.toList n i).size = n := shard_size _ _ _ (by omega)
    have s2 : (shardOf y.data.toList n i).size = n := shard_size _ _ _ (by omega)
    have hxf : corncriblaw03_xor.f (shardOf x.data.toList n i) (shardOf y.data.toList n i) = some (sumOf x.data.toList y.data.toList n i) := xor_f _ _ (by omega) (by omega)
    have L1 : ((List.range i).map (shardOf x.data.toList n)).length < 8796093022208 := by simp; omega
    have L2 : ((List.range i).map (shardOf y.data.toList n)).length < 8796093022208 := by simp; omega
    have L3 : ((List.range i).map (sumOf x.data.toList y.data.toList n)).length < 8796093022208 := by simp; omega
    have N1 : (i : Int) < (((List.range (i + 1)).map (shardOf x.data.toList n)).length : Int) := by simp; omega
    have N2 : (i : Int) < (((List.range (i + 1)).map (shardOf y.data.toList n)).length : Int) := by simp; omega
    simp only [corncriblaw03_StripeLinear.l0]
    rw [if_pos (by omega), e1, w64_nat _ b1, e2, w64_nat _ b2, if_pos (by omega), if_pos (by omega), if_pos (by omega), if_pos L1, Int.toNat_natCast, Int.toNat_natCast, g1, q1, Option.bind_some, if_pos (by omega), if_pos L2, g2, q2, Option.bind_some, if_pos (by omega), if_pos N1, if_pos N2, r1, r2, hxf, Option.bind_some, if_pos L3, q3, w64_in ((i : Int) + 1) (by omega) (by omega)]
    exact ih (i + 1) (by omega) m (by omega)
theorem linear_pure (a0 a1 : Int) (x y : ByteArray) (h0 : (Lit.int .i64 a0).wf = true) (h1 : (Lit.int .i64 a1).wf = true) (hx : x.size ≤ 140737488351232) (hy : y.size ≤ 140737488351232) : corncriblaw03_StripeLinear.f 300 a0 a1 x y = some true := by
  obtain ⟨u, hu, e1⟩ := among_f a0 6 (wf_i64 h0).1 (wf_i64 h0).2 (by decide) (by decide)
  obtain ⟨M, hM, e2⟩ := among_f a1 5 (wf_i64 h1).1 (wf_i64 h1).2 (by decide) (by decide)
  have e1' : corncribbook_Among.f a0 6 = some (u : Int) := e1
  have e2' : corncribbook_Among.f a1 5 = some (M : Int) := e2
  obtain ⟨K, hK⟩ : ∃ K, K = 1 + u := ⟨_, rfl⟩
  have hKi : wrap64 (1 + (u : Int)) = (K : Int) := by rw [w64_in _ (by omega) (by omega)]; omega
  have hK1 : 1 ≤ K := by omega
  have hK2 : K ≤ 6 := by omega
  obtain ⟨t, ht⟩ : ∃ t, t = min (min x.size y.size) 300 := ⟨_, rfl⟩
  have hmn : mn (mn (x.size : Int) (y.size : Int)) 300 = (t : Int) := by rw [mn_nat x.size y.size, show (300 : Int) = ((300 : Nat) : Int) from rfl, mn_nat, ht]
  have t1 : t ≤ x.size := by omega
  have t2 : t ≤ y.size := by omega
  have t3 : t ≤ 300 := by omega
  have hd : K * (t / K) ≤ t := Nat.mul_div_le t K
  have hd2 : t / K ≤ t := Nat.div_le_self t K
  have e3 : ((t : Int) / (K : Int)) = ((t / K : Nat) : Int) := by rw [Int.natCast_ediv]
  have b3 : t / K ≤ 9223372036854775807 := by omega
  have hx' : K * (t / K) ≤ x.size := by omega
  have hy' : K * (t / K) ≤ y.size := by omega
  have hn : t / K ≤ 300 := by omega
  have hKn : ¬ ((K : Int) = 0) := by omega
  have hkm : K + M ≤ 255 := by omega
  have hfu : K + M + 3 ≤ 300 := by omega
  unfold corncriblaw03_StripeLinear.f
  rw [works_k 300 (by decide), Option.bind_some, if_pos rfl, e1', Option.bind_some, e2', Option.bind_some, hKi, if_neg hKn, hmn, e3, w64_nat _ b3]
  exact lin_lists K M (t / K) hK1 hkm hn x y hx' hy' (by omega) (by omega) K 0 (by omega) 300 hfu
theorem linear_walk (W : World) (x0 x1 : Int) (g0 : (Lit.int .i64 x0).wf = true) (g1 : (Lit.int .i64 x1).wf = true) (x2 : ByteArray) (h2 : x2.size ≤ 140737488351232) (x3 : ByteArray) (h3 : x3.size ≤ 140737488351232) :
    Calls Tryd.prog 8 #[.agg #[.int .i64 x0, .int .i64 x1], .string x2, .string x3] W fun e W' => e = .returned (.bool true) ∧ Below W.heap.size W W' :=
  corncriblaw03_StripeLinear.calls 300 x0 x1 x2 x3 true W (linear_pure x0 x1 x2 x3 g0 g1 h2 h3)
end Go.Proofs.YtegmmefijihdeaaDoor.PS
