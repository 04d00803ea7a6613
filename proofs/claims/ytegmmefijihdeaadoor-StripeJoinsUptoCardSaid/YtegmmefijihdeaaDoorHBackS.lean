/- What is split is joined to the object: the law's pure statement, and its walk. -/
import Derived.Test.YtegmmefijihdeaaDoorPSf7
import Derived.Test.YtegmmefijihdeaaDoorHWorksS
import Derived.Test.YtegmmefijihdeaaDoorHJoin
namespace Go.Proofs.YtegmmefijihdeaaDoor.PS
open Go.RowKit Go.Proofs.YtegmmefijihdeaaDoorW.PrintWords Go.Proofs.YtegmmefijihdeaaDoorW.PrintLast Go.Proofs.YtegmmefijihdeaaDoorW.PrintMore Go.Proofs.YtegmmefijihdeaaDoor.Gf Go.Proofs.YtegmmefijihdeaaDoor.Fld Go.Proofs.YtegmmefijihdeaaDoor.Grd Go.Proofs.YtegmmefijihdeaaDoor.Rowb
set_option linter.unusedVariables false
set_option linter.unusedSimpArgs false
theorem pieces_flat (s : List UInt8) (n : Nat) : ∀ K, K * n ≤ s.length → ((List.range K).map fun i => (s.drop (i * n)).take n).flatten = s.take (K * n)
  | 0, _ => by simp
  | K + 1, h => by
    have hk : K * n ≤ s.length := by rw [Nat.succ_mul] at h; omega
    rw [List.range_succ, List.map_append, List.flatten_append, pieces_flat s n K hk, Nat.succ_mul, List.take_add]
    simp
theorem flat_split (K : Nat) (o : ByteArray) (h1 : 1 ≤ K) : flat (splitL K o) = plainL K o := by
  have hl := plain_len K o h1
  have h := pieces_flat (plainL K o) (sizeN K o.size) K (by rw [hl, Nat.mul_comm]; exact Nat.le_refl _)
  rw [List.take_of_length_le (by rw [hl, Nat.mul_comm]; exact Nat.le_refl _)] at h
  rw [← h]
  unfold flat splitL
  rw [List.map_map]
  congr 1
theorem long_plain (K : Nat) (o : ByteArray) (ho : o.size ≤ 2048) : longOf (plainL K o) = o.size := by
  have e : ∀ j, j < 4 → (plainL K o).getD j 0 = (be4 o.size).getD j 0 := fun j hj => by
    unfold plainL
    rw [List.getD_eq_getElem?_getD, List.append_assoc, List.getElem?_append_left (by show j < 4; exact hj), ← List.getD_eq_getElem?_getD]
  unfold longOf
  rw [e 0 (by decide), e 1 (by decide), e 2 (by decide), e 3 (by decide)]
  have e3 : ((be4 o.size).getD 2 0).toNat = o.size / 256 := by
    show (UInt8.ofNat (o.size / 256)).toNat = _
    rw [UInt8.toNat_ofNat', Nat.mod_eq_of_lt (by omega)]
  have e4 : ((be4 o.size).getD 3 0).toNat = o.size % 256 := by
    show (UInt8.ofNat (o.size % 256)).toNat = _
    rw [UInt8.toNat_ofNat', Nat.mod_eq_of_lt (by omega)]
  have e1 : ((be4 o.size).getD 0 0).toNat = 0 := rfl
  have e2 : ((be4 o.size).getD 1 0).toNat = 0 := rfl
  rw [e1, e2, e3, e4]
  omega
theorem txt_data (o : ByteArray) : txt o.data.toList = o := by
  unfold txt
  rfl
theorem joinS_plain (K : Nat) (o : ByteArray) (h1 : 1 ≤ K) (ho : o.size ≤ 2048) : joinS K (plainL K o) = (o, 0) := by
  have hl := plain_len K o h1
  have hg := sizeN_ge K o.size h1
  have hol : o.data.toList.length = o.size := Array.length_toList
  have h4 : (be4 o.size).length = 4 := rfl
  unfold joinS
  rw [if_neg (by omega), long_plain K o ho, if_pos ⟨ho, hl.symm⟩]
  have e1 : (plainL K o).drop (4 + o.size) = zeros (sizeN K o.size * K - (4 + o.size)) := by
    unfold plainL
    rw [List.drop_append_of_le_length (by rw [List.length_append, h4, hol]; omega), List.drop_of_length_le (by rw [List.length_append, h4, hol]; omega), List.nil_append]
  have e2 : ((plainL K o).drop 4).take o.size = o.data.toList := by
    unfold plainL
    rw [List.append_assoc, List.drop_append_of_le_length (by omega), List.drop_of_length_le (by omega), List.nil_append, List.take_append_of_le_length (by omega), List.take_of_length_le (by omega)]
  rw [e1, e2, txt_data, if_pos (by unfold zeros; simp)]
theorem join_split (K : Nat) (o : ByteArray) (h1 : 1 ≤ K) (h2 : K ≤ 255) (ho : o.size ≤ 2048) : stripe_Join.f (splitL K o) = some (o, 0) := by
  have hs := sizeN_small K o.size h1 h2 ho
  have hm : sizeN K o.size * K ≤ 2052 * 255 := Nat.mul_le_mul hs h2
  unfold stripe_Join.f joinFits joinV
  rw [flat_split K o h1, plain_len K o h1, if_pos (decide_eq_true (fun _ => by omega)), splitL_len, if_pos ⟨h1, h2⟩, if_pos (splitL_even K o h1), joinS_plain K o h1 ho]
theorem parL_size (k n : Nat) (data : List ByteArray) (r : Nat) : ∀ s, s ∈ parL k n data r → s.size = n := fun s hs => by
  obtain ⟨i, hi, rfl⟩ := List.mem_map.1 hs
  rw [txt_size, acc_len]
theorem encL_len (K M : Nat) (o : ByteArray) : (encL K M o).length = K + M := by unfold encL; rw [List.length_append, splitL_len, parL_len]
theorem encL_size (K M : Nat) (o : ByteArray) (h1 : 1 ≤ K) : ∀ s, s ∈ encL K M o → s.size = sizeN K o.size := fun s hs => by
  rcases List.mem_append.1 hs with hs | hs
  · exact splitL_size K o h1 s hs
  · exact parL_size _ _ _ _ s hs
theorem back_from (K M n : Nat) (sp enc : List ByteArray) (hsp : sp.length = K) (henc : enc.length = K + M) (hb : K + M ≤ 255) (hsz : ∀ s, s ∈ enc → s.size = n) (hfst : ∀ i (h : i < K), enc[i]'(by omega) = sp[i]'(by omega)) (d : Nat) : ∀ i, i + d = K + M → ∀ k, d + 1 ≤ k →
    corncriblaw03_StripeBack.l0 k (K : Int) sp (n : Int) enc ((K + M : Nat) : Int) (i : Int) = some true := by
  induction d with
  | zero =>
    intro i hi k hk
    obtain ⟨m, rfl, _⟩ := pred_of (K := 0) hk
    simp only [corncriblaw03_StripeBack.l0]
    rw [if_neg (by omega)]
  | succ d ih =>
    intro i hi k hk
    obtain ⟨m, rfl, hm⟩ := pred_of hk
    have hie : i < enc.length := by omega
    have h1 : ((rdOf ByteArray.empty enc (i : Int)).size : Int) = (n : Int) := by rw [rdOf_nat enc i hie, hsz _ (List.getElem_mem hie)]
    simp only [corncriblaw03_StripeBack.l0]
    rw [if_pos (by omega), if_pos (by omega), if_pos (by omega), if_pos h1, w64_in ((i : Int) + 1) (by omega) (by omega)]
    by_cases hik : i < K
    · have h2 : (rdOf ByteArray.empty enc (i : Int)).toList = (rdOf ByteArray.empty sp (i : Int)).toList := by rw [rdOf_nat enc i hie, rdOf_nat sp i (by omega), hfst i hik]
      rw [if_pos (by omega), if_pos (by omega), if_pos h2]
      exact ih (i + 1) (by omega) m hm
    · rw [if_neg (by omega)]
      exact ih (i + 1) (by omega) m hm
theorem back_pure (a0 : Int) (a1 : ByteArray) (h0 : (Lit.int .i64 a0).wf = true) : corncriblaw03_StripeBack.f 300 a0 a1 = some true := by
  obtain ⟨y, hy, e1⟩ := among_f a0 12 (wf_i64 h0).1 (wf_i64 h0).2 (by decide) (by decide)
  have e1' : corncribbook_Among.f a0 12 = some (y : Int) := e1
  unfold corncriblaw03_StripeBack.f
  rw [works_k 300 (by decide), Option.bind_some, if_pos rfl, e1', Option.bind_some]
  by_cases ho : a1.size ≤ 2048
  · rw [if_neg (by omega)]
    obtain ⟨K, hK⟩ : ∃ K, K = 1 + y := ⟨_, rfl⟩
    have hKi : wrap64 (1 + (y : Int)) = (K : Int) := by rw [w64_in _ (by omega) (by omega)]; omega
    rw [hKi]
    have hK1 : 1 ≤ K := by omega
    have hK2 : K ≤ 12 := by omega
    clear e1 e1' hKi
    unfold stripe_Split.f splitV
    rw [Option.bind_some, if_pos (codeB_0 hK1 (by omega)), if_pos ho, size_f, sizeV_in hK1 (by omega) ho, Option.bind_some]
    simp only [Int.toNat_natCast]
    rw [join_split K a1 hK1 (by omega) ho, Option.bind_some, encode_f, Option.bind_some]
    have ev : encV (K : Int) 2 a1 = (encL K 2 a1, 0) := by
      unfold encV
      rw [if_pos (show codeB (K : Int) 2 = true from codeB_in (M := 2) hK1 (by omega)), if_pos ho]
      rfl
    rw [ev, if_pos trivial, if_pos trivial, if_pos rfl, if_pos rfl, if_pos rfl, splitL_len, if_pos rfl, encL_len]
    have e3 : ((((K + 2 : Nat) : Int)) != wrap64 ((K : Int) + 2)) = false := by
      rw [w64_in _ (by omega) (by omega)]
      simp
    rw [e3]
    simp only [corncriblaw03_StripeBack.j0]
    rw [if_neg (by decide), encL_len]
    refine back_from K 2 _ _ _ (splitL_len K a1) (encL_len K 2 a1) (by omega) (encL_size K 2 a1 hK1) (fun i hi => ?_) (K + 2) 0 (by omega) 299 (by omega)
    unfold encL
    rw [List.getElem_append_left (by rw [splitL_len]; exact hi)]
  · rw [if_pos (by omega)]
theorem back_walk (W : World) (x0 : Int) (g0 : (Lit.int .i64 x0).wf = true) (x1 : ByteArray) (g1 : x1.size ≤ 140737488351232) :
    Calls Tryd.prog 7 #[.int .i64 x0, .string x1] W fun e W' => e = .returned (.bool true) ∧ Below W.heap.size W W' :=
  corncriblaw03_StripeBack.calls 300 x0 x1 true W (back_pure x0 x1 g0)
end Go.Proofs.YtegmmefijihdeaaDoor.PS
