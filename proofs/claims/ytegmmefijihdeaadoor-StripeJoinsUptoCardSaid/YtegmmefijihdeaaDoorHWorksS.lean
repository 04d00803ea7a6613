/- The chapter's example holds; splits, codes, sizes: the laws' pure statements. -/
import Derived.Test.YtegmmefijihdeaaDoorPSf20
import Derived.Test.YtegmmefijihdeaaDoorPSf3
import Derived.Test.YtegmmefijihdeaaDoorPSf5
import Derived.Test.YtegmmefijihdeaaDoorPSf9
import Derived.Test.YtegmmefijihdeaaDoorHRefS
namespace Go.Proofs.YtegmmefijihdeaaDoor.PS
open Go.RowKit Go.Proofs.YtegmmefijihdeaaDoorW.PrintWords Go.Proofs.YtegmmefijihdeaaDoorW.PrintLast Go.Proofs.YtegmmefijihdeaaDoorW.PrintMore Go.Proofs.YtegmmefijihdeaaDoor.Gf Go.Proofs.YtegmmefijihdeaaDoor.Fld Go.Proofs.YtegmmefijihdeaaDoor.Grd Go.Proofs.YtegmmefijihdeaaDoor.Rowb
set_option linter.unusedVariables false
set_option linter.unusedSimpArgs false
theorem works_at : corncriblaw03_works.f 10 = some true := by kernel_rfl
theorem works_f : ∀ k, corncriblaw03_works.f (k + 10) = some true
  | 0 => works_at
  | k + 1 => corncriblaw03_works.mono _ _ (works_f k)
theorem works_k (k : Nat) (hk : 10 ≤ k) : corncriblaw03_works.f k = some true := by
  have := works_f (k - 10)
  rwa [Nat.sub_add_cancel hk] at this
theorem splitV_len (k : Int) (o : ByteArray) : (splitV k o).1.length ≤ 255 := by
  unfold splitV
  split
  · rename_i hc
    obtain ⟨K, M, rfl, hM, h1, h2⟩ := codeB_nat hc
    split
    · rw [splitL_len]; simp; omega
    · simp
  · simp
theorem encV_len (k m : Int) (o : ByteArray) : (encV k m o).1.length ≤ 255 := by
  unfold encV
  split
  · rename_i hc
    obtain ⟨K, M, rfl, rfl, h1, h2⟩ := codeB_nat hc
    split
    · unfold encL
      rw [List.length_append, splitL_len, parL_len]; simp; omega
    · simp
  · simp
theorem splits_pure (a0 : Int) (a1 : ByteArray) (a2 : Int) : corncriblaw03_StripeSplits.f 3000 a0 a1 a2 = some true := by
  unfold corncriblaw03_StripeSplits.f
  rw [size_f, Option.bind_some, refsize_f, Option.bind_some]
  unfold stripe_Split.f
  rw [Option.bind_some, refsplit_f a0 a1 3000 (Nat.le_refl _), Option.bind_some, if_pos rfl, if_pos rfl, same_f _ (by have := splitV_len a0 a1; omega) 3000 (by have := splitV_len a0 a1; omega), Option.bind_some, if_pos rfl, if_pos rfl, works_k 3000 (by decide), Option.bind_some]
theorem codes_pure (a0 a1 : Int) (a2 : ByteArray) : ∃ k, corncriblaw03_StripeCodes.f k a0 a1 a2 = some true := by
  obtain ⟨N, hN⟩ : ∃ N, underN (a0.toNat + a1.toNat) a0.toNat (sizeN a0.toNat a2.size) + 3300 = N := ⟨_, rfl⟩
  refine ⟨N + 1, ?_⟩
  have hj : ∀ b, corncriblaw03_StripeCodes.j0 (N + 1) a0 a1 a2 b = some true := by
    intro b
    simp only [corncriblaw03_StripeCodes.j0]
    cases b with
    | true => rw [if_pos rfl, works_k N (by omega), Option.bind_some]
    | false =>
      rw [if_neg (by decide), encode_f, Option.bind_some, refencode_f a0 a1 a2 N (by omega), Option.bind_some, same_f _ (by have := encV_len a0 a1 a2; omega) N (by have := encV_len a0 a1 a2; omega), Option.bind_some, if_pos rfl, if_pos rfl, works_k N (by omega), Option.bind_some]
  unfold corncriblaw03_StripeCodes.f
  rw [refcode_f, Option.bind_some]
  split
  · split
    · exact hj _
    · exact hj _
  · exact hj _
theorem among_f (x : Int) (n : Nat) (hx : -9223372036854775808 ≤ x) (hx2 : x ≤ 9223372036854775807) (h1 : 1 ≤ n) (h2 : n ≤ 100000) : ∃ y : Nat, y < n ∧ corncribbook_Among.f x (n : Int) = some (y : Int) := by
  unfold corncribbook_Among.f
  rw [if_neg (by omega)]
  have h3 : -(n : Int) < x.tmod (n : Int) ∧ x.tmod (n : Int) < (n : Int) := by
    have ha := Int.lt_tmod_of_pos x (show (0 : Int) < (n : Int) by omega)
    have hb := Int.tmod_lt_of_pos x (show (0 : Int) < (n : Int) by omega)
    exact ⟨ha, hb⟩
  obtain ⟨t, ht⟩ : ∃ t, x.tmod (n : Int) = t := ⟨_, rfl⟩
  rw [ht] at h3 ⊢
  rw [w64_in (t + (n : Int)) (by omega) (by omega)]
  obtain ⟨s, hs⟩ : ∃ s : Nat, t + (n : Int) = (s : Int) := ⟨(t + (n : Int)).toNat, by omega⟩
  rw [hs, Int.tmod_eq_emod_of_nonneg (by omega)]
  refine ⟨s % n, Nat.mod_lt _ (by omega), ?_⟩
  rw [Int.natCast_emod]
theorem mn_nat (a b : Nat) : mn (a : Int) (b : Int) = ((min a b : Nat) : Int) := by
  unfold mn
  rcases Nat.le_total a b with h | h
  · rw [Nat.min_eq_left h]; first | rw [if_pos (by omega)] | rw [if_neg (by omega)] | (split <;> omega)
  · rw [Nat.min_eq_right h]; first | (split <;> omega) | rw [if_neg (by omega)]
theorem w64_nat (n : Nat) (h : n ≤ 9223372036854775807) : wrap64 (n : Int) = (n : Int) := w64_in _ (by omega) (by omega)
theorem wf_i64 {x : Int} (h : (Lit.int .i64 x).wf = true) : -9223372036854775808 ≤ x ∧ x ≤ 9223372036854775807 := by
  have : IntKind.i64.min ≤ x ∧ x ≤ IntKind.i64.max := by simpa [Lit.wf] using h
  exact this
theorem sizes_pure (a0 a1 : Int) (h0 : (Lit.int .i64 a0).wf = true) (h1 : (Lit.int .i64 a1).wf = true) : corncriblaw03_StripeSizes.f 10 a0 a1 = some true := by
  obtain ⟨y, hy, e1⟩ := among_f a0 255 (wf_i64 h0).1 (wf_i64 h0).2 (by decide) (by decide)
  obtain ⟨L, hL, e2⟩ := among_f a1 2049 (wf_i64 h1).1 (wf_i64 h1).2 (by decide) (by decide)
  unfold corncriblaw03_StripeSizes.f
  rw [works_k 10 (by decide), Option.bind_some, if_pos rfl]
  have e1' : corncribbook_Among.f a0 255 = some (y : Int) := e1
  have e2' : corncribbook_Among.f a1 2049 = some (L : Int) := e2
  rw [e1', Option.bind_some, e2', Option.bind_some]
  obtain ⟨K, hK⟩ : ∃ K, K = 1 + y := ⟨_, rfl⟩
  have hKi : wrap64 (1 + (y : Int)) = (K : Int) := by rw [w64_in _ (by omega) (by omega)]; omega
  have hLi : wrap64 ((L : Int) + 1) = ((L + 1 : Nat) : Int) := by rw [w64_in _ (by omega) (by omega)]; omega
  have hmn : mn 2048 ((L + 1 : Nat) : Int) = ((min 2048 (L + 1) : Nat) : Int) := mn_nat 2048 (L + 1)
  rw [hKi, hLi, hmn, size_f, sizeV_in (by omega) (by omega) (by omega), Option.bind_some, size_f, sizeV_in (by omega) (by omega) (by omega), Option.bind_some]
  simp only
  have g1 := sizeN_ge K L (by omega)
  have g2 := sizeN_lt K L (by omega)
  have g3 := sizeN_small K L (by omega) (by omega) (by omega)
  have g4 : sizeN K L ≤ sizeN K (min 2048 (L + 1)) := Nat.div_le_div_right (by omega)
  have g5 : sizeN K (min 2048 (L + 1)) ≤ sizeN K L + 1 := by
    have : sizeN K L + 1 = (4 + L + K - 1 + K) / K := by rw [Nat.add_div_right _ (by omega)]; rfl
    rw [this]
    exact Nat.div_le_div_right (by omega)
  have g6 : sizeN K L ≠ 0 := fun e => by rw [e] at g1; omega
  generalize sizeN K (min 2048 (L + 1)) = m at *
  generalize sizeN K L = n at *
  clear e1 e2 e1' e2' hKi hLi hmn
  obtain ⟨n', rfl⟩ : ∃ n', n = n' + 1 := ⟨n - 1, by omega⟩
  have hb : n' * K ≤ 2052 * 255 := Nat.mul_le_mul (by omega) (by omega)
  rw [Nat.succ_mul] at g1 g2
  have c1 : ((n' * K + K : Nat) : Int) ≥ ((L + 4 : Nat) : Int) := by omega
  have c2 : ((n' * K : Nat) : Int) < ((L + 4 : Nat) : Int) := by omega
  have c3 : (m : Int) ≥ ((n' + 1 : Nat) : Int) := by omega
  have c4 : decide ((m : Int) ≤ ((n' + 2 : Nat) : Int)) = true := decide_eq_true (by omega)
  have b1 : n' * K + K ≤ 9223372036854775807 := by omega
  have b2 : L + 4 ≤ 9223372036854775807 := by omega
  have b3 : n' * K ≤ 9223372036854775807 := by omega
  have b4 : n' + 2 ≤ 9223372036854775807 := by omega
  have b5 : n' ≤ 9223372036854775807 := by omega
  have e3 : ((n' + 1 : Nat) : Int) * (K : Int) = ((n' * K + K : Nat) : Int) := by rw [← Nat.succ_mul]; push_cast; rfl
  have e4 : ((n' + 1 : Nat) : Int) - 1 = (n' : Int) := by omega
  have e5 : (n' : Int) * (K : Int) = ((n' * K : Nat) : Int) := by push_cast; rfl
  have e6 : (L : Int) + 4 = ((L + 4 : Nat) : Int) := by omega
  have e7 : ((n' + 1 : Nat) : Int) + 1 = ((n' + 2 : Nat) : Int) := by omega
  rw [if_pos trivial, if_pos trivial, e3, e4, e6, e7, w64_nat _ b1, w64_nat _ b2, w64_nat _ b5, e5, w64_nat _ b3, w64_nat _ b4, if_pos c1, if_pos c2, if_pos c3, c4]
end Go.Proofs.YtegmmefijihdeaaDoor.PS
