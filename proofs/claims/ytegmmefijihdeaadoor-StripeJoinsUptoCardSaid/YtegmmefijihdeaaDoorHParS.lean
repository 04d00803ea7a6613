/- The parity of any shards is that of the document: the law's pure statement, and its walk. -/
import Derived.Test.YtegmmefijihdeaaDoorPSf6
import Derived.Test.YtegmmefijihdeaaDoorHWorksS
namespace Go.Proofs.YtegmmefijihdeaaDoor.PS
open Go.RowKit Go.Proofs.YtegmmefijihdeaaDoorW.PrintWords Go.Proofs.YtegmmefijihdeaaDoorW.PrintLast Go.Proofs.YtegmmefijihdeaaDoorW.PrintMore Go.Proofs.YtegmmefijihdeaaDoor.Gf Go.Proofs.YtegmmefijihdeaaDoor.Fld Go.Proofs.YtegmmefijihdeaaDoor.Grd Go.Proofs.YtegmmefijihdeaaDoor.Rowb
set_option linter.unusedVariables false
set_option linter.unusedSimpArgs false
theorem lend_f (l : List ByteArray) (h : l.length + 1 < 8796093022208) : corncribbook_LendTexts.f l = some l := by
  unfold corncribbook_LendTexts.f
  simp only [Option.bind_some, List.nil_append, List.length_nil, Nat.zero_add, List.length_append, List.length_cons, Int.toNat_natCast]
  rw [if_pos (by omega), if_pos (by omega), if_pos (by omega), if_pos (by omega), List.take_left' rfl]
theorem kept_f (l : List ByteArray) (hl : l.length ≤ 9223372036854775807) (k : Nat) (hk : l.length + 1 ≤ k) : corncribbook_KeptTexts.f k l l = some true := same_f l hl k hk
theorem parityV_len (a0 a1 : Int) (l : List ByteArray) : (parityV a0 a1 l).1.length ≤ 255 := by
  unfold parityV
  by_cases hc : codeB a0 a1 = true
  · obtain ⟨K, M, rfl, rfl, h1, h2⟩ := codeB_nat hc
    rw [if_pos hc]
    split
    · split
      · rw [parL_len]
        omega
      · exact Nat.zero_le _
    · exact Nat.zero_le _
  · rw [if_neg hc]
    exact Nat.zero_le _
def parK (a0 a1 : Int) (l : List ByteArray) : Nat := parityN a0 a1 l + l.length + 300
theorem par_main_f (a0 a1 : Int) (l : List ByteArray) (h : l.length + 1 < 8796093022208) : corncriblaw03_StripeParity.j0 (parK a0 a1 l + 1) a0 a1 l false = some true := by
  have hp := parityV_len a0 a1 l
  obtain ⟨K, hK⟩ : ∃ K, parK a0 a1 l = K := ⟨_, rfl⟩
  have hK' : parityN a0 a1 l + l.length + 300 = K := hK
  rw [hK]
  simp only [corncriblaw03_StripeParity.j0, stripe_Parity.f]
  rw [if_neg (by decide), lend_f l h, Option.bind_some, Option.bind_some, refparity_f a0 a1 l (by omega) K (by omega), Option.bind_some, same_f _ (by omega) K (by omega), Option.bind_some, if_pos rfl, if_pos rfl, kept_f l (by omega) K (by omega), Option.bind_some, if_pos rfl, works_k K (by omega)]
  rfl
theorem par_none_f (a0 a1 : Int) (l : List ByteArray) : corncriblaw03_StripeParity.j0 (parK a0 a1 l + 1) a0 a1 l true = some true := by
  have hk : 10 ≤ parK a0 a1 l := by unfold parK; omega
  simp only [corncriblaw03_StripeParity.j0]
  rw [if_pos trivial, works_k _ hk]
  rfl
theorem parity_pure (a0 a1 : Int) (l : List ByteArray) (h : l.length + 1 < 8796093022208) : ∃ k, corncriblaw03_StripeParity.f k a0 a1 l = some true := by
  refine ⟨parK a0 a1 l + 1, ?_⟩
  have hj : ∀ b, corncriblaw03_StripeParity.j0 (parK a0 a1 l + 1) a0 a1 l b = some true := fun b => by
    cases b
    · exact par_main_f a0 a1 l h
    · exact par_none_f a0 a1 l
  unfold corncriblaw03_StripeParity.f
  rw [refcode_f, Option.bind_some]
  by_cases hc : codeB a0 a1 = true
  · obtain ⟨K, M, rfl, rfl, h1, h2⟩ := codeB_nat hc
    rw [if_pos hc]
    split
    · exact hj _
    · split
      · exact hj _
      · split
        · rw [if_pos (by omega)]
          split
          · exact hj _
          · exact hj _
        · exact hj _
  · rw [if_neg hc]
    exact hj _
theorem parity_walk (W : World) (x0 : Int) (g0 : (Lit.int .i64 x0).wf = true) (x1 : Int) (g1 : (Lit.int .i64 x1).wf = true) {A : Option Addr} {cap : Nat} {l : List ByteArray} (hc : l.length ≤ cap) (hr : Kd.C Kd.string W A l.length l)
    (g : l.length * 16 ≤ 140737488351232 ∧ ∀ s, s ∈ l → s.size ≤ 140737488351232) :
    Calls Tryd.prog 6 #[.int .i64 x0, .int .i64 x1, .slice A l.length cap] W fun e W' => e = .returned (.bool true) ∧ Below W.heap.size W W' := by
  obtain ⟨k, hk⟩ := parity_pure x0 x1 l (by omega)
  exact corncriblaw03_StripeParity.calls k x0 x1 A cap l true W hr hc hk
end Go.Proofs.YtegmmefijihdeaaDoor.PS
