/- LocksClash: the plain law, and the walk. -/
-- IMPORTS
import Derived.Test.YtpfhdgacjeklaaaPLocks0
import Derived.Test.YtpfhdgacjeklaaaPLocksf4
import Derived.Test.YtpfhdgacjeklaaaHBlock
-- END IMPORTS
import Derived.Test.YtpfhdgacjeklaaaHRefW
import Derived.Test.YtpfhdgacjeklaaaHWorks
import Derived.Test.YtpfhdgacjeklaaaHOpen
namespace Go.Proofs.Ytpfhdgacjeklaaa.PLocks
open Go.RowKit Go.Proofs.YtpfhdgacjeklaaaW.PrintWords Go.Proofs.YtpfhdgacjeklaaaW.PrintLast Go.Proofs.YtpfhdgacjeklaaaW.PrintMore
set_option linter.unusedVariables false
set_option linter.unusedSimpArgs false
theorem sizes_rec {r : S25} (h : okRec r) : sizesOk r ∧ r.f8.length < 3518437208883 := by
  unfold okRec at h
  unfold sizesOk
  omega
theorem blockers_f (l : List S25) (r : S25) (hs : ∀ x, x ∈ l → sizesOk x) (hr : sizesOk r) : locks_Blockers.f l r.f0 r.f1 r.f2 r.f3 r.f4 r.f5 r.f6 r.f7 r.f8 = some (blockV l r) := by
  unfold locks_Blockers.f
  have hb : ∀ x, sizesOk x → sizesOkB x = true := fun x h => by
    unfold sizesOkB
    simp [h.1, h.2]
  rw [if_pos ⟨List.all_eq_true.2 (fun x hx => hb x (hs x hx)), hb _ hr⟩]
theorem blockV_len (l : List S25) (r : S25) : (blockV l r).1.length ≤ l.length := by
  unfold blockV
  have := blockTo_len l r l.length
  split
  · split
    · exact this
    · simp
  · simp
theorem locksClash_f (l : List S25) (a b : S25) (hl : l.length * 120 ≤ 140737488351232) (hs : ∀ r, r ∈ l → okRec r) (ha : okRec a) (hb : okRec b) :
    Ev (fun k => corncriblaw18_LocksClash.f k l a.f0 a.f1 a.f2 a.f3 a.f4 a.f5 a.f6 a.f7 a.f8 b.f0 b.f1 b.f2 b.f3 b.f4 b.f5 b.f6 b.f7 b.f8) true := by
  have hs' : ∀ r, r ∈ l → sizesOk r := fun r hr => (sizes_rec (hs r hr)).1
  have sa := (sizes_rec ha).1
  have sb := (sizes_rec hb).1
  obtain ⟨K1, h1⟩ := copied_f l (by omega) (fun r hr => ⟨(hs' r hr).1, (sizes_rec (hs r hr)).2⟩)
  obtain ⟨K2, h2⟩ := refClash_f a b sa sb
  obtain ⟨K3, h3⟩ := refBlock_f l a (by omega) hs' sa
  obtain ⟨K4, h4⟩ := sameInts_f (blockV l a).1 (blockV l a).1 (by have := blockV_len l a; omega)
  obtain ⟨K5, h5⟩ := kept_f l (by omega) hs'
  refine ⟨K1 + K2 + K3 + K4 + K5 + 3, fun k hk => ?_⟩
  have e1 := h1 k (by omega)
  have e2 := h2 k (by omega)
  have e3 := h3 k (by omega)
  have e4 := h4 k (by omega)
  have e5 := h5 k (by omega)
  simp only at e1 e2 e3 e4 e5
  have e6 := Clash_f k (by omega) a b sa sb
  have e7 := blockers_f l a hs' sa
  show corncriblaw18_LocksClash.f k l a.f0 a.f1 a.f2 a.f3 a.f4 a.f5 a.f6 a.f7 a.f8 b.f0 b.f1 b.f2 b.f3 b.f4 b.f5 b.f6 b.f7 b.f8 = _
  unfold corncriblaw18_LocksClash.f
  rw [e1, Option.bind_some, e6, Option.bind_some, e2, Option.bind_some, e7, Option.bind_some, e3, Option.bind_some, if_pos (by simp), if_pos rfl, e4, Option.bind_some, if_pos (by simp), if_pos rfl, e5, Option.bind_some, if_pos rfl]
  rfl
theorem locksClash_walk (w : World) {l : List S25} {a b : S25} {A0 : Option Addr} {c0 : Nat} {A1_7 : Option Addr} {c1_7 : Nat} {A1_8 : Option Addr} {c1_8 : Nat} {A2_7 : Option Addr} {c2_7 : Nat} {A2_8 : Option Addr} {c2_8 : Nat}
    (hr0 : Kd.C k25 w A0 l.length l) (hc0 : l.length ≤ c0) (g0 : l.length * 120 ≤ 140737488351232 ∧ ∀ r, r ∈ l → okRec r)
    (hr1_7 : Kd.C Kd.string w A1_7 a.f7.length a.f7) (hc1_7 : a.f7.length ≤ c1_7) (hr1_8 : Kd.C k62 w A1_8 a.f8.length a.f8) (hc1_8 : a.f8.length ≤ c1_8) (ga : okRec a)
    (hr2_7 : Kd.C Kd.string w A2_7 b.f7.length b.f7) (hc2_7 : b.f7.length ≤ c2_7) (hr2_8 : Kd.C k62 w A2_8 b.f8.length b.f8) (hc2_8 : b.f8.length ≤ c2_8) (gb : okRec b) :
    Calls Try.prog 4 #[.slice A0 l.length c0, .agg #[.int .i64 a.f0, .int .i64 a.f1, .int .i64 a.f2, .int .i64 a.f3, .string a.f4, .string a.f5, .bool a.f6, .slice A1_7 a.f7.length c1_7, .slice A1_8 a.f8.length c1_8],
      .agg #[.int .i64 b.f0, .int .i64 b.f1, .int .i64 b.f2, .int .i64 b.f3, .string b.f4, .string b.f5, .bool b.f6, .slice A2_7 b.f7.length c2_7, .slice A2_8 b.f8.length c2_8]] w fun e w' => e = .returned (.bool true) ∧ Below w.heap.size w w' := by
  obtain ⟨K, hK⟩ := locksClash_f l a b g0.1 g0.2 ga gb
  exact corncriblaw18_LocksClash.calls K _ _ _ _ _ _ _ _ _ _ _ _ _ _ _ _ _ _ _ _ _ _ _ _ _ _ _ _ _ _ w hr0 hc0 hr1_7 hc1_7 hr1_8 hc1_8 hr2_7 hc2_7 hr2_8 hc2_8 (hK K (Nat.le_refl _))
end Go.Proofs.Ytpfhdgacjeklaaa.PLocks
