/- Both devices, side by side: what each leaves of the other. -/
import Derived.Test.YteibcojjbcihbaaHRefD4
namespace Go.Proofs.Yteibcojjbcihbaa.Sec
open Go.RowKit Go.Proofs.YteibcojjbcihbaaW.PrintWords Go.Proofs.YteibcojjbcihbaaW.PrintLast Go.Proofs.YteibcojjbcihbaaW.PrintMore Go.Maps Go.Proofs.Yteibcojjbcihbaa.Mk
open Go.Proofs.Yteibcojjbcihbaa.Txn (unguard blk_newI)
open Go.Lib (byteCells byteCells_length byteCells_append byteCells_one)
set_option linter.unusedVariables false
set_option linter.unusedSimpArgs false

theorem MapI.same {w w' : World} {b N sz : Nat} {f : Cache} (h : MapI w b N sz f) (e : w'.heap[b]? = w.heap[b]?) : MapI w' b N sz f := by
  obtain ⟨D, ⟨es, clock, hb, F, hs, hD⟩, h1⟩ := h
  exact ⟨D, ⟨es, clock, e.trans hb, F, hs, hD⟩, h1⟩
/-- The keys of a map, each once. -/
theorem MapI.keys {w : World} {b N sz : Nat} {f : Cache} (h : MapI w b N sz f) : ∃ ks : List Int, ks.Nodup ∧ (∀ i, i ∈ ks ↔ (f i).isSome = true) ∧ ks.length = sz := by
  obtain ⟨D, hown, hsz, hhas, hat⟩ := h
  obtain ⟨es, hD, hpw, _⟩ := hown.entries keyed3
  obtain ⟨es', hD', hko⟩ := hown.keysOf
  obtain rfl : es = es' := by rw [hD] at hD'; simpa using hD'
  subst hD
  have hk : ∀ p ∈ es, ∃ x, p.1 = .int .i64 x := fun p hp => by obtain ⟨v, hv⟩ := hko p hp; obtain ⟨x, _, hx, _⟩ := Maps.keyOf_i64 Try.underlying3 hv; exact ⟨x, hx⟩
  refine ⟨es.map (fun p => Go.intOf p.1), ?_, fun x => ?_, ?_⟩
  · refine List.pairwise_map.2 (hpw.imp_of_mem fun {p q} hp' hq' hne e => hne ?_)
    obtain ⟨a, ha⟩ := hk p hp'
    obtain ⟨b, hb⟩ := hk q hq'
    rw [ha, hb] at e ⊢
    exact congrArg _ e
  · rw [← hhas x, has_eq, List.any_eq_true, List.mem_map]
    constructor
    · rintro ⟨p, hp', rfl⟩
      obtain ⟨a, ha⟩ := hk p hp'
      exact ⟨p, hp', by rw [ha]; simp [Lit.sameKey, Go.intOf]⟩
    · rintro ⟨p, hp', hs⟩
      obtain ⟨a, ha⟩ := hk p hp'
      rw [ha] at hs
      exact ⟨p, hp', by rw [ha]; simpa [Lit.sameKey, Go.intOf] using hs⟩
  · rw [List.length_map, ← hsz]
    simp [Maps.size]
theorem hasL_mem (f : Cache) (n : Nat) (i : Nat) : i ∈ hasL f n ↔ i < n ∧ (f (i : Int)).isSome = true := by
  unfold hasL
  rw [List.mem_filter, List.mem_range]
theorem DevAt.dirty {w : World} {b g m N sz : Nat} {S : List (List UInt8)} {f : Cache} {fuse : Int} {down : Bool} (h : DevAt w b g m N sz S f fuse down) : (hasL f S.length).length = sz := by
  obtain ⟨ks, hnd, hmem, hl⟩ := h.cache.keys
  rw [← hl]
  have hn2 : ((hasL f S.length).map (fun i : Nat => (i : Int))).Nodup := by
    unfold hasL
    exact List.pairwise_map.2 (((List.nodup_range (n := S.length)).filter _).imp (fun hne e => hne (Int.ofNat.inj e)))
  have hp : ((hasL f S.length).map (fun i : Nat => (i : Int))).Perm ks := by
    rw [List.perm_ext_iff_of_nodup hn2 hnd]
    intro x
    rw [List.mem_map, hmem]
    constructor
    · rintro ⟨i, hi, rfl⟩
      exact ((hasL_mem f _ i).1 hi).2
    · intro hx
      obtain ⟨s, hs⟩ := Option.isSome_iff_exists.1 hx
      have := h.ok.cached x s hs
      refine ⟨x.toNat, (hasL_mem f _ _).2 ⟨by omega, ?_⟩, by omega⟩
      rw [show ((x.toNat : Nat) : Int) = x by omega]
      exact hx
  have := hp.length_eq
  rwa [List.length_map] at this
structure DuoAt (w : World) (b g m N sz r g1 g2 c1 c2 : Nat) (sl1 sl2 : List Value) (S : List (List UInt8)) (f : Cache) (fuse : Int) (down : Bool) : Prop where
  dev : DevAt w b g m N sz S f fuse down
  ref : RefAt w r g1 g2 c1 c2 sl1 sl2 S f fuse down
section
variable {w w' : World} {b g m N sz r g1 g2 c1 c2 : Nat} {sl1 sl2 : List Value} {S : List (List UInt8)} {f : Cache} {fuse : Int} {down : Bool} {S' : List (List UInt8)} {f' : Cache} {fuse' : Int} {down' : Bool}
theorem types_ne {a c : Nat} {cs cs' : Array Value} {t t' : TypeId} (h1 : w.heap[a]? = some (.cells cs t (0, 0))) (h2 : w.heap[c]? = some (.cells cs' t' (0, 0))) (ht : t ≠ t') : a ≠ c := fun e => by
  rw [e, h2] at h1
  injection h1 with h1
  injection h1 with _ h1 _
  exact ht h1.symm
/-- The two devices' blocks are others. -/
theorem duo_apart (h : DevAt w b g m N sz S f fuse down) (h2 : RefAt w r g1 g2 c1 c2 sl1 sl2 S' f' fuse' down') : (b ≠ r ∧ b ≠ g1 ∧ b ≠ g2) ∧ (g ≠ r ∧ g ≠ g1 ∧ g ≠ g2) ∧ (m ≠ r ∧ m ≠ g1 ∧ m ≠ g2) :=
  ⟨⟨types_ne h.box h2.box (by decide), types_ne h.box h2.on (by decide), types_ne h.box h2.new (by decide)⟩, ⟨types_ne h.row h2.box (by decide), types_ne h.row h2.on (by decide), types_ne h.row h2.new (by decide)⟩,
    (fun e => h.cache.not_cells (by rw [e]; exact h2.box)), (fun e => h.cache.not_cells (by rw [e]; exact h2.on)), (fun e => h.cache.not_cells (by rw [e]; exact h2.new))⟩
theorem DevAt.stays (h : DevAt w b g m N sz S f fuse down) (h2 : RefAt w r g1 g2 c1 c2 sl1 sl2 S' f' fuse' down') (hc : Chg w w' r g1 g2) : DevAt w' b g m N sz S f fuse down := by
  obtain ⟨⟨a1, a2, a3⟩, ⟨a4, a5, a6⟩, a7, a8, a9⟩ := duo_apart h h2
  have hl := h.lt
  exact ⟨(hc.block b hl.1 a1 a2 a3).trans h.box, (hc.block g hl.2.1 a4 a5 a6).trans h.row, h.cache.same (hc.block m hl.2.2 a7 a8 a9), h.ok, h.fuse⟩
theorem RefAt.stays (h : RefAt w r g1 g2 c1 c2 sl1 sl2 S f fuse down) (h2 : DevAt w b g m N sz S' f' fuse' down') (hc : Chg w w' b g m) : RefAt w' r g1 g2 c1 c2 sl1 sl2 S f fuse down := by
  obtain ⟨⟨a1, a2, a3⟩, ⟨a4, a5, a6⟩, a7, a8, a9⟩ := duo_apart h2 h
  have hl := h.lt
  exact ⟨(hc.block r hl.1 a1.symm a4.symm a7.symm).trans h.box, (hc.block g1 hl.2.1 a2.symm a5.symm a8.symm).trans h.on, (hc.block g2 hl.2.2 a3.symm a6.symm a9.symm).trans h.new, h.ne, h.ok, h.fuse⟩
end
set_option maxRecDepth 100000 in
theorem newD_bad (w : World) (n : Int) (h : n < 1 ∨ 2048 < n) : Calls Try.prog 24 #[.int .i64 n] w fun e w' => e = .returned (.tuple #[.pointer none, .int .i64 1]) ∧ w' = w := by
  by_cases h1 : n < 1
  · go_enter Try.func24, Try.ntmps24
    go_wp2
    go_ret2
    exact ⟨rfl, rfl⟩
  · have h2 : 2048 < n := by omega
    go_enter Try.func24, Try.ntmps24
    go_wp2
    go_ret2
    exact ⟨rfl, rfl⟩
set_option maxRecDepth 100000 in
theorem makeR_bad (w : World) (n : Int) (h : n < 1 ∨ 2048 < n) : Calls Try.prog 32 #[.int .i64 n] w fun e w' => e = .returned (.tuple #[.pointer none, .int .i64 1]) ∧ w' = w := by
  by_cases h1 : n < 1
  · go_enter Try.func32, Try.ntmps32
    go_wp2
    go_ret2
    exact ⟨rfl, rfl⟩
  · have h2 : 2048 < n := by omega
    go_enter Try.func32, Try.ntmps32
    go_wp2
    go_ret2
    exact ⟨rfl, rfl⟩
end Go.Proofs.Yteibcojjbcihbaa.Sec
