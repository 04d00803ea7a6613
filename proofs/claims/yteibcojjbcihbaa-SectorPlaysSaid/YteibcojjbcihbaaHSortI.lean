/- slices.Sorted(maps.Keys(cache)): the shelf's contracts at keys that are ints, for the two calls of Crash. -/
import Derived.Test.YteibcojjbcihbaaHLaid
import Derived.Test.YteibcojjbcihbaaHMapI
import Derived.Test.YteibcojjbcihbaaW
namespace Go.Proofs
open Go.RowKit Go.Maps Go.Sort Go.Shelf
theorem Try.sorts51 (m : Nat) : AnyZI.SortsIn Try.prog Try.sorted51_ren Fence.wide m :=
  ⟨fun blk off cap ss W hH hblk hsz => callsIn_wide.2 (AnyM.slices_Sort_int Try.sort74 blk off cap ss W hH hblk hsz),
   fun p cap W => callsIn_wide.2 (AnyM.slices_Sort_int_none Try.sort74 p cap W)⟩
theorem Try.maps_Keys_52 (mb : Option Nat) (W : World) : CallsIn Fence.wide 5 Try.prog 52 #[.map mb] W fun e w' => e = .returned (.func (.func 75) #[] #[.pointer (some ⟨W.heap.size, 0, none⟩)]) ∧ w' = W.alloc (.cells #[.map mb] 98) :=
  AnyZI.keys_in Try.keys52 Fence.wide 5 trivial rfl mb W
set_option maxHeartbeats 1000000 in
theorem Try.slices_Sorted_keys_51_52 {H : Type} (b nn : Nat) (D0 : DataW H) (R : Value → Option (DataW H × List MemPlace)) (w : World) (hown : w.ownsMap Try.prog 3 R b nn D0) (hmax : Maps.size D0 ≤ maxLen) (hbytes : Maps.size D0 * 8 ≤ 140737488355328) :
    CallsIn Fence.wide 5 Try.prog 51 #[.func (.func 75) #[] #[.pointer (some ⟨w.heap.size, 0, none⟩)]] (w.alloc (.cells #[.map (some b)] 98)) fun e w' => ∃ (v : Value) (ss : List Int), e = .returned v ∧ ss.Perm (intKeys D0) ∧
      w'.ownsRow (w.alloc (.cells #[.map (some b)] 98)).heap.size 3 1 v ss.length ((ss.mergeSort (fun x y => decide (x ≤ y))).map encZ) ∧ (v = .slice none 0 0 ↔ ss = []) ∧ Below (w.alloc (.cells #[.map (some b)] 98)).heap.size (w.alloc (.cells #[.map (some b)] 98)) w' := by
  have hbl := hown.lt
  have hseq : SeqGives Fence.wide 2 Try.prog 75 #[.pointer (some ⟨w.heap.size, 0, none⟩)] encZ (fun ss => ss.Perm (intKeys D0)) (Maps.size D0) (w.alloc (.cells #[.map (some b)] 98)) :=
    AnyZI.keys_gives (ρ := Try.keys52_ren) { Try.keys52 with } Fence.wide _ trivial rfl (by omega) w.heap.size b nn D0 _ (by simp) (by simp) (by
      obtain ⟨es, clock, hb, Ft, hs, hD⟩ := hown
      exact ⟨es, clock, (Below.heap_alloc _ _ b hbl).trans hb, Ft, hs, hD⟩)
  exact AnyZI.sorted_in Try.sorted51 Fence.wide 5 trivial trivial trivial trivial rfl (by omega) (Try.sorts51 _) (enters_of Try.func74 (by kernel_rfl) rfl) 75 #[.pointer (some ⟨w.heap.size, 0, none⟩)] trivial (enters_of Try.func75 (by kernel_rfl) rfl) _ _ hmax hbytes _ hseq
end Go.Proofs
namespace Go.Proofs.Yteibcojjbcihbaa.Sec
open Go.RowKit Go.Proofs.YteibcojjbcihbaaW.PrintWords Go.Maps Go.Sort Go.Shelf Go.Proofs.Yteibcojjbcihbaa.Mk
set_option linter.unusedVariables false
theorem R_ints {w : World} {base : Nat} {v : Value} {rs : List Int} (h : w.ownsRow base 3 1 v rs.length (rs.map encZ)) : Kd.R (Kd.int .i64) 3 w base (fun _ => True) v rs := by
  refine ⟨fun _ _ => trivial, rs.map encZ, h, ?_, fun j p hj => ?_⟩
  · show (rs.map encZ).length = rs.length * 1
    simp
  · obtain ⟨hl, hp⟩ := List.getElem?_eq_some_iff.1 hj
    show ((rs.map encZ).drop (j * 1)).take 1 = [Value.int .i64 p]
    have hl' : j < (rs.map encZ).length := by simpa using hl
    rw [Nat.mul_one, List.drop_eq_getElem_cons hl']
    simp [hp, encZ]
/-- The keys of a cache, rising. -/
structure KeysOf (ks : List Int) (f : Cache) : Prop where
  up : ks.Pairwise (fun a b => a < b)
  mem : ∀ i, i ∈ ks ↔ (f i).isSome = true
theorem keysC_calls (w : World) (b N sz : Nat) (f : Cache) (h : MapI w b N sz f) (hN : sz ≤ 1000000) :
    (∀ W, Calls Try.prog 52 #[.map (some b)] W fun e w' => e = .returned (.func (.func 75) #[] #[.pointer (some ⟨W.heap.size, 0, none⟩)]) ∧ w' = W.alloc (.cells #[.map (some b)] 98)) ∧
    Calls Try.prog 51 #[.func (.func 75) #[] #[.pointer (some ⟨w.heap.size, 0, none⟩)]] (w.alloc (.cells #[.map (some b)] 98)) fun e w' => ∃ (v : Value) (ks : List Int), e = .returned v ∧ KeysOf ks f ∧ ks.length = sz ∧ Kd.R (Kd.int .i64) 3 w' w.heap.size (fun _ => True) v ks ∧ Below w.heap.size w w' := by
  obtain ⟨D, hown, hsz, hhas, hat⟩ := h
  refine ⟨fun W => (callsIn_wide (n := 5)).1 (Try.maps_Keys_52 (some b) W), ?_⟩
  have hmax : Maps.size D ≤ maxLen := by rw [hsz]; exact Nat.le_trans hN (by unfold maxLen; decide)
  refine ((callsIn_wide (n := 5)).1 (Try.slices_Sorted_keys_51_52 b N D Sv w hown hmax (by omega))).mono ?_
  rintro e w' ⟨v, ss, rfl, hS, hrow, _, hb⟩
  obtain ⟨es, hD, hpw, _⟩ := hown.entries keyed3
  obtain ⟨es', hD', hko⟩ := hown.keysOf
  obtain rfl : es = es' := by rw [hD] at hD'; simpa using hD'
  subst hD
  have hk : ∀ p ∈ es, ∃ x, p.1 = .int .i64 x := fun p hp => by obtain ⟨v, hv⟩ := hko p hp; obtain ⟨x, _, hx, _⟩ := Maps.keyOf_i64 Try.underlying3 hv; exact ⟨x, hx⟩
  have hmem : ∀ x, x ∈ intKeys (.map es) ↔ Maps.has (.map es) (.int .i64 x) = true := by
    intro x
    rw [has_eq, List.any_eq_true]
    show x ∈ es.map (fun p => Go.intOf p.1) ↔ _
    rw [List.mem_map]
    constructor
    · rintro ⟨p, hp', rfl⟩
      obtain ⟨a, ha⟩ := hk p hp'
      exact ⟨p, hp', by rw [ha]; simp [Lit.sameKey, Go.intOf]⟩
    · rintro ⟨p, hp', hs⟩
      obtain ⟨a, ha⟩ := hk p hp'
      rw [ha] at hs
      exact ⟨p, hp', by rw [ha]; simpa [Lit.sameKey, Go.intOf] using hs⟩
  have hnd : (intKeys (.map es)).Nodup := by
    show (es.map fun p => Go.intOf p.1).Nodup
    refine List.pairwise_map.2 (hpw.imp_of_mem fun {p q} hp' hq' hne e => hne ?_)
    obtain ⟨a, ha⟩ := hk p hp'
    obtain ⟨b, hb⟩ := hk q hq'
    rw [ha, hb] at e ⊢
    exact congrArg _ e
  have tr : ∀ a b c : Int, leI a b = true → leI b c = true → leI a c = true := fun a b c h1 h2 => by simp only [leI, decide_eq_true_eq] at *; exact Int.le_trans h1 h2
  have tl : ∀ a b : Int, (leI a b || leI b a) = true := fun a b => by simp only [leI, Bool.or_eq_true, decide_eq_true_eq]; exact Int.le_total a b
  have hpm : (ss.mergeSort leI).Perm (intKeys (.map es)) := (List.mergeSort_perm ss leI).trans hS
  have hlen : ss.length = (ss.mergeSort leI).length := (List.mergeSort_perm ss leI).length_eq.symm
  have hsize : (intKeys (.map es)).length = Maps.size (.map es) := by simp [intKeys, Maps.size]
  have hup : (ss.mergeSort leI).Pairwise (fun a b => a < b) := by
    have h1 := List.pairwise_mergeSort tr tl ss
    have h2 : (ss.mergeSort leI).Nodup := (hpm.nodup_iff).2 hnd
    exact (h1.and h2).imp (fun {a b} hab => by
      have := hab.1
      simp only [leI, decide_eq_true_eq] at this
      have hne := hab.2
      omega)
  refine ⟨v, ss.mergeSort leI, rfl, ⟨hup, fun i => by rw [hpm.mem_iff, hmem, hhas]⟩, by rw [hpm.length_eq, hsize, hsz], ?_, ((Below.refl _ w).alloc (Nat.le_refl _) _).trans (hb.mono (by simp))⟩
  rw [hlen] at hrow
  exact R_ints (ownsRow_base_a hrow (by simp))
end Go.Proofs.Yteibcojjbcihbaa.Sec
