/- What is in a set of strings, in order: sorted lists of keys; the shelf's contracts on sorted keys of a map, laid at this program (by the kit's programs lay-iter.mjs and lay-plain.mjs); set.rising. -/
import Derived.Sort.KeysCollected
import Derived.Sort.Walk0
import Derived.Shelf.SlIter.Nil
import Derived.Shelf.SortM.Plain
import Derived.Shelf.SortM.SortNone
import Derived.Ground.GgzProg
import Derived.Ground.SlgmProg
import Derived.Test.YtaldfbmjmpkmmaaHRiL
import Derived.Test.YtaldfbmjmpkmmaaHClash
namespace Go.Proofs.Ytaldfbmjmpkmmaa.Mk
open Go
set_option linter.unusedVariables false
/-- A key, put among keys that rise. -/
def putL : List (List UInt8) → List UInt8 → List (List UInt8)
 | [], k => [k]
 | x :: r, k => if x < k then x :: putL r k else if x = k then x :: r else k :: x :: r
def uniq (ks : List (List UInt8)) : List (List UInt8) := ks.foldl putL []
def Up (l : List (List UInt8)) : Prop := l.Pairwise (fun a b => a < b)
theorem lt_or (a b : List UInt8) (h1 : ¬ a < b) (h2 : ¬ a = b) : b < a := by
 rcases List.le_total a b with h | h
 ·exact absurd (Std.lt_of_le_of_ne h h2) h1
 ·exact Std.lt_of_le_of_ne h (fun e => h2 e.symm)
theorem mem_put (l : List (List UInt8)) (k x : List UInt8) : x ∈ putL l k ↔ x ∈ l ∨ x = k := by
 induction l with
 | nil => simp [putL]
 | cons y r ih =>
  unfold putL
  split
  ·rw [List.mem_cons, ih, List.mem_cons]; constructor
   ·rintro (h | h | h)
    ·exact .inl (.inl h)
    ·exact .inl (.inr h)
    ·exact .inr h
   ·rintro ((h | h) | h)
    ·exact .inl h
    ·exact .inr (.inl h)
    ·exact .inr (.inr h)
  ·split
   ·rename_i e
    subst e
    constructor
    ·exact fun h => .inl h
    ·rintro (h | h)
     ·exact h
     ·rw [h]; exact List.mem_cons_self
   ·rw [List.mem_cons]
    exact Or.comm
theorem up_put (l : List (List UInt8)) (k : List UInt8) (h : Up l) : Up (putL l k) := by
 induction l with
 | nil => exact List.pairwise_singleton _ _
 | cons y r ih =>
  obtain ⟨h1, h2⟩ := List.pairwise_cons.1 h
  unfold putL
  split
  ·rename_i hy
   refine List.pairwise_cons.2 ⟨fun z hz => ?_, ih h2⟩
   rcases (mem_put r k z).1 hz with hz | hz
   ·exact h1 z hz
   ·rw [hz]; exact hy
  ·split
   ·exact h
   ·rename_i h3 h4
    have hk := lt_or y k h3 h4
    refine List.pairwise_cons.2 ⟨fun z hz => ?_, h⟩
    rcases List.mem_cons.1 hz with hz | hz
    ·rw [hz]; exact hk
    ·exact List.lt_trans hk (h1 z hz)
theorem up_fold (ks : List (List UInt8)) : ∀ l, Up l → Up (ks.foldl putL l) := by
 induction ks with
 | nil => exact fun l h => h
 | cons k r ih => exact fun l h => ih _ (up_put l k h)
theorem mem_fold (ks : List (List UInt8)) (x : List UInt8) : ∀ l, x ∈ ks.foldl putL l ↔ x ∈ l ∨ x ∈ ks := by
 induction ks with
 | nil => simp
 | cons k r ih =>
  intro l
  rw [List.foldl_cons, ih, mem_put, List.mem_cons]
  exact or_assoc
theorem up_uniq (ks : List (List UInt8)) : Up (uniq ks) := up_fold ks [] List.Pairwise.nil
theorem mem_uniq (ks : List (List UInt8)) (x : List UInt8) : x ∈ uniq ks ↔ x ∈ ks := by
 unfold uniq
 rw [mem_fold]
 simp
theorem up_nodup {l : List (List UInt8)} (h : Up l) : l.Nodup := List.Pairwise.imp (fun {a b} hab e => absurd (e ▸ hab) (List.lt_irrefl _)) h
/-- Keys that rise are told by which they are. -/
theorem up_ext {a b : List (List UInt8)} (ha : Up a) (hb : Up b) (h : ∀ x, x ∈ a ↔ x ∈ b) : a = b := by
 have hp : a.Perm b := (List.perm_ext_iff_of_nodup (up_nodup ha) (up_nodup hb)).2 h
 exact List.Perm.eq_of_pairwise (le := fun a b => a < b) (fun x y _ _ h1 h2 => absurd (List.lt_trans h1 h2) (List.lt_irrefl _)) ha hb hp
theorem up_sorted {l : List (List UInt8)} (h : Up l) : l.mergeSort leB = l := by
 have : l.Pairwise (fun a b => leB a b = true) := List.Pairwise.imp (fun {a b} hab => by simp only [leB, decide_eq_true_eq]; exact List.le_of_lt hab) h
 exact List.mergeSort_of_pairwise this
theorem sorted_of {ss ks : List (List UInt8)} (h : ss.Perm (uniq ks)) : ss.mergeSort leB = uniq ks := by
 rw [mergeSort_of_perm h]
 exact up_sorted (up_uniq ks)
end Go.Proofs.Ytaldfbmjmpkmmaa.Mk
namespace Go.Proofs
open Go.Shelf
open Go.RowKit Go.Maps Go.Sort
/-- slices.Sort's two contracts at this dump, at the fence that asks nothing. -/
theorem Try.sortsZ (m : Nat) : AnyZ.SortsIn Try.prog Try.sortedZ_ren Fence.wide m :=
 ⟨fun blk off cap ss W hH hblk hsz => callsIn_wide.2 (AnyM.slices_Sort_string Try.sortZ blk off cap ss W hH hblk hsz),
  fun p cap W => callsIn_wide.2 (AnyM.slices_Sort_string_none Try.sortZ p cap W)⟩

/-- **maps.Keys[corncrib/locks.set[string],string,struct{}], at whatever map, the nil one too:** a function value over ONE NEW BLOCK, which holds the map. -/
theorem Try.maps_Keys_Z (mb : Option Nat) (W : World) : CallsIn Fence.wide 5 Try.prog 104 #[.map mb] W fun e w' => e = .returned (.func (.func 134) #[] #[.pointer (some ⟨W.heap.size, 0, none⟩)]) ∧ w' = W.alloc (.cells #[.map mb] 112) :=
 AnyZ.keys_in Try.keysZ Fence.wide 5 trivial rfl mb W

set_option maxHeartbeats 1000000 in
/-- **slices.Sorted[string] AT WHAT maps.Keys[corncrib/locks.set[string],string,struct{}] HANDED BACK FOR A MAP THAT IS NOT nil** ('w': the world AHEAD of maps.Keys' call): A NEW SLICE THAT HOLDS THE MAP's KEYS, SORTED; nil just where it has none; nothing that lay before has turned. -/
theorem Try.slices_Sorted_keysZ {H : Type} (b nn : Nat) (D0 : DataW H) (R : Value → Option (DataW H × List MemPlace)) (w : World) (hown : w.ownsMap Try.prog 9 R b nn D0) (hmax : Maps.size D0 ≤ maxLen) (hbytes : Maps.size D0 * 16 ≤ 140737488355328) :
 CallsIn Fence.wide 5 Try.prog 103 #[.func (.func 134) #[] #[.pointer (some ⟨w.heap.size, 0, none⟩)]] (w.alloc (.cells #[.map (some b)] 112)) fun e w' => ∃ (v : Value) (ss : List (List UInt8)), e = .returned v ∧ ss.Perm (strKeys D0) ∧
  w'.ownsRow (w.alloc (.cells #[.map (some b)] 112)).heap.size 9 1 v ss.length ((ss.mergeSort (fun x y => decide (x ≤ y))).map encStr) ∧ (v = .slice none 0 0 ↔ ss = []) ∧ Below (w.alloc (.cells #[.map (some b)] 112)).heap.size (w.alloc (.cells #[.map (some b)] 112)) w' := by
 have hbl := hown.lt
 have hseq : SeqGives Fence.wide 2 Try.prog 134 #[.pointer (some ⟨w.heap.size, 0, none⟩)] encStr (fun ss => ss.Perm (strKeys D0)) (Maps.size D0) (w.alloc (.cells #[.map (some b)] 112)) :=
  AnyZ.keys_gives (ρ := Try.keysZ_ren) { Try.keysZ with } Fence.wide _ trivial rfl (by omega) w.heap.size b nn D0 _ (by simp) (by simp) (by
   obtain ⟨es, clock, hb, Ft, hs, hD⟩ := hown
   exact ⟨es, clock, (Below.heap_alloc _ _ b hbl).trans hb, Ft, hs, hD⟩)
 exact AnyZ.sorted_in Try.sortedZ Fence.wide 5 trivial trivial trivial trivial rfl (by omega) (Try.sortsZ _) (enters_of Try.func133 (by kernel_rfl) rfl) 134 #[.pointer (some ⟨w.heap.size, 0, none⟩)] trivial (enters_of Try.func134 (by kernel_rfl) rfl) _ _ hmax hbytes _ hseq

end Go.Proofs
namespace Go.Proofs.Ytaldfbmjmpkmmaa.PL
open Go.RowKit Go.Proofs.YtaldfbmjmpkmmaaW.PrintWords Go.Maps Go.Sort Go.Shelf Mk
set_option linter.unusedVariables false
theorem putL_len (l : List (List UInt8)) (k : List UInt8) : (putL l k).length ≤ l.length + 1 := by
 induction l with
 | nil => simp [putL]
 | cons x r ih =>
  unfold putL
  split
  ·simp; omega
  ·split
   ·simp
   ·simp
theorem fold_len (ks : List (List UInt8)) : ∀ l, (ks.foldl putL l).length ≤ l.length + ks.length := by
 induction ks with
 | nil => intro l; simp
 | cons k r ih =>
  intro l
  have h1 := ih (putL l k)
  have h2 := putL_len l k
  rw [List.foldl_cons, List.length_cons]
  omega
theorem uniq_len (ks : List (List UInt8)) : (uniq ks).length ≤ ks.length := by
 have := fold_len ks []
 simpa [uniq] using this
theorem keys_perm {w : World} {b n : Nat} {D : DataW Value} {ks : List (List UInt8)} (hown : w.ownsMap Try.prog 9 unitElem b n D) (hs : ∀ s, Maps.has D (.string s) = ks.contains s) : (uniq ks).Perm (strKeys D) := by
 obtain ⟨es, hD, hpw, _⟩ := hown.entries keyed9
 obtain ⟨es', hD', hko⟩ := hown.keysOf
 obtain rfl : es = es' := by rw [hD] at hD'; simpa using hD'
 subst hD
 exact perm_strKeys hpw (fun p hp => by obtain ⟨v, hv⟩ := hko p hp; obtain ⟨x, _, hx, _⟩ := Maps.keyOf_str Try.underlying9 hv; exact ⟨x, hx⟩) (up_nodup (up_uniq ks)) (fun x => by rw [mem_uniq, hs x]; simp)
def bytesOfL (l : List (List UInt8)) : List ByteArray := l.map (fun x => ⟨x.toArray⟩)
theorem strs_bytes (l : List (List UInt8)) : strs (bytesOfL l) = l := by
 unfold strs bytesOfL
 rw [List.map_map]
 exact (List.map_congr_left (fun x _ => by simp)).trans (List.map_id l)

theorem R_strs {w : World} {base : Nat} {v : Value} {rs : List ByteArray} (h : w.ownsRow base 9 1 v rs.length (rs.map Value.string)) : Kd.R Kd.string 9 w base (fun _ => True) v rs := by
 refine ⟨fun _ _ => trivial, rs.map Value.string, h, ?_, fun j p hj => ?_⟩
 ·show (rs.map Value.string).length = rs.length * 1
  simp
 ·obtain ⟨hl, hp⟩ := List.getElem?_eq_some_iff.1 hj
  show ((rs.map Value.string).drop (j * 1)).take 1 = [Value.string p]
  have hl' : j < (rs.map Value.string).length := by simpa using hl
  rw [Nat.mul_one, List.drop_eq_getElem_cons hl']
  simp [hp]
set_option maxRecDepth 100000 in
set_option maxHeartbeats 2000000 in
theorem rise_walk (w : World) (b : Nat) (ks : List (List UInt8)) (hset : SetIs Try.prog 9 w b ks) (hb : ks.length ≤ 1000000) :
 Calls Try.prog 64 #[.map (some b)] w fun e w' => ∃ v : Value, e = .returned v ∧ Kd.R Kd.string 9 w' w.heap.size (fun _ => True) v (bytesOfL (uniq ks)) ∧ Below w.heap.size w w' := by
 obtain ⟨n, D, hown, hn, hs⟩ := hset
 have hperm := keys_perm hown hs
 have hsize := hown.size_le
 have hmax : Maps.size D ≤ maxLen := Nat.le_trans (Nat.le_trans hsize (Nat.le_trans hn hb)) (by unfold maxLen; decide)
 have hbytes : Maps.size D * 16 ≤ 140737488355328 := by omega
 refine (callsIn_wide (n := 6)).1 ?_
 have cK : ∀ mb W, CallsIn Fence.wide 5 Try.prog 104 #[.map mb] W fun e w' => e = .returned (.func (.func 134) #[] #[.pointer (some ⟨W.heap.size, 0, none⟩)]) ∧ w' = W.alloc (.cells #[.map mb] 112) := fun mb W => Try.maps_Keys_Z mb W
 have cS := Try.slices_Sorted_keysZ b n D unitElem w hown hmax hbytes
 have hfK : Fence.wide.fn 104 := trivial
 have hfS : Fence.wide.fn 103 := trivial
 refine callsIn_of_wp Try.func64 rfl trivial ?_ rfl
 simp only [Try.ntmps64, List.size_toArray, List.length_cons, List.length_nil, Nat.reduceAdd, Nat.reduceSub, Array.replicate_succ, Array.replicate_zero, List.push_toArray, List.append_toArray, List.nil_append, List.cons_append]
 gi_wp2_with (first
  | (gi_at_call 104; refine (cK _ _).mono ?_; rintro e w' ⟨rfl, rfl⟩)
  | (gi_at_call 103; refine cS.mono ?_; rintro e w' ⟨v, ss, rfl, hS, hrow, hnil, hb2⟩))
 go_ret
 have hss : ss.mergeSort (fun x y => decide (x ≤ y)) = uniq ks := sorted_of (hS.trans hperm.symm)
 have hlen : ss.length = (bytesOfL (uniq ks)).length := by rw [← hss]; simp [bytesOfL]
 rw [hss] at hrow
 have henc : (uniq ks).map encStr = (bytesOfL (uniq ks)).map Value.string := by
  unfold bytesOfL
  rw [List.map_map]
  rfl
 rw [henc, hlen] at hrow
 refine ⟨v, rfl, ?_, ((Below.refl _ w).alloc (Nat.le_refl _) _).trans (hb2.mono (by simp))⟩
 exact R_strs (ownsRow_base_a hrow (by simp))
end Go.Proofs.Ytaldfbmjmpkmmaa.PL
