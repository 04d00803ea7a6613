/- txn.keys: a map's keys, rising; Reads and Writes. -/
import Derived.Test.YteibcojjbcihbaaHLaid
import Derived.Test.YteibcojjbcihbaaHTxn
namespace Go.Proofs.Yteibcojjbcihbaa.Mk
open Go
/-- A key, put among keys that rise. -/
def putL : List (List UInt8) → List UInt8 → List (List UInt8)
  | [], k => [k]
  | x :: r, k => if x < k then x :: putL r k else if x = k then x :: r else k :: x :: r
def uniq (ks : List (List UInt8)) : List (List UInt8) := ks.foldl putL []
def Up (l : List (List UInt8)) : Prop := l.Pairwise (fun a b => a < b)
theorem lt_or (a b : List UInt8) (h1 : ¬ a < b) (h2 : ¬ a = b) : b < a := by
  rcases List.le_total a b with h | h
  · exact absurd (Std.lt_of_le_of_ne h h2) h1
  · exact Std.lt_of_le_of_ne h (fun e => h2 e.symm)
theorem mem_put (l : List (List UInt8)) (k x : List UInt8) : x ∈ putL l k ↔ x ∈ l ∨ x = k := by
  induction l with
  | nil => simp [putL]
  | cons y r ih =>
    unfold putL
    split
    · rw [List.mem_cons, ih, List.mem_cons]; constructor
      · rintro (h | h | h)
        · exact .inl (.inl h)
        · exact .inl (.inr h)
        · exact .inr h
      · rintro ((h | h) | h)
        · exact .inl h
        · exact .inr (.inl h)
        · exact .inr (.inr h)
    · split
      · rename_i e
        subst e
        constructor
        · exact fun h => .inl h
        · rintro (h | h)
          · exact h
          · rw [h]; exact List.mem_cons_self
      · rw [List.mem_cons]
        exact Or.comm
theorem up_put (l : List (List UInt8)) (k : List UInt8) (h : Up l) : Up (putL l k) := by
  induction l with
  | nil => exact List.pairwise_singleton _ _
  | cons y r ih =>
    obtain ⟨h1, h2⟩ := List.pairwise_cons.1 h
    unfold putL
    split
    · rename_i hy
      refine List.pairwise_cons.2 ⟨fun z hz => ?_, ih h2⟩
      rcases (mem_put r k z).1 hz with hz | hz
      · exact h1 z hz
      · rw [hz]; exact hy
    · split
      · exact h
      · rename_i h3 h4
        have hk := lt_or y k h3 h4
        refine List.pairwise_cons.2 ⟨fun z hz => ?_, h⟩
        rcases List.mem_cons.1 hz with hz | hz
        · rw [hz]; exact hk
        · exact List.lt_trans hk (h1 z hz)
theorem up_fold (ks : List (List UInt8)) : ∀ l, Up l → Up (ks.foldl putL l) := by
  induction ks with
  | nil => exact fun l h => h
  | cons k r ih => exact fun l h => ih _ (up_put l k h)
theorem mem_fold (ks : List (List UInt8)) (x : List UInt8) : ∀ l, x ∈ ks.foldl putL l ↔ x ∈ l ∨ x ∈ ks := by
  induction ks with
  | nil => simp
  | cons k r ih =>
    intro l
    rw [List.foldl_cons, ih, mem_put, List.mem_cons]
    exact or_assoc
theorem up_uniq (ks : List (List UInt8)) : Up (uniq ks) := up_fold ks [] List.Pairwise.nil
theorem mem_uniq (ks : List (List UInt8)) (x : List UInt8) : x ∈ uniq ks ↔ x ∈ ks := by
  unfold uniq
  rw [mem_fold]
  simp
theorem up_nodup {l : List (List UInt8)} (h : Up l) : l.Nodup := List.Pairwise.imp (fun {a b} hab e => absurd (e ▸ hab) (List.lt_irrefl _)) h
/-- Keys that rise are told by which they are. -/
theorem up_ext {a b : List (List UInt8)} (ha : Up a) (hb : Up b) (h : ∀ x, x ∈ a ↔ x ∈ b) : a = b := by
  have hp : a.Perm b := (List.perm_ext_iff_of_nodup (up_nodup ha) (up_nodup hb)).2 h
  exact List.Perm.eq_of_pairwise (le := fun a b => a < b) (fun x y _ _ h1 h2 => absurd (List.lt_trans h1 h2) (List.lt_irrefl _)) ha hb hp
theorem up_sorted {l : List (List UInt8)} (h : Up l) : l.mergeSort leB = l := by
  have : l.Pairwise (fun a b => leB a b = true) := List.Pairwise.imp (fun {a b} hab => by simp only [leB, decide_eq_true_eq]; exact List.le_of_lt hab) h
  exact List.mergeSort_of_pairwise this
theorem tr_le : ∀ a b c : List UInt8, leB a b = true → leB b c = true → leB a c = true := fun a b c h1 h2 => by simp only [leB, decide_eq_true_eq] at *; exact List.le_trans h1 h2
theorem to_le : ∀ a b : List UInt8, (leB a b || leB b a) = true := fun a b => by simp only [leB, Bool.or_eq_true, decide_eq_true_eq]; exact List.le_total a b
end Go.Proofs.Yteibcojjbcihbaa.Mk
namespace Go.Proofs.Yteibcojjbcihbaa.Txn
open Go.RowKit Go.Proofs.YteibcojjbcihbaaW.PrintWords Go.Maps Go.Sort Go.Shelf Mk
set_option linter.unusedVariables false
def bytesOfL (l : List (List UInt8)) : List ByteArray := l.map (fun x => ⟨x.toArray⟩)
theorem R_strs {w : World} {base : Nat} {v : Value} {rs : List ByteArray} (h : w.ownsRow base 9 1 v rs.length (rs.map Value.string)) : Kd.R Kd.string 9 w base (fun _ => True) v rs := by
  refine ⟨fun _ _ => trivial, rs.map Value.string, h, ?_, fun j p hj => ?_⟩
  · show (rs.map Value.string).length = rs.length * 1
    simp
  · obtain ⟨hl, hp⟩ := List.getElem?_eq_some_iff.1 hj
    show ((rs.map Value.string).drop (j * 1)).take 1 = [Value.string p]
    have hl' : j < (rs.map Value.string).length := by simpa using hl
    rw [Nat.mul_one, List.drop_eq_getElem_cons hl']
    simp [hp]
theorem keyed9 : Keyed Try.prog 9 := string_keyed Try.underlying9
/-- The keys of a map that is owned, in a list that rises. -/
theorem keys_rise {w : World} {b n : Nat} {D : DataW Value} (hown : w.ownsMap Try.prog 9 Rv b n D) : ∃ ks, Up ks ∧ (∀ x, x ∈ ks ↔ Maps.has D (.string x) = true) ∧ ks.Perm (strKeys D) ∧ ks.length = Maps.size D := by
  obtain ⟨es, hD, hpw, _⟩ := hown.entries keyed9
  obtain ⟨es', hD', hko⟩ := hown.keysOf
  obtain rfl : es = es' := by rw [hD] at hD'; simpa using hD'
  subst hD
  have hk : ∀ p ∈ es, ∃ x, p.1 = .string x := fun p hp => by obtain ⟨v, hv⟩ := hko p hp; obtain ⟨x, _, hx, _⟩ := Maps.keyOf_str Try.underlying9 hv; exact ⟨x, hx⟩
  have hmem : ∀ x, x ∈ strKeys (.map es) ↔ Maps.has (.map es) (.string x) = true := by
    intro x
    rw [has_eq, List.any_eq_true]
    show x ∈ es.map (fun p => strOf p.1) ↔ _
    rw [List.mem_map]
    constructor
    · rintro ⟨p, hp', rfl⟩
      obtain ⟨a, ha⟩ := hk p hp'
      exact ⟨p, hp', by rw [ha]; simp [Lit.sameKey, strOf]⟩
    · rintro ⟨p, hp', hs⟩
      obtain ⟨a, ha⟩ := hk p hp'
      rw [ha] at hs
      exact ⟨p, hp', by rw [ha]; simpa [Lit.sameKey, strOf] using hs⟩
  have hp := perm_strKeys hpw hk (up_nodup (up_uniq (strKeys (.map es)))) (fun x => by rw [mem_uniq, hmem])
  exact ⟨uniq (strKeys (.map es)), up_uniq _, fun x => by rw [mem_uniq, hmem], hp, by rw [hp.length_eq]; simp [strKeys, Maps.size]⟩
set_option maxRecDepth 100000 in
set_option maxHeartbeats 2000000 in
/-- txn.keys. -/
theorem keys_walk (w : World) (b N sz : Nat) (f : Tab) (h : TabAt w b N sz f) (hN : N ≤ 1000000) :
    Calls Try.prog 41 #[.map (some b)] w fun e w' => ∃ (v : Value) (ks : List (List UInt8)), e = .returned v ∧ Up ks ∧ (∀ x, x ∈ ks ↔ (f x).isSome = true) ∧ ks.length = sz ∧ Kd.R Kd.string 9 w' w.heap.size (fun _ => True) v (bytesOfL ks) ∧ Below w.heap.size w w' := by
  obtain ⟨n, hn, D, hown, hsz, hhas, hat⟩ := h
  obtain ⟨ks, hup, hmem, hperm, hlen⟩ := keys_rise hown
  have hmem2 : ∀ x, x ∈ ks ↔ (f x).isSome = true := fun x => by rw [hmem, hhas]; unfold tabV; rw [Option.isSome_map]
  have hsize := hown.size_le
  have hmax : Maps.size D ≤ maxLen := Nat.le_trans (Nat.le_trans hsize (Nat.le_trans hn hN)) (by unfold maxLen; decide)
  have hbytes : Maps.size D * 16 ≤ 140737488355328 := by omega
  refine (callsIn_wide (n := 6)).1 ?_
  have cK : ∀ mb W, CallsIn Fence.wide 5 Try.prog 63 #[.map mb] W fun e w' => e = .returned (.func (.func 79) #[] #[.pointer (some ⟨W.heap.size, 0, none⟩)]) ∧ w' = W.alloc (.cells #[.map mb] 84) := fun mb W => Try.maps_Keys_63 mb W
  have cS := Try.slices_Sorted_keys_62_63 b n D Rv w hown hmax hbytes
  have hfK : Fence.wide.fn 63 := trivial
  have hfS : Fence.wide.fn 62 := trivial
  refine callsIn_of_wp Try.func41 rfl trivial ?_ rfl
  simp only [Try.ntmps41, List.size_toArray, List.length_cons, List.length_nil, Nat.reduceAdd, Nat.reduceSub, Array.replicate_succ, Array.replicate_zero, List.push_toArray, List.append_toArray, List.nil_append, List.cons_append]
  gi_wp2_with (first
    | (gi_at_call 63; refine (cK _ _).mono ?_; rintro e w' ⟨rfl, rfl⟩)
    | (gi_at_call 62; refine cS.mono ?_; rintro e w' ⟨v, ss, rfl, hS, hrow, hnil, hb2⟩))
  go_ret
  have hss : ss.mergeSort (fun x y => decide (x ≤ y)) = ks := by
    have := mergeSort_of_perm (hS.trans hperm.symm)
    exact this.trans (up_sorted hup)
  have hl : ss.length = (bytesOfL ks).length := by rw [← hss]; simp [bytesOfL]
  rw [hss] at hrow
  have henc : ks.map encStr = (bytesOfL ks).map Value.string := by
    unfold bytesOfL
    rw [List.map_map]
    rfl
  rw [henc, hl] at hrow
  refine ⟨v, ks, rfl, hup, hmem2, hlen.trans hsz, ?_, ((Below.refl _ w).alloc (Nat.le_refl _) _).trans (hb2.mono (by simp))⟩
  exact R_strs (ownsRow_base_a hrow (by simp))
set_option maxRecDepth 100000 in
/-- Reads. -/
theorem reads_walk (w : World) (b br bw : Nat) (num ts : Int) (N sr sw : Nat) (fr fw : Tab) (h : TxnAt w b br bw num ts N sr sw fr fw) (hN : N ≤ 1000000) :
    Calls Try.prog 16 #[.pointer (some ⟨b, 0, none⟩)] w fun e w' => ∃ (v : Value) (ks : List (List UInt8)), e = .returned v ∧ Up ks ∧ (∀ x, x ∈ ks ↔ (fr x).isSome = true) ∧ ks.length = sr ∧ Kd.R Kd.string 9 w' w.heap.size (fun _ => True) v (bytesOfL ks) ∧ Below w.heap.size w w' := by
  obtain ⟨c1, c2, c3, c0⟩ := h.cells
  have H := Aside0.mk (keys_walk w br N sr fr h.reads hN)
  clear h
  go_enter Try.func16, Try.ntmps16
  go_wp2_with fail
  refine H.out.mono ?_
  rintro e w1 ⟨v, ks, rfl, h1, h2, h3, h4, h5⟩
  have HA := Aside0.mk (And.intro h1 (And.intro h2 (And.intro h3 (And.intro h4 h5))))
  clear h1 h2 h3 h4 h5 H
  go_wp2
  go_ret
  exact ⟨v, ks, rfl, HA.out⟩
set_option maxRecDepth 100000 in
/-- Writes. -/
theorem writes_walk (w : World) (b br bw : Nat) (num ts : Int) (N sr sw : Nat) (fr fw : Tab) (h : TxnAt w b br bw num ts N sr sw fr fw) (hN : N ≤ 1000000) :
    Calls Try.prog 17 #[.pointer (some ⟨b, 0, none⟩)] w fun e w' => ∃ (v : Value) (ks : List (List UInt8)), e = .returned v ∧ Up ks ∧ (∀ x, x ∈ ks ↔ (fw x).isSome = true) ∧ ks.length = sw ∧ Kd.R Kd.string 9 w' w.heap.size (fun _ => True) v (bytesOfL ks) ∧ Below w.heap.size w w' := by
  obtain ⟨c1, c2, c3, c0⟩ := h.cells
  have H := Aside0.mk (keys_walk w bw N sw fw h.writes hN)
  clear h
  go_enter Try.func17, Try.ntmps17
  go_wp2_with fail
  refine H.out.mono ?_
  rintro e w1 ⟨v, ks, rfl, h1, h2, h3, h4, h5⟩
  have HA := Aside0.mk (And.intro h1 (And.intro h2 (And.intro h3 (And.intro h4 h5))))
  clear h1 h2 h3 h4 h5 H
  go_wp2
  go_ret
  exact ⟨v, ks, rfl, HA.out⟩
end Go.Proofs.Yteibcojjbcihbaa.Txn
