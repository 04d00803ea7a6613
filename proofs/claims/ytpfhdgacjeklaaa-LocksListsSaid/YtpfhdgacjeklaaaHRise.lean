/- What is in a set of strings, in order: sorted lists of keys; the shelf's contracts on sorted keys of a map, laid at this program (by the kit's programs lay-iter.mjs and lay-plain.mjs); set.rising. -/
import Derived.Sort.KeysCollected
import Derived.Sort.Walk0
import Derived.Shelf.SlIter.Nil
import Derived.Shelf.SortM.Plain
import Derived.Shelf.SortM.SortNone
import Derived.Ground.GgzProg
import Derived.Ground.SlgmProg
import Derived.Test.YtpfhdgacjeklaaaProg
import Derived.Test.YtpfhdgacjeklaaaHClash
namespace Go.Proofs.Ytpfhdgacjeklaaa.Mk
open Go
/-- A key, put among keys that rise. -/
def putL : List (List UInt8) → List UInt8 → List (List UInt8)
  | [], k => [k]
  | x :: r, k => if x < k then x :: putL r k else if x = k then x :: r else k :: x :: r
def uniq (ks : List (List UInt8)) : List (List UInt8) := ks.foldl putL []
def Up (l : List (List UInt8)) : Prop := l.Pairwise (fun a b => a < b)
theorem lt_or (a b : List UInt8) (h1 : ¬ a < b) (h2 : ¬ a = b) : b < a := by
  rcases List.le_total a b with h | h
  · exact absurd (Std.lt_of_le_of_ne h h2) h1
  · exact Std.lt_of_le_of_ne h (fun e => h2 e.symm)
theorem mem_put (l : List (List UInt8)) (k x : List UInt8) : x ∈ putL l k ↔ x ∈ l ∨ x = k := by
  induction l with
  | nil => simp [putL]
  | cons y r ih =>
    unfold putL
    split
    · rw [List.mem_cons, ih, List.mem_cons]; constructor
      · rintro (h | h | h)
        · exact .inl (.inl h)
        · exact .inl (.inr h)
        · exact .inr h
      · rintro ((h | h) | h)
        · exact .inl h
        · exact .inr (.inl h)
        · exact .inr (.inr h)
    · split
      · rename_i e
        subst e
        constructor
        · exact fun h => .inl h
        · rintro (h | h)
          · exact h
          · rw [h]; exact List.mem_cons_self
      · rw [List.mem_cons]
        exact Or.comm
theorem up_put (l : List (List UInt8)) (k : List UInt8) (h : Up l) : Up (putL l k) := by
  induction l with
  | nil => exact List.pairwise_singleton _ _
  | cons y r ih =>
    obtain ⟨h1, h2⟩ := List.pairwise_cons.1 h
    unfold putL
    split
    · rename_i hy
      refine List.pairwise_cons.2 ⟨fun z hz => ?_, ih h2⟩
      rcases (mem_put r k z).1 hz with hz | hz
      · exact h1 z hz
      · rw [hz]; exact hy
    · split
      · exact h
      · rename_i h3 h4
        have hk := lt_or y k h3 h4
        refine List.pairwise_cons.2 ⟨fun z hz => ?_, h⟩
        rcases List.mem_cons.1 hz with hz | hz
        · rw [hz]; exact hk
        · exact List.lt_trans hk (h1 z hz)
theorem up_fold (ks : List (List UInt8)) : ∀ l, Up l → Up (ks.foldl putL l) := by
  induction ks with
  | nil => exact fun l h => h
  | cons k r ih => exact fun l h => ih _ (up_put l k h)
theorem mem_fold (ks : List (List UInt8)) (x : List UInt8) : ∀ l, x ∈ ks.foldl putL l ↔ x ∈ l ∨ x ∈ ks := by
  induction ks with
  | nil => simp
  | cons k r ih =>
    intro l
    rw [List.foldl_cons, ih, mem_put, List.mem_cons]
    exact or_assoc
theorem up_uniq (ks : List (List UInt8)) : Up (uniq ks) := up_fold ks [] List.Pairwise.nil
theorem mem_uniq (ks : List (List UInt8)) (x : List UInt8) : x ∈ uniq ks ↔ x ∈ ks := by
  unfold uniq
  rw [mem_fold]
  simp
theorem up_nodup {l : List (List UInt8)} (h : Up l) : l.Nodup := List.Pairwise.imp (fun {a b} hab e => absurd (e ▸ hab) (List.lt_irrefl _)) h
/-- Keys that rise are told by which they are. -/
theorem up_ext {a b : List (List UInt8)} (ha : Up a) (hb : Up b) (h : ∀ x, x ∈ a ↔ x ∈ b) : a = b := by
  have hp : a.Perm b := (List.perm_ext_iff_of_nodup (up_nodup ha) (up_nodup hb)).2 h
  exact List.Perm.eq_of_pairwise (le := fun a b => a < b) (fun x y _ _ h1 h2 => absurd (List.lt_trans h1 h2) (List.lt_irrefl _)) ha hb hp
theorem up_sorted {l : List (List UInt8)} (h : Up l) : l.mergeSort leB = l := by
  have : l.Pairwise (fun a b => leB a b = true) := List.Pairwise.imp (fun {a b} hab => by simp only [leB, decide_eq_true_eq]; exact List.le_of_lt hab) h
  exact List.mergeSort_of_pairwise this
theorem sorted_of {ss ks : List (List UInt8)} (h : ss.Perm (uniq ks)) : ss.mergeSort leB = uniq ks := by
  rw [mergeSort_of_perm h]
  exact up_sorted (up_uniq ks)
end Go.Proofs.Ytpfhdgacjeklaaa.Mk
namespace Go.Proofs
open Go.Shelf
def Try.keys85_ren : Go.Shelf.Ren := ⟨fun | 7 => 85 | 10 => 108 | n => n, fun | 23 => 87 | 26 => 9 | 3 => 124 | 28 => 127 | 0 => 0 | 27 => 126 | 33 => 99 | 4 => 4 | n => n, fun | n => n⟩
theorem Try.keys85 : Go.Proofs.SlLaysZ.n7 Try.prog Try.keys85_ren := {
  mixed := by kernel_rfl
  f7 := ⟨Try.f85.name, by decide, Try.func85.trans (congrArg some (by kernel_rfl))⟩
  f10 := ⟨Try.f108.name, by decide, Try.func108.trans (congrArg some (by kernel_rfl))⟩
  t0 := Try.underlying0
  a0 := Try.isAgg0
  z0 := Try.sizeOf0
  v0 := Try.zeroValue0
  t4 := Try.underlying4
  a4 := Try.isAgg4
  z4 := Try.sizeOf4
  v4 := Try.zeroValue4
  t23 := Try.underlying87
  a23 := Try.isAgg87
  z23 := Try.sizeOf87
  v23 := Try.zeroValue87
  t26 := Try.underlying9
  a26 := Try.isAgg9
  z26 := Try.sizeOf9
  v26 := Try.zeroValue9
  t27 := Try.underlying126
  a27 := Try.isAgg126
  z27 := Try.sizeOf126
  v27 := Try.zeroValue126
  t28 := Try.underlying127
  a28 := Try.isAgg127
  z28 := Try.sizeOf127
  v28 := Try.zeroValue127
  t33 := Try.underlying99
  a33 := Try.isAgg99
  z33 := Try.sizeOf99
  v33 := Try.zeroValue99 }
def Try.sorted84_ren : Go.Shelf.Ren := ⟨fun | 6 => 84 | 8 => 106 | 9 => 107 | 11 => 116 | 13 => 111 | 12 => 117 | 23 => 127 | 24 => 128 | 14 => 129 | 15 => 130 | 16 => 131 | 17 => 132 | 18 => 133 | 19 => 134 | 20 => 135 | 21 => 136 | 22 => 137 | 25 => 144 | 26 => 139 | 27 => 140 | 28 => 145 | 29 => 146 | 30 => 147 | 31 => 149 | n => n, fun | 26 => 9 | 28 => 127 | 24 => 22 | 0 => 0 | 3 => 3 | 37 => 149 | 48 => 164 | 50 => 166 | 4 => 4 | 40 => 156 | 39 => 155 | 45 => 161 | 5 => 5 | 9 => 9 | 51 => 173 | 55 => 177 | 57 => 181 | 58 => 72 | 33 => 99 | n => n, fun | n => n⟩
theorem Try.sorted84 : Go.Proofs.SlLaysZ.n6 Try.prog Try.sorted84_ren := {
  mixed := by kernel_rfl
  f6 := ⟨Try.f84.name, by decide, Try.func84.trans (congrArg some (by kernel_rfl))⟩
  f8 := ⟨Try.f106.name, by decide, Try.func106.trans (congrArg some (by kernel_rfl))⟩
  f11 := ⟨Try.f116.name, by decide, Try.func116.trans (congrArg some (by kernel_rfl))⟩
  t0 := Try.underlying0
  a0 := Try.isAgg0
  z0 := Try.sizeOf0
  v0 := Try.zeroValue0
  t24 := Try.underlying22
  a24 := Try.isAgg22
  z24 := Try.sizeOf22
  v24 := Try.zeroValue22
  t26 := Try.underlying9
  a26 := Try.isAgg9
  z26 := Try.sizeOf9
  v26 := Try.zeroValue9
  t28 := Try.underlying127
  a28 := Try.isAgg127
  z28 := Try.sizeOf127
  v28 := Try.zeroValue127
  i26 := by kernel_rfl }
def Try.sort107_ren : Go.Shelf.Ren := ⟨fun | 6 => 107 | 8 => 111 | 9 => 117 | 19 => 127 | 20 => 128 | 21 => 129 | 22 => 130 | 23 => 131 | 24 => 132 | 25 => 133 | 26 => 134 | 27 => 135 | 28 => 136 | 29 => 137 | 36 => 144 | 31 => 139 | 32 => 140 | 37 => 145 | 38 => 146 | 39 => 147 | 41 => 149 | n => n, fun | 27 => 22 | 29 => 9 | 3 => 3 | 32 => 149 | 26 => 22 | 0 => 0 | 44 => 164 | 46 => 166 | 4 => 4 | 36 => 156 | 35 => 155 | 41 => 161 | 5 => 5 | 9 => 9 | 53 => 173 | 57 => 177 | 63 => 181 | 64 => 72 | n => n, fun | n => n⟩
theorem Try.sort107 : Go.Proofs.SlLaysM.n6 Try.prog Try.sort107_ren := {
  mixed := by kernel_rfl
  f6 := ⟨Try.f107.name, by decide, Try.func107.trans (congrArg some (by kernel_rfl))⟩
  f8 := Try.func111.trans (congrArg some (by kernel_rfl))
  f9 := ⟨Try.f117.name, by decide, Try.func117.trans (congrArg some (by kernel_rfl))⟩
  f19 := Try.func127.trans (congrArg some (by kernel_rfl))
  f20 := Try.func128.trans (congrArg some (by kernel_rfl))
  f21 := ⟨Try.f129.name, by decide, Try.func129.trans (congrArg some (by kernel_rfl))⟩
  f22 := ⟨Try.f130.name, by decide, Try.func130.trans (congrArg some (by kernel_rfl))⟩
  f23 := ⟨Try.f131.name, by decide, Try.func131.trans (congrArg some (by kernel_rfl))⟩
  f24 := ⟨Try.f132.name, by decide, Try.func132.trans (congrArg some (by kernel_rfl))⟩
  f25 := ⟨Try.f133.name, by decide, Try.func133.trans (congrArg some (by kernel_rfl))⟩
  f26 := ⟨Try.f134.name, by decide, Try.func134.trans (congrArg some (by kernel_rfl))⟩
  f27 := ⟨Try.f135.name, by decide, Try.func135.trans (congrArg some (by kernel_rfl))⟩
  f28 := ⟨Try.f136.name, by decide, Try.func136.trans (congrArg some (by kernel_rfl))⟩
  f29 := ⟨Try.f137.name, by decide, Try.func137.trans (congrArg some (by kernel_rfl))⟩
  f31 := Try.func139.trans (congrArg some (by kernel_rfl))
  f32 := Try.func140.trans (congrArg some (by kernel_rfl))
  f36 := ⟨Try.f144.name, by decide, Try.func144.trans (congrArg some (by kernel_rfl))⟩
  f37 := ⟨Try.f145.name, by decide, Try.func145.trans (congrArg some (by kernel_rfl))⟩
  f38 := ⟨Try.f146.name, by decide, Try.func146.trans (congrArg some (by kernel_rfl))⟩
  f39 := ⟨Try.f147.name, by decide, Try.func147.trans (congrArg some (by kernel_rfl))⟩
  f41 := ⟨Try.f149.name, by decide, Try.func149.trans (congrArg some (by kernel_rfl))⟩
  t0 := Try.underlying0
  a0 := Try.isAgg0
  z0 := Try.sizeOf0
  v0 := Try.zeroValue0
  t3 := Try.underlying3
  a3 := Try.isAgg3
  z3 := Try.sizeOf3
  v3 := Try.zeroValue3
  t4 := Try.underlying4
  a4 := Try.isAgg4
  z4 := Try.sizeOf4
  v4 := Try.zeroValue4
  t5 := Try.underlying5
  a5 := Try.isAgg5
  z5 := Try.sizeOf5
  v5 := Try.zeroValue5
  t9 := Try.underlying9
  a9 := Try.isAgg9
  z9 := Try.sizeOf9
  v9 := Try.zeroValue9
  t26 := Try.underlying22
  a26 := Try.isAgg22
  z26 := Try.sizeOf22
  v26 := Try.zeroValue22
  t27 := Try.underlying22
  a27 := Try.isAgg22
  z27 := Try.sizeOf22
  v27 := Try.zeroValue22
  t29 := Try.underlying9
  a29 := Try.isAgg9
  z29 := Try.sizeOf9
  v29 := Try.zeroValue9
  t32 := Try.underlying149
  a32 := Try.isAgg149
  z32 := Try.sizeOf149
  v32 := Try.zeroValue149
  t35 := Try.underlying155
  a35 := Try.isAgg155
  z35 := Try.sizeOf155
  v35 := Try.zeroValue155
  t36 := Try.underlying156
  a36 := Try.isAgg156
  z36 := Try.sizeOf156
  v36 := Try.zeroValue156
  t41 := Try.underlying161
  a41 := Try.isAgg161
  z41 := Try.sizeOf161
  v41 := Try.zeroValue161
  t44 := Try.underlying164
  a44 := Try.isAgg164
  z44 := Try.sizeOf164
  v44 := Try.zeroValue164
  t46 := Try.underlying166
  a46 := Try.isAgg166
  z46 := Try.sizeOf166
  v46 := Try.zeroValue166
  t53 := Try.underlying173
  a53 := Try.isAgg173
  z53 := Try.sizeOf173
  v53 := Try.zeroValue173
  t57 := Try.underlying177
  a57 := Try.isAgg177
  z57 := Try.sizeOf177
  v57 := Try.zeroValue177
  t63 := Try.underlying181
  a63 := Try.isAgg181
  z63 := Try.sizeOf181
  v63 := Try.zeroValue181
  t64 := Try.underlying72
  a64 := Try.isAgg72
  z64 := Try.sizeOf72
  v64 := Try.zeroValue72 }
open Go.RowKit Go.Maps Go.Sort
/-- slices.Sort's two contracts at this dump, at the fence that asks nothing. -/
theorem Try.sorts84 (m : Nat) : AnyZ.SortsIn Try.prog Try.sorted84_ren Fence.wide m :=
  ⟨fun blk off cap ss W hH hblk hsz => callsIn_wide.2 (AnyM.slices_Sort_string Try.sort107 blk off cap ss W hH hblk hsz),
   fun p cap W => callsIn_wide.2 (AnyM.slices_Sort_string_none Try.sort107 p cap W)⟩

/-- **maps.Keys[corncrib/locks.set[string],string,struct{}], at whatever map, the nil one too:** a function value over ONE NEW BLOCK, which holds the map. -/
theorem Try.maps_Keys_85 (mb : Option Nat) (W : World) : CallsIn Fence.wide 5 Try.prog 85 #[.map mb] W fun e w' => e = .returned (.func (.func 108) #[] #[.pointer (some ⟨W.heap.size, 0, none⟩)]) ∧ w' = W.alloc (.cells #[.map mb] 87) :=
  AnyZ.keys_in Try.keys85 Fence.wide 5 trivial rfl mb W

set_option maxHeartbeats 1000000 in
/-- **slices.Sorted[string] AT WHAT maps.Keys[corncrib/locks.set[string],string,struct{}] HANDED BACK FOR A MAP THAT IS NOT nil** ('w': the world AHEAD of maps.Keys' call): A NEW SLICE THAT HOLDS THE MAP's KEYS, SORTED; nil just where it has none; nothing that lay before has turned. -/
theorem Try.slices_Sorted_keys_84_85 {H : Type} (b nn : Nat) (D0 : DataW H) (R : Value → Option (DataW H × List MemPlace)) (w : World) (hown : w.ownsMap Try.prog 9 R b nn D0) (hmax : Maps.size D0 ≤ maxLen) (hbytes : Maps.size D0 * 16 ≤ 140737488355328) :
    CallsIn Fence.wide 5 Try.prog 84 #[.func (.func 108) #[] #[.pointer (some ⟨w.heap.size, 0, none⟩)]] (w.alloc (.cells #[.map (some b)] 87)) fun e w' => ∃ (v : Value) (ss : List (List UInt8)), e = .returned v ∧ ss.Perm (strKeys D0) ∧
      w'.ownsRow (w.alloc (.cells #[.map (some b)] 87)).heap.size 9 1 v ss.length ((ss.mergeSort (fun x y => decide (x ≤ y))).map encStr) ∧ (v = .slice none 0 0 ↔ ss = []) ∧ Below (w.alloc (.cells #[.map (some b)] 87)).heap.size (w.alloc (.cells #[.map (some b)] 87)) w' := by
  have hbl := hown.lt
  have hseq : SeqGives Fence.wide 2 Try.prog 108 #[.pointer (some ⟨w.heap.size, 0, none⟩)] encStr (fun ss => ss.Perm (strKeys D0)) (Maps.size D0) (w.alloc (.cells #[.map (some b)] 87)) :=
    AnyZ.keys_gives (ρ := Try.keys85_ren) { Try.keys85 with } Fence.wide _ trivial rfl (by omega) w.heap.size b nn D0 _ (by simp) (by simp) (by
      obtain ⟨es, clock, hb, Ft, hs, hD⟩ := hown
      exact ⟨es, clock, (Below.heap_alloc _ _ b hbl).trans hb, Ft, hs, hD⟩)
  exact AnyZ.sorted_in Try.sorted84 Fence.wide 5 trivial trivial trivial trivial rfl (by omega) (Try.sorts84 _) (enters_of Try.func107 (by kernel_rfl) rfl) 108 #[.pointer (some ⟨w.heap.size, 0, none⟩)] trivial (enters_of Try.func108 (by kernel_rfl) rfl) _ _ hmax hbytes _ hseq

end Go.Proofs
namespace Go.Proofs.Ytpfhdgacjeklaaa.PLocks
open Go.RowKit Go.Proofs.YtpfhdgacjeklaaaW.PrintWords Go.Maps Go.Sort Go.Shelf Mk
set_option linter.unusedVariables false
theorem putL_len (l : List (List UInt8)) (k : List UInt8) : (putL l k).length ≤ l.length + 1 := by
  induction l with
  | nil => simp [putL]
  | cons x r ih =>
    unfold putL
    split
    · simp; omega
    · split
      · simp
      · simp
theorem fold_len (ks : List (List UInt8)) : ∀ l, (ks.foldl putL l).length ≤ l.length + ks.length := by
  induction ks with
  | nil => intro l; simp
  | cons k r ih =>
    intro l
    have h1 := ih (putL l k)
    have h2 := putL_len l k
    rw [List.foldl_cons, List.length_cons]
    omega
theorem uniq_len (ks : List (List UInt8)) : (uniq ks).length ≤ ks.length := by
  have := fold_len ks []
  simpa [uniq] using this
theorem keys_perm {w : World} {b n : Nat} {D : DataW Value} {ks : List (List UInt8)} (hown : w.ownsMap Try.prog 9 unitElem b n D) (hs : ∀ s, Maps.has D (.string s) = ks.contains s) : (uniq ks).Perm (strKeys D) := by
  obtain ⟨es, hD, hpw, _⟩ := hown.entries keyed9
  obtain ⟨es', hD', hko⟩ := hown.keysOf
  obtain rfl : es = es' := by rw [hD] at hD'; simpa using hD'
  subst hD
  exact perm_strKeys hpw (fun p hp => by obtain ⟨v, hv⟩ := hko p hp; obtain ⟨x, _, hx, _⟩ := Maps.keyOf_str Try.underlying9 hv; exact ⟨x, hx⟩) (up_nodup (up_uniq ks)) (fun x => by rw [mem_uniq, hs x]; simp)
def bytesOfL (l : List (List UInt8)) : List ByteArray := l.map (fun x => ⟨x.toArray⟩)
theorem strs_bytes (l : List (List UInt8)) : strs (bytesOfL l) = l := by
  unfold strs bytesOfL
  rw [List.map_map]
  exact (List.map_congr_left (fun x _ => by simp)).trans (List.map_id l)
theorem bytes_strs (l : List ByteArray) : bytesOfL (strs l) = l := by
  unfold strs bytesOfL
  rw [List.map_map]
  exact (List.map_congr_left (fun x _ => by simp)).trans (List.map_id l)

theorem R_strs {w : World} {base : Nat} {v : Value} {rs : List ByteArray} (h : w.ownsRow base 9 1 v rs.length (rs.map Value.string)) : Kd.R Kd.string 9 w base (fun _ => True) v rs := by
  refine ⟨fun _ _ => trivial, rs.map Value.string, h, ?_, fun j p hj => ?_⟩
  · show (rs.map Value.string).length = rs.length * 1
    simp
  · obtain ⟨hl, hp⟩ := List.getElem?_eq_some_iff.1 hj
    show ((rs.map Value.string).drop (j * 1)).take 1 = [Value.string p]
    have hl' : j < (rs.map Value.string).length := by simpa using hl
    rw [Nat.mul_one, List.drop_eq_getElem_cons hl']
    simp [hp]
set_option maxRecDepth 100000 in
set_option maxHeartbeats 2000000 in
theorem rise_walk (w : World) (b : Nat) (ks : List (List UInt8)) (hset : SetIs Try.prog 9 w b ks) (hb : ks.length ≤ 1000000) :
    Calls Try.prog 54 #[.map (some b)] w fun e w' => ∃ v : Value, e = .returned v ∧ Kd.R Kd.string 9 w' w.heap.size (fun _ => True) v (bytesOfL (uniq ks)) ∧ Below w.heap.size w w' := by
  obtain ⟨n, D, hown, hn, hs⟩ := hset
  have hperm := keys_perm hown hs
  have hsize := hown.size_le
  have hmax : Maps.size D ≤ maxLen := Nat.le_trans (Nat.le_trans hsize (Nat.le_trans hn hb)) (by unfold maxLen; decide)
  have hbytes : Maps.size D * 16 ≤ 140737488355328 := by omega
  refine (callsIn_wide (n := 6)).1 ?_
  have cK : ∀ mb W, CallsIn Fence.wide 5 Try.prog 85 #[.map mb] W fun e w' => e = .returned (.func (.func 108) #[] #[.pointer (some ⟨W.heap.size, 0, none⟩)]) ∧ w' = W.alloc (.cells #[.map mb] 87) := fun mb W => Try.maps_Keys_85 mb W
  have cS := Try.slices_Sorted_keys_84_85 b n D unitElem w hown hmax hbytes
  have hfK : Fence.wide.fn 85 := trivial
  have hfS : Fence.wide.fn 84 := trivial
  refine callsIn_of_wp Try.func54 rfl trivial ?_ rfl
  simp only [Try.ntmps54, List.size_toArray, List.length_cons, List.length_nil, Nat.reduceAdd, Nat.reduceSub, Array.replicate_succ, Array.replicate_zero, List.push_toArray, List.append_toArray, List.nil_append, List.cons_append]
  gi_wp2_with (first
    | (gi_at_call 85; refine (cK _ _).mono ?_; rintro e w' ⟨rfl, rfl⟩)
    | (gi_at_call 84; refine cS.mono ?_; rintro e w' ⟨v, ss, rfl, hS, hrow, hnil, hb2⟩))
  go_ret
  have hss : ss.mergeSort (fun x y => decide (x ≤ y)) = uniq ks := sorted_of (hS.trans hperm.symm)
  have hlen : ss.length = (bytesOfL (uniq ks)).length := by rw [← hss]; simp [bytesOfL]
  rw [hss] at hrow
  have henc : (uniq ks).map encStr = (bytesOfL (uniq ks)).map Value.string := by
    unfold bytesOfL
    rw [List.map_map]
    rfl
  rw [henc, hlen] at hrow
  refine ⟨v, rfl, ?_, ((Below.refl _ w).alloc (Nat.le_refl _) _).trans (hb2.mono (by simp))⟩
  exact R_strs (ownsRow_base_a hrow (by simp))
end Go.Proofs.Ytpfhdgacjeklaaa.PLocks
