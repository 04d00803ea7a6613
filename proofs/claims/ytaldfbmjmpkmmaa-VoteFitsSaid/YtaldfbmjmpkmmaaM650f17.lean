/- Texts of this proof, one behind the other (merged by a program of this session). -/
import Derived.Test.YtaldfbmjmpkmmaaM4d4fa0
import Derived.Test.YtaldfbmjmpkmmaaMc02220
namespace Go.Proofs
open Go.RowKit Go.Maps Go.Sort Go.Shelf
theorem Try.sortsI (m : Nat) : AnyZI.SortsIn Try.prog Try.sortedI_ren Fence.wide m :=
  ⟨fun blk off cap ss W hH hblk hsz => callsIn_wide.2 (AnyM.slices_Sort_int Try.sortI blk off cap ss W hH hblk hsz),
   fun p cap W => callsIn_wide.2 (AnyM.slices_Sort_int_none Try.sortI p cap W)⟩
theorem Try.maps_KeysP (mb : Option Nat) (W : World) : CallsIn Fence.wide 5 Try.prog 66 #[.map mb] W fun e w' => e = .returned (.func (.func 107) #[] #[.pointer (some ⟨W.heap.size, 0, none⟩)]) ∧ w' = W.alloc (.cells #[.map mb] 75) :=
  AnyZI.keys_in Try.keysP Fence.wide 5 trivial rfl mb W
set_option maxHeartbeats 1000000 in
theorem Try.slices_Sorted_keysP {H : Type} (b nn : Nat) (D0 : DataW H) (R : Value → Option (DataW H × List MemPlace)) (w : World) (hown : w.ownsMap Try.prog 3 R b nn D0) (hmax : Maps.size D0 ≤ maxLen) (hbytes : Maps.size D0 * 8 ≤ 140737488355328) :
    CallsIn Fence.wide 5 Try.prog 65 #[.func (.func 107) #[] #[.pointer (some ⟨w.heap.size, 0, none⟩)]] (w.alloc (.cells #[.map (some b)] 75)) fun e w' => ∃ (v : Value) (ss : List Int), e = .returned v ∧ ss.Perm (intKeys D0) ∧
      w'.ownsRow (w.alloc (.cells #[.map (some b)] 75)).heap.size 3 1 v ss.length ((ss.mergeSort (fun x y => decide (x ≤ y))).map encZ) ∧ (v = .slice none 0 0 ↔ ss = []) ∧ Below (w.alloc (.cells #[.map (some b)] 75)).heap.size (w.alloc (.cells #[.map (some b)] 75)) w' := by
  have hbl := hown.lt
  have hseq : SeqGives Fence.wide 2 Try.prog 107 #[.pointer (some ⟨w.heap.size, 0, none⟩)] encZ (fun ss => ss.Perm (intKeys D0)) (Maps.size D0) (w.alloc (.cells #[.map (some b)] 75)) :=
    AnyZI.keys_gives (ρ := Try.keysP_ren) { Try.keysP with } Fence.wide _ trivial rfl (by omega) w.heap.size b nn D0 _ (by simp) (by simp) (by
      obtain ⟨es, clock, hb, Ft, hs, hD⟩ := hown
      exact ⟨es, clock, (Below.heap_alloc _ _ b hbl).trans hb, Ft, hs, hD⟩)
  exact AnyZI.sorted_in Try.sortedI Fence.wide 5 trivial trivial trivial trivial rfl (by omega) (Try.sortsI _) (enters_of Try.func106 (by kernel_rfl) rfl) 107 #[.pointer (some ⟨w.heap.size, 0, none⟩)] trivial (enters_of Try.func107 (by kernel_rfl) rfl) _ _ hmax hbytes _ hseq
end Go.Proofs
namespace Go.Proofs.Ytaldfbmjmpkmmaa.PL
open Go.RowKit Go.Proofs.YtaldfbmjmpkmmaaW.PrintWords Go.Proofs.YtaldfbmjmpkmmaaW.PrintLast Go.Proofs.YtaldfbmjmpkmmaaW.PrintMore Go.Sort Go.Shelf Go.Maps Go.WideMaps Go.Proofs.Ytaldfbmjmpkmmaa.Mk
set_option linter.unusedVariables false
set_option linter.unusedSimpArgs false
set_option linter.unusedSectionVars false
theorem R_intsO {w : World} {base : Nat} {v : Value} {rs : List Int} (h : w.ownsRow base 3 1 v rs.length (rs.map encZ)) : Kd.R (Kd.int .i64) 3 w base (fun _ => True) v rs := by
  refine ⟨fun _ _ => trivial, rs.map encZ, h, ?_, fun j p hj => ?_⟩
  · show (rs.map encZ).length = rs.length * 1
    simp
  · obtain ⟨hl, hp⟩ := List.getElem?_eq_some_iff.1 hj
    show ((rs.map encZ).drop (j * 1)).take 1 = [Value.int .i64 p]
    have hl' : j < (rs.map encZ).length := by simpa using hl
    rw [Nat.mul_one, List.drop_eq_getElem_cons hl']
    simp [hp, encZ]
theorem ownsRow_lower {w : World} {a b e size n : Nat} {v : Value} {xs : List Value} (h : w.ownsRow a e size v n xs) (hab : b ≤ a) : w.ownsRow b e size v n xs := own_weaken h hab
/-- Two lists that rise and hold the same are one. -/
theorem rise_eq : ∀ {a b : List Int}, a.Pairwise (· < ·) → b.Pairwise (· < ·) → (∀ i, i ∈ a ↔ i ∈ b) → a = b
  | [], [], _, _, _ => rfl
  | [], y :: b, _, _, h => absurd ((h y).2 (by simp)) (by simp)
  | x :: a, [], _, _, h => absurd ((h x).1 (by simp)) (by simp)
  | x :: a, y :: b, ha, hb, h => by
    obtain ⟨ha1, ha2⟩ := List.pairwise_cons.1 ha
    obtain ⟨hb1, hb2⟩ := List.pairwise_cons.1 hb
    have hxy : x = y := by
      rcases List.mem_cons.1 ((h x).1 List.mem_cons_self) with e | hx
      · exact e
      · rcases List.mem_cons.1 ((h y).2 List.mem_cons_self) with e | hy
        · exact e.symm
        · have := hb1 x hx
          have := ha1 y hy
          omega
    subst hxy
    rw [rise_eq ha2 hb2 (fun i => by
      constructor
      · intro hi
        rcases List.mem_cons.1 ((h i).1 (List.mem_cons_of_mem _ hi)) with e | hi2
        · have := ha1 i hi
          omega
        · exact hi2
      · intro hi
        rcases List.mem_cons.1 ((h i).2 (List.mem_cons_of_mem _ hi)) with e | hi2
        · have := hb1 i hi
          omega
        · exact hi2)]
set_option maxHeartbeats 1000000 in
theorem sortedP_calls (w : World) (b N : Nat) (f : Lit → Option Value) (h : MapL Try.prog 3 w b N f) (hN : N ≤ 1000000) :
    Calls Try.prog 65 #[.func (.func 107) #[] #[.pointer (some ⟨w.heap.size, 0, none⟩)]] (w.alloc (.cells #[.map (some b)] 75)) fun e w' => ∃ (v : Value) (ks : List Int), e = .returned v ∧ ks.Pairwise (· < ·) ∧ (∀ i, i ∈ ks ↔ (f (ik i)).isSome = true) ∧
      Kd.R (Kd.int .i64) 3 w' w.heap.size (fun _ => True) v ks ∧ Below w.heap.size w w' := by
  obtain ⟨D, hown, hhas, hat⟩ := h
  have hsz := hown.size_le
  have hmax : Maps.size D ≤ maxLen := Nat.le_trans hsz (Nat.le_trans hN (by unfold maxLen; decide))
  refine ((callsIn_wide (n := 5)).1 (Try.slices_Sorted_keysP b N D Rv w hown hmax (by omega))).mono ?_
  rintro e w' ⟨v, ss, rfl, hS, hrow, _, hb⟩
  obtain ⟨es, hD, hpw, _⟩ := hown.entries keyedI
  obtain ⟨es', hD', hko⟩ := hown.keysOf
  obtain rfl : es = es' := by rw [hD] at hD'; simpa using hD'
  subst hD
  have hk : ∀ p ∈ es, ∃ x, p.1 = .int .i64 x := fun p hp => by obtain ⟨v, hv⟩ := hko p hp; obtain ⟨x, _, hx, _⟩ := Maps.keyOf_i64 Try.underlying3 hv; exact ⟨x, hx⟩
  have hmem : ∀ x, x ∈ intKeys (.map es) ↔ Maps.has (.map es) (.int .i64 x) = true := by
    intro x
    rw [has_eq, List.any_eq_true]
    show x ∈ es.map (fun p => Go.intOf p.1) ↔ _
    rw [List.mem_map]
    constructor
    · rintro ⟨p, hp', rfl⟩
      obtain ⟨a, ha⟩ := hk p hp'
      exact ⟨p, hp', by rw [ha]; simp [Lit.sameKey, Go.intOf]⟩
    · rintro ⟨p, hp', hs⟩
      obtain ⟨a, ha⟩ := hk p hp'
      rw [ha] at hs
      exact ⟨p, hp', by rw [ha]; simpa [Lit.sameKey, Go.intOf] using hs⟩
  have hnd : (intKeys (.map es)).Nodup := by
    show (es.map fun p => Go.intOf p.1).Nodup
    refine List.pairwise_map.2 (hpw.imp_of_mem fun {p q} hp' hq' hne e => hne ?_)
    obtain ⟨a, ha⟩ := hk p hp'
    obtain ⟨b, hb⟩ := hk q hq'
    rw [ha, hb] at e ⊢
    exact congrArg _ e
  have tr : ∀ a b c : Int, decide (a ≤ b) = true → decide (b ≤ c) = true → decide (a ≤ c) = true := fun a b c h1 h2 => by simp only [decide_eq_true_eq] at *; exact Int.le_trans h1 h2
  have tl : ∀ a b : Int, (decide (a ≤ b) || decide (b ≤ a)) = true := fun a b => by simp only [Bool.or_eq_true, decide_eq_true_eq]; exact Int.le_total a b
  have hpm : (ss.mergeSort (fun x y => decide (x ≤ y))).Perm (intKeys (.map es)) := (List.mergeSort_perm ss _).trans hS
  have hlen : ss.length = (ss.mergeSort (fun x y => decide (x ≤ y))).length := (List.mergeSort_perm ss _).length_eq.symm
  have hup : (ss.mergeSort (fun x y => decide (x ≤ y))).Pairwise (fun a b => a < b) := by
    have h1 := List.pairwise_mergeSort tr tl ss
    have h2 : (ss.mergeSort (fun x y => decide (x ≤ y))).Nodup := (hpm.nodup_iff).2 hnd
    exact (h1.and h2).imp (fun {a b} hab => by
      have := hab.1
      simp only [decide_eq_true_eq] at this
      have hne := hab.2
      omega)
  refine ⟨v, ss.mergeSort (fun x y => decide (x ≤ y)), rfl, hup, fun i => by rw [hpm.mem_iff, hmem, hhas]; rfl, ?_, ((Below.refl _ w).alloc (Nat.le_refl _) _).trans (hb.mono (by simp))⟩
  rw [hlen] at hrow
  exact R_intsO (ownsRow_lower hrow (by simp))
def openV (s : Sh) : List Int := s.P.map (·.f1)
set_option maxRecDepth 100000 in
theorem open_walk {w : World} {ok : Nat → Prop} {b N : Nat} {s : Sh} (h : ShAt w ok b N s) (hN : N ≤ 1000000) :
    Calls Try.prog 30 #[.pointer (some ⟨b, 0, none⟩)] w fun e w' => ∃ v, e = .returned v ∧ Kd.R (Kd.int .i64) 3 w' w.heap.size (fun _ => True) v (openV s) ∧ Below w.heap.size w w' := by
  obtain ⟨bk, bp, ve, fk, fp, hp⟩ := h
  obtain ⟨c0, c1, c2, c3⟩ := hp.cells
  have HK := Aside0.mk ((callsIn_wide (n := 5)).1 (Try.maps_KeysP (some bp) w))
  have HS := Aside0.mk (sortedP_calls w bp N fp hp.preps hN)
  have HEQ : Aside0 (∀ ks : List Int, ks.Pairwise (· < ·) → (∀ i, i ∈ ks ↔ (fp (ik i)).isSome = true) → ks = openV s) := ⟨fun ks h1 h2 => rise_eq h1 (List.pairwise_map.2 hp.good.rise) (fun i => by
    rw [h2, hp.preps_iff, List.mem_map]
    unfold openV
    rw [List.mem_map]
    constructor
    · rintro ⟨r, hr, e⟩
      exact ⟨r, hr, by unfold ik at e; injection e⟩
    · rintro ⟨r, hr, e⟩
      exact ⟨r, hr, by rw [e]⟩)⟩
  clear hp
  go_enter Try.func30, Try.ntmps30
  go_wp2_with fail
  refine HK.out.mono ?_
  rintro e w1 ⟨rfl, rfl⟩
  go_wp2_with fail
  refine HS.out.mono ?_
  rintro e w2 ⟨v, ks, rfl, h1, h2, hR, hb⟩
  obtain rfl := HEQ.out ks h1 h2
  have HR := Aside0.mk hR
  have HB := Aside0.mk hb
  clear hR hb h1 h2 c0 c1 c2 c3
  go_wp2_with fail
  go_ret
  exact ⟨_, rfl, HR.out, HB.out⟩
def prepOf (s : Sh) (t : Int) : Option Rec := s.P.find? (fun r => decide (r.f1 = t))
def zRec : Rec := ⟨0, 0, 0, 0, ⟨#[]⟩, ⟨#[]⟩, false, [], []⟩
theorem prep_find {w : World} {ok : Nat → Prop} {b N : Nat} {s : Sh} {bk bp : Nat} {ve : Value} {fk fp : Lit → Option Value} (h : Parts w ok b N s bk bp ve fk fp) (t : Int) : ∃ A7 c7 A8 c8,
    (fp (ik t)).getD (.agg #[.int .i64 0, .int .i64 0, .int .i64 0, .int .i64 0, .string ⟨#[]⟩, .string ⟨#[]⟩, .bool false, .slice none 0 0, .slice none 0 0]) = .agg #[.int .i64 ((prepOf s t).getD zRec).f0, .int .i64 ((prepOf s t).getD zRec).f1, .int .i64 ((prepOf s t).getD zRec).f2, .int .i64 ((prepOf s t).getD zRec).f3, .string ((prepOf s t).getD zRec).f4, .string ((prepOf s t).getD zRec).f5, .bool ((prepOf s t).getD zRec).f6, .slice A7 ((prepOf s t).getD zRec).f7.length c7, .slice A8 ((prepOf s t).getD zRec).f8.length c8] ∧
    k35.K w ((prepOf s t).getD zRec) [.int .i64 ((prepOf s t).getD zRec).f0, .int .i64 ((prepOf s t).getD zRec).f1, .int .i64 ((prepOf s t).getD zRec).f2, .int .i64 ((prepOf s t).getD zRec).f3, .string ((prepOf s t).getD zRec).f4, .string ((prepOf s t).getD zRec).f5, .bool ((prepOf s t).getD zRec).f6, .slice A7 ((prepOf s t).getD zRec).f7.length c7, .slice A8 ((prepOf s t).getD zRec).f8.length c8] ∧
    (fp (ik t)).isSome = (prepOf s t).isSome ∧ ((prepOf s t).getD zRec).f7.length ≤ 16 ∧ ((prepOf s t).getD zRec).f8.length ≤ 16 := by
  have hsome := h.prep_some t
  cases hf : prepOf s t with
  | none =>
    have h1 : s.P.any (fun r => decide (r.f1 = t)) = false := List.any_eq_false.2 (fun r hr => by simpa using List.find?_eq_none.1 hf r hr)
    rw [h1] at hsome
    cases hg : fp (ik t) with
    | some v => rw [hg] at hsome; cases hsome
    | none => exact ⟨none, 0, none, 0, rfl, k35_mk w zRec (Nat.le_refl _) (Kd.C_nil _ _) (Nat.le_refl _) (Kd.C_nil _ _), rfl, by simp [zRec], by simp [zRec]⟩
  | some r =>
    have hr : r ∈ s.P := List.mem_of_find?_eq_some hf
    have hrt : r.f1 = t := of_decide_eq_true (by simpa using List.find?_some hf)
    obtain ⟨v7, v8, e, h7, h8⟩ := h.prep_rec r hr
    obtain ⟨A7, c7, rfl, l7, g7⟩ := Kd.R_reads h7
    obtain ⟨A8, c8, rfl, l8, g8⟩ := Kd.R_reads h8
    have hl := (prep_lists (h.good.recs r hr).1 (h.good.recs r hr).2).1
    rw [hrt] at e
    refine ⟨A7, c7, A8, c8, by rw [e, ← hrt]; rfl, k35_mk w r l7 g7 l8 g8, by rw [e]; rfl, hl.few7, hl.few8⟩
set_option maxRecDepth 100000 in
set_option maxHeartbeats 4000000 in
theorem prep_walk {w : World} {ok : Nat → Prop} {b N : Nat} {s : Sh} (h : ShAt w ok b N s) (t : Int) (ht : -9223372036854775808 ≤ t ∧ t ≤ 9223372036854775807) :
    Calls Try.prog 24 #[.pointer (some ⟨b, 0, none⟩), .int .i64 t] w fun e w' => ∃ cs, e = .returned (.tuple #[.agg cs.toArray, .bool (prepOf s t).isSome]) ∧ k35.M w' w.heap.size (fun _ => True) ((prepOf s t).getD zRec) cs ∧ Below w.heap.size w w' := by
  obtain ⟨bk, bp, ve, fk, fp, hp⟩ := h
  obtain ⟨A7, c7, A8, c8, hv, hK, hs, l7, l8⟩ := prep_find hp t
  generalize (prepOf s t).isSome = q at *
  generalize (prepOf s t).getD zRec = r at *
  obtain ⟨w1, hw1⟩ : ∃ w1, w1 = w.alloc (.cells #[.int .i64 0, .int .i64 0, .int .i64 0, .int .i64 0, .string ⟨#[]⟩, .string ⟨#[]⟩, .bool false, .slice none 0 0, .slice none 0 0] 35) := ⟨_, rfl⟩
  have hb1 : Below w.heap.size w w1 := by rw [hw1]; exact below_alloc (Below.refl _ _) _
  have hP1 := hp.below hb1
  obtain ⟨c0, c1, c2, c3⟩ := hP1.cells
  rw [hw1] at c1
  obtain ⟨w2, hw2⟩ : ∃ w2, w2 = w.alloc (.cells #[.int .i64 r.f0, .int .i64 r.f1, .int .i64 r.f2, .int .i64 r.f3, .string r.f4, .string r.f5, .bool r.f6, .slice A7 r.f7.length c7, .slice A8 r.f8.length c8] 35) := ⟨_, rfl⟩
  have hb2 : Below w.heap.size w w2 := by rw [hw2]; exact below_alloc (Below.refl _ _) _
  have hx2 : w2.heap[w.heap.size]? = some (.cells #[.int .i64 r.f0, .int .i64 r.f1, .int .i64 r.f2, .int .i64 r.f3, .string r.f4, .string r.f5, .bool r.f6, .slice A7 r.f7.length c7, .slice A8 r.f8.length c8] 35 (0, 0)) := by rw [hw2]; exact blk_new _ _
  have HCP := Aside0.mk (copied_walk w2 r _ (k35.K_below hb2 hK) (by omega) (by omega))
  have HV := Aside0.mk hv
  have HQ := Aside0.mk hs
  have HP1 := Aside0.mk hP1
  have HW1 := Aside0.mk hw1
  have HW2 := Aside0.mk hw2
  have HB2 := Aside0.mk hb2
  have HX2 := Aside0.mk hx2
  have HT := Aside0.mk ht
  have hu := Try.underlying35
  clear hv hs hP1 hw1 hw2 hb1 hb2 hx2 hK hp l7 l8 c0 c2 c3 ht
  go_enter Try.func24, Try.ntmps24
  go_wp2_with (at_lookup; rw [← HW1.out]; refine MapL.look HP1.out.preps keyedI rfl _ _ 75 35 rfl Try.underlying75 (zeroR _) rfl rfl (key_ik HT.out) ?_; rw [HV.out, HQ.out, HW1.out])
  rw [← HW2.out]
  refine HCP.out.mono ?_
  rintro e w3 ⟨cs, rfl, hM, hb3⟩
  obtain ⟨v7, v8, rfl, h7, h8⟩ := k35_openM hM
  obtain ⟨B7, d7, rfl⟩ := Kd.R_slice h7
  obtain ⟨B8, d8, rfl⟩ := Kd.R_slice h8
  have HB3 : Aside0 (Below w.heap.size w w3) := ⟨HB2.out.trans (hb3.mono HB2.out.size)⟩
  have X3 := Aside0.mk (blk_below HX2.out hb3)
  have H7 := Aside0.mk (Kd.R_lower h7 HB2.out.size)
  have H8 := Aside0.mk (Kd.R_lower h8 HB2.out.size)
  clear hM hb3 HCP h7 h8 c1
  obtain ⟨r0, r1, r2, r3, r4, r5, r6, r7, r8⟩ := r
  simp only at *
  have f0 := blk_frozen X3.out 0
  have f1 := blk_frozen X3.out 1
  have f2 := blk_frozen X3.out 2
  have f3 := blk_frozen X3.out 3
  have f4 := blk_frozen X3.out 4
  have f5 := blk_frozen X3.out 5
  have f6 := blk_frozen X3.out 6
  have f7 := blk_frozen X3.out 7
  have f8 := blk_frozen X3.out 8
  have x0 := blk_cell X3.out 0
  have x1 := blk_cell X3.out 1
  have x2 := blk_cell X3.out 2
  have x3 := blk_cell X3.out 3
  have x4 := blk_cell X3.out 4
  have x5 := blk_cell X3.out 5
  have x6 := blk_cell X3.out 6
  have x7 := blk_cell X3.out 7
  have x8 := blk_cell X3.out 8
  go_wp2_with fail
  have z0 := blk_put (cs' := #[.int .i64 r0, .int .i64 r1, .int .i64 r2, .int .i64 r3, .string r4, .string r5, .bool r6, .slice A7 r7.length c7, .slice A8 r8.length c8]) X3.out 0 (.int .i64 r0) rfl
  have z1 := blk_put (cs' := #[.int .i64 r0, .int .i64 r1, .int .i64 r2, .int .i64 r3, .string r4, .string r5, .bool r6, .slice A7 r7.length c7, .slice A8 r8.length c8]) z0 1 (.int .i64 r1) rfl
  have z2 := blk_put (cs' := #[.int .i64 r0, .int .i64 r1, .int .i64 r2, .int .i64 r3, .string r4, .string r5, .bool r6, .slice A7 r7.length c7, .slice A8 r8.length c8]) z1 2 (.int .i64 r2) rfl
  have z3 := blk_put (cs' := #[.int .i64 r0, .int .i64 r1, .int .i64 r2, .int .i64 r3, .string r4, .string r5, .bool r6, .slice A7 r7.length c7, .slice A8 r8.length c8]) z2 3 (.int .i64 r3) rfl
  have z4 := blk_put (cs' := #[.int .i64 r0, .int .i64 r1, .int .i64 r2, .int .i64 r3, .string r4, .string r5, .bool r6, .slice A7 r7.length c7, .slice A8 r8.length c8]) z3 4 (.string r4) rfl
  have z5 := blk_put (cs' := #[.int .i64 r0, .int .i64 r1, .int .i64 r2, .int .i64 r3, .string r4, .string r5, .bool r6, .slice A7 r7.length c7, .slice A8 r8.length c8]) z4 5 (.string r5) rfl
  have z6 := blk_put (cs' := #[.int .i64 r0, .int .i64 r1, .int .i64 r2, .int .i64 r3, .string r4, .string r5, .bool r6, .slice A7 r7.length c7, .slice A8 r8.length c8]) z5 6 (.bool r6) rfl
  have z7 := blk_put (cs' := #[.int .i64 r0, .int .i64 r1, .int .i64 r2, .int .i64 r3, .string r4, .string r5, .bool r6, .slice B7 r7.length d7, .slice A8 r8.length c8]) z6 7 (.slice B7 r7.length d7) rfl
  have z8 := blk_put (cs' := #[.int .i64 r0, .int .i64 r1, .int .i64 r2, .int .i64 r3, .string r4, .string r5, .bool r6, .slice B7 r7.length d7, .slice B8 r8.length d8]) z7 8 (.slice B8 r8.length d8) rfl
  have BZ : Aside0 ((((((((((w3.setCell ⟨w.heap.size, 0, none⟩ (.int .i64 r0)).setCell ⟨w.heap.size, 1, none⟩ (.int .i64 r1)).setCell ⟨w.heap.size, 2, none⟩ (.int .i64 r2)).setCell ⟨w.heap.size, 3, none⟩ (.int .i64 r3)).setCell ⟨w.heap.size, 4, none⟩ (.string r4)).setCell ⟨w.heap.size, 5, none⟩ (.string r5)).setCell ⟨w.heap.size, 6, none⟩ (.bool r6)).setCell ⟨w.heap.size, 7, none⟩ (.slice B7 r7.length d7)).setCell ⟨w.heap.size, 8, none⟩ (.slice B8 r8.length d8)).heap[w.heap.size]? = some (.cells #[.int .i64 r0, .int .i64 r1, .int .i64 r2, .int .i64 r3, .string r4, .string r5, .bool r6, .slice B7 r7.length d7, .slice B8 r8.length d8] 35 (0, 0))) := ⟨z8⟩
  have B6 : Aside0 (Below w.heap.size w (((((((((w3.setCell ⟨w.heap.size, 0, none⟩ (.int .i64 r0)).setCell ⟨w.heap.size, 1, none⟩ (.int .i64 r1)).setCell ⟨w.heap.size, 2, none⟩ (.int .i64 r2)).setCell ⟨w.heap.size, 3, none⟩ (.int .i64 r3)).setCell ⟨w.heap.size, 4, none⟩ (.string r4)).setCell ⟨w.heap.size, 5, none⟩ (.string r5)).setCell ⟨w.heap.size, 6, none⟩ (.bool r6)).setCell ⟨w.heap.size, 7, none⟩ (.slice B7 r7.length d7)).setCell ⟨w.heap.size, 8, none⟩ (.slice B8 r8.length d8))) := ⟨(Below.setCell (Below.setCell (Below.setCell (Below.setCell (Below.setCell (Below.setCell (Below.setCell (Below.setCell (Below.setCell HB3.out (Nat.le_refl _) _) (Nat.le_refl _) _) (Nat.le_refl _) _) (Nat.le_refl _) _) (Nat.le_refl _) _) (Nat.le_refl _) _) (Nat.le_refl _) _) (Nat.le_refl _) _) (Nat.le_refl _) _)⟩
  have HM : Aside0 (∀ k, k ≠ w.heap.size → (((((((((w3.setCell ⟨w.heap.size, 0, none⟩ (.int .i64 r0)).setCell ⟨w.heap.size, 1, none⟩ (.int .i64 r1)).setCell ⟨w.heap.size, 2, none⟩ (.int .i64 r2)).setCell ⟨w.heap.size, 3, none⟩ (.int .i64 r3)).setCell ⟨w.heap.size, 4, none⟩ (.string r4)).setCell ⟨w.heap.size, 5, none⟩ (.string r5)).setCell ⟨w.heap.size, 6, none⟩ (.bool r6)).setCell ⟨w.heap.size, 7, none⟩ (.slice B7 r7.length d7)).setCell ⟨w.heap.size, 8, none⟩ (.slice B8 r8.length d8)).heap[k]? = w3.heap[k]?) := ⟨fun k hk => (Eq.trans (Below.heap_setCell _ _ _ k hk) (Eq.trans (Below.heap_setCell _ _ _ k hk) (Eq.trans (Below.heap_setCell _ _ _ k hk) (Eq.trans (Below.heap_setCell _ _ _ k hk) (Eq.trans (Below.heap_setCell _ _ _ k hk) (Eq.trans (Below.heap_setCell _ _ _ k hk) (Eq.trans (Below.heap_setCell _ _ _ k hk) (Eq.trans (Below.heap_setCell _ _ _ k hk) (Below.heap_setCell _ _ _ k hk)))))))))⟩
  clear z0 z1 z2 z3 z4 z5 z6 z7 z8
  generalize (((((((((w3.setCell ⟨w.heap.size, 0, none⟩ (.int .i64 r0)).setCell ⟨w.heap.size, 1, none⟩ (.int .i64 r1)).setCell ⟨w.heap.size, 2, none⟩ (.int .i64 r2)).setCell ⟨w.heap.size, 3, none⟩ (.int .i64 r3)).setCell ⟨w.heap.size, 4, none⟩ (.string r4)).setCell ⟨w.heap.size, 5, none⟩ (.string r5)).setCell ⟨w.heap.size, 6, none⟩ (.bool r6)).setCell ⟨w.heap.size, 7, none⟩ (.slice B7 r7.length d7)).setCell ⟨w.heap.size, 8, none⟩ (.slice B8 r8.length d8)) = w6 at *
  have Z7 := Aside0.mk (R_box (by decide) H7.out X3.out HM.out)
  have Z8 := Aside0.mk (R_box (by decide) H8.out X3.out HM.out)
  (try simp only [Exit.inBlock, Exit.then])
  refine bodyPost_ret (results_list (rs := [.cell 4 35, .tmp 5]) rfl (by simp) (Vals.cell w.heap.size 35 _ (0, 0) _ rfl BZ.out Try.underlying35 rfl (by kernel_rfl) (Vals.tmp Vals.nil))) rfl ?_
  exact ⟨[.int .i64 r0, .int .i64 r1, .int .i64 r2, .int .i64 r3, .string r4, .string r5, .bool r6, .slice B7 r7.length d7, .slice B8 r8.length d8], rfl, k35_mkM _ _ _ (⟨r0, r1, r2, r3, r4, r5, r6, r7, r8⟩ : Rec) Z7.out Z8.out, B6.out⟩
end Go.Proofs.Ytaldfbmjmpkmmaa.PL
namespace Go.Proofs.Ytaldfbmjmpkmmaa.PL
open Go.RowKit Go.Proofs.YtaldfbmjmpkmmaaW.PrintWords Go.Proofs.YtaldfbmjmpkmmaaW.PrintLast Go.Proofs.YtaldfbmjmpkmmaaW.PrintMore Go.Shelf Go.Maps Go.WideMaps Go.Proofs.Ytaldfbmjmpkmmaa.Mk
set_option linter.unusedVariables false
set_option linter.unusedSimpArgs false
set_option linter.unusedSectionVars false
def standsV (s : Sh) (t : Int) : Int := if (stateV s t).1 = 1 ∨ (stateV s t).1 = 2 then 6 else if (stateV s t).1 = 3 then 120 else 0
def movedV (s : Sh) (r : Rec) : Bool := r.f7.any (fun k => decide (r.f2 < lastV (look s.K (kb k))))
def lockedV (s : Sh) (r : Rec) : Bool := r.f7.any (fun k => heldV s (kb k) false) || r.f8.any (fun w => heldV s (kb w.f0) true)
def voteV (s : Sh) (r : Rec) : Int :=
  if ¬ (r.f0 = 1 ∧ okR r = 0) then 80
  else if standsV s r.f1 ≠ 0 then standsV s r.f1
  else if r.f2 < s.over then 110
  else if movedV s r = true then 190
  else if lockedV s r = true then 180 else 0
theorem state_four (s : Sh) (t : Int) : (stateV s t).1 = 0 ∨ (stateV s t).1 = 1 ∨ (stateV s t).1 = 2 ∨ (stateV s t).1 = 3 := by
  rcases state_cases s t with ⟨_, e⟩ | ⟨_, ⟨_, e⟩ | ⟨x, _, ⟨_, e⟩ | ⟨_, e⟩⟩⟩ <;> rw [e] <;> simp
theorem typesV : ∀ q, q ∈ 29 :: k29.E → (q = 29 ∨ q = 9 ∨ q = 56) := by decide
theorem typesR : ∀ q, q ∈ k35.E → (q = 29 ∨ q = 9 ∨ q = 56) := by decide
set_option maxRecDepth 100000 in
theorem swept_walk {w : World} {ok : Nat → Prop} {b N : Nat} {s : Sh} (h : ShAt w ok b N s) :
    Calls Try.prog 25 #[.pointer (some ⟨b, 0, none⟩)] w fun e w' => e = .returned (.int .i64 s.over) ∧ Below w.heap.size w w' := by
  obtain ⟨bk, bp, ve, fk, fp, hp⟩ := h
  obtain ⟨-, -, -, c3⟩ := hp.cells
  clear hp
  go_enter Try.func25, Try.ntmps25
  go_wp2_with fail
  go_ret
  exact ⟨rfl, Below.refl _ _⟩
set_option maxRecDepth 100000 in
theorem stands_walk {w : World} {ok : Nat → Prop} {b N : Nat} {s : Sh} (h : ShAt w ok b N s) (t : Int) (ht : -9223372036854775808 ≤ t ∧ t ≤ 9223372036854775807) :
    Calls Try.prog 42 #[.pointer (some ⟨b, 0, none⟩), .int .i64 t] w fun e w' => e = .returned (.int .i64 (standsV s t)) ∧ Below w.heap.size w w' := by
  have HST := Aside0.mk (state_walk h t ht)
  have hv : standsV s t = if (stateV s t).1 = 1 ∨ (stateV s t).1 = 2 then 6 else if (stateV s t).1 = 3 then 120 else 0 := rfl
  have h4 := state_four s t
  clear h ht
  generalize standsV s t = sv at *
  generalize stateV s t = st at *
  obtain ⟨s1, s2⟩ := st
  go_enter Try.func42, Try.ntmps42
  go_wp2_with fail
  refine HST.out.mono ?_
  rintro e w1 ⟨rfl, hb⟩
  have HB := Aside0.mk hb
  clear hb HST
  try simp only at h4 hv
  rcases h4 with rfl | rfl | rfl | rfl
  · obtain rfl : sv = 0 := by simpa using hv
    clear hv
    go_wp2_with fail
    go_ret
    exact ⟨rfl, HB.out⟩
  · obtain rfl : sv = 6 := by simpa using hv
    clear hv
    go_wp2_with fail
    go_ret
    exact ⟨rfl, HB.out⟩
  · obtain rfl : sv = 6 := by simpa using hv
    clear hv
    go_wp2_with fail
    go_ret
    exact ⟨rfl, HB.out⟩
  · obtain rfl : sv = 120 := by simpa using hv
    clear hv
    go_wp2_with fail
    go_ret
    exact ⟨rfl, HB.out⟩
set_option maxRecDepth 100000 in
set_option maxHeartbeats 8000000 in
/-- A fork: a box, maps and a row of its own; what these lead to is shared. -/
theorem fork_walk {w : World} {ok : Nat → Prop} {b N : Nat} {s : Sh} (h : ShAt w ok b N s) :
    Calls Try.prog 17 #[.pointer (some ⟨b, 0, none⟩)] w fun e w' => ∃ b2 bk bp ve fk fp, e = .returned (.pointer (some ⟨b2, 0, none⟩)) ∧ Parts w' (fun g => ok g ∨ w.heap.size ≤ g) b2 N s bk bp ve fk fp ∧ w.heap.size ≤ b2 ∧ w.heap.size ≤ bk ∧ w.heap.size ≤ bp ∧ (∀ k, ve.ownBlock = some k → w.heap.size ≤ k) ∧ Below w.heap.size w w' := by
  obtain ⟨bk, bp, ve, fk, fp, hp⟩ := h
  obtain ⟨A, c, rfl, hle, hC⟩ := Kd.R_reads hp.ends
  have HP := Aside0.mk hp
  have hE : s.E.length ≤ 8192 := Nat.le_trans hp.good.ends (by decide)
  obtain ⟨c0, c1, c2, c3⟩ := hp.cells
  have HCE : Aside0 (∀ W, Below w.heap.size w W → Calls Try.prog 46 #[.slice A s.E.length c] W fun e w' => ∃ v, e = .returned v ∧ Kd.R kEnd 96 w' W.heap.size (fun _ => True) v s.E ∧ Below W.heap.size W w') := ⟨fun W hW => clone_end W A c s.E (Kd.C_below hC hW) hE⟩
  have HCK : Aside0 (∀ W, Below w.heap.size w W → Calls Try.prog 44 #[.map (some bk)] W fun e w' => e = .returned (.map (some W.heap.size)) ∧ MapL Try.prog 9 w' W.heap.size N fk ∧ MapL Try.prog 9 w' bk N fk ∧ Below W.heap.size W w') := ⟨fun W hW => MapL.clone Try.cloneK (hp.keys.below hW)⟩
  have HCP : Aside0 (∀ W, Below w.heap.size w W → Calls Try.prog 45 #[.map (some bp)] W fun e w' => e = .returned (.map (some W.heap.size)) ∧ MapL Try.prog 3 w' W.heap.size N fp ∧ MapL Try.prog 3 w' bp N fp ∧ Below W.heap.size W w') := ⟨fun W hW => MapL.clone Try.cloneP (hp.preps.below hW)⟩
  clear hp hC hle
  go_enter Try.func17, Try.ntmps17
  go_wp2_with fail
  go_region_held3 (fun w' => w'.cell? ⟨b, 0, none⟩ = some (.map (some bk)) ∧ w'.cell? ⟨b, 1, none⟩ = some (.map (some bp)) ∧ w'.cell? ⟨b, 2, none⟩ = some (.slice A s.E.length c) ∧ w'.cell? ⟨b, 3, none⟩ = some (.int .i64 s.over)) (first | exact ⟨c0, c1, c2, c3⟩ | exact ⟨d0, d1, d2, d3⟩ | exact ⟨e0, e1, e2, e3⟩ | exact ⟨f0, f1, f2, f3⟩ | exact ⟨pw_cell_below (below_alloc (Below.refl _ _) _) f0, pw_cell_below (below_alloc (Below.refl _ _) _) f1, pw_cell_below (below_alloc (Below.refl _ _) _) f2, pw_cell_below (below_alloc (Below.refl _ _) _) f3⟩)
    (first
      | (go_simp; go_at_call 46; refine (HCE.out _ (by repeat (first | exact HB2.out | apply below_drew1 | apply pw_below_drewN))).mono ?_; rintro e w3 ⟨v3, rfl, hv3, hb3⟩; obtain ⟨A9, c9, hs9⟩ := Kd.R_slice hv3; subst hs9; have HB3 : Aside0 (Below w.heap.size w w3) := ⟨(by repeat (first | exact HB2.out | apply below_drew1 | apply pw_below_drewN) : Below w.heap.size w _).trans (hb3.mono (by have := HB2.out.size; simpa using this))⟩; have HV3 : Aside0 (Kd.R kEnd 96 w3 w.heap.size (fun _ => True) (.slice A9 s.E.length c9) s.E) := ⟨Kd.R_lower hv3 (by have := HB2.out.size; simpa using this)⟩; have HK3 := Aside0.mk (HK2.out.below (by repeat (first | exact hb3 | exact (below_drew1 (Below.refl _ _)).trans hb3))); have HP3 := Aside0.mk (HP2.out.below (by repeat (first | exact hb3 | exact (below_drew1 (Below.refl _ _)).trans hb3))); obtain ⟨f0, f1, f2, f3⟩ := (HP.out.below HB3.out).cells; clear hv3 hb3)
      | (go_simp; go_at_call 45; refine (HCP.out _ (by repeat (first | exact HB1.out | apply below_drew1 | apply pw_below_drewN))).mono ?_; rintro e w2 ⟨rfl, hm2, -, hb2⟩; have HB2 : Aside0 (Below w.heap.size w w2) := ⟨(by repeat (first | exact HB1.out | apply below_drew1 | apply pw_below_drewN) : Below w.heap.size w _).trans (hb2.mono (by have := HB1.out.size; simpa using this))⟩; have HK2 := Aside0.mk (HK1.out.below (by repeat (first | exact hb2 | exact (below_drew1 (Below.refl _ _)).trans hb2))); have HP2 := Aside0.mk hm2; obtain ⟨e0, e1, e2, e3⟩ := (HP.out.below HB2.out).cells; clear hm2 hb2)
      | (go_simp; go_at_call 44; refine (HCK.out _ (by repeat (first | exact Below.refl _ _ | apply below_drew1 | apply pw_below_drewN))).mono ?_; rintro e w1 ⟨rfl, hm1, -, hb1⟩; have HB1 : Aside0 (Below w.heap.size w w1) := ⟨(by repeat (first | exact Below.refl _ _ | apply below_drew1 | apply pw_below_drewN) : Below w.heap.size w _).trans (hb1.mono (by simp))⟩; have HK1 := Aside0.mk hm1; obtain ⟨d0, d1, d2, d3⟩ := (HP.out.below HB1.out).cells; clear hm1 hb1))
  all_goals (try go_wp2_with fail)
  have hb4 : Below w3.heap.size w3 (w3.alloc (.cells #[.map (some w.heap.size), .map (some w1.heap.size), .slice A9 s.E.length c9, .int .i64 s.over] 78)) := below_alloc (Below.refl _ _) _
  have HB4 : Aside0 (Below w.heap.size w (w3.alloc (.cells #[.map (some w.heap.size), .map (some w1.heap.size), .slice A9 s.E.length c9, .int .i64 s.over] 78))) := ⟨HB3.out.trans (hb4.mono HB3.out.size)⟩
  have H1 : Aside0 (w.heap.size < w1.heap.size) := ⟨HK1.out.lt⟩
  have HX := Aside0.mk (blk_new w3 (.cells #[.map (some w.heap.size), .map (some w1.heap.size), .slice A9 s.E.length c9, .int .i64 s.over] 78))
  have HK4 := Aside0.mk (HK3.out.below hb4)
  have HP4 := Aside0.mk (HP3.out.below hb4)
  have HV4 := Aside0.mk (Kd.R_below HV3.out hb4)
  clear hb4
  go_ret
  refine ⟨w3.heap.size, w.heap.size, w1.heap.size, _, fk, fp, rfl, ⟨HX.out, HK4.out, HP4.out, Kd.R_lower (Kd.R_mono (Kd.R_bound HV4.out) (fun g hg => .inr hg.2.1)) (Nat.zero_le _), fun q v hq => ?_, HP.out.kt, fun q v hq => ?_, HP.out.pt, .inr HB3.out.size, .inr (Nat.le_refl _), .inr (Nat.le_of_lt H1.out), Nat.ne_of_lt H1.out, HP.out.good⟩, HB3.out.size, Nat.le_refl _, Nat.le_of_lt H1.out, fun k hk => (Kd.R_bound HV4.out).1 k hk |>.2.1, HB4.out⟩
  · obtain ⟨k, h1, h2, h3⟩ := HP.out.kf q v hq
    exact ⟨k, h1, h2, Kd.R_mono (Kd.R_below h3 HB4.out) (fun g hg => .inl hg)⟩
  · obtain ⟨r, h1, h2, cs, h3, h4⟩ := HP.out.pf q v hq
    exact ⟨r, h1, h2, cs, h3, k35.M_mono (fun g hg => .inl hg) (Kd.M_below h4 HB4.out)⟩
/-- A shelf whose box, maps and row of ended ones lie where nothing changes stays, too, where its chains and records are shared. -/
theorem Parts.shared {w w' : World} {ok ok' : Nat → Prop} {b N : Nat} {s : Sh} {bk bp : Nat} {ve : Value} {fk fp : Lit → Option Value} (h : Parts w ok b N s bk bp ve fk fp) (hc : Chg ok' w w') (hb : ¬ ok' b) (hk : ¬ ok' bk) (hp : ¬ ok' bp) (he : ∀ g, ve.ownBlock = some g → ¬ ok' g) : Parts w' ok b N s bk bp ve fk fp :=
  have hm : ∀ {k n : Nat} {x : Nat} {f : Lit → Option Value}, ¬ ok' x → MapL Try.prog k w x n f → MapL Try.prog k w' x n f := fun hx h => by
    have hl := h.lt
    obtain ⟨D, ⟨es, clock, h1, h2, h3, h4⟩, hh⟩ := h
    exact ⟨D, ⟨es, clock, (hc.block _ hl hx).trans h1, h2, h3, h4⟩, hh⟩
  have hs : ∀ (g q : Nat) (cells : Array Value), (q = 29 ∨ q = 9 ∨ q = 56) → w.heap[g]? = some (.cells cells q (0, 0)) → w'.heap[g]? = w.heap[g]? := fun g q cells hq hcl => by
    by_cases hg : ok' g
    · exact hc.still g hg q cells hq hcl
    · exact hc.block g (blk_lt hcl) hg
  ⟨(hc.block b (blk_lt h.box) hb).trans h.box, hm hk h.keys, hm hp h.preps, (by
    obtain ⟨h0, inner, ho, hr⟩ := h.ends
    exact ⟨h0, inner, own_move ho (fun k hk2 => hc.block k (own_lt ho k hk2) (he k hk2)), hr⟩), fun q v hq => by
    obtain ⟨k, h1, h2, h3⟩ := h.kf q v hq
    exact ⟨k, h1, h2, Kd.R_mono (Kd.R_move (Kd.R_bound h3) (fun g hg => by
      obtain ⟨_, _, _, q2, hq2, cells, hcl⟩ := hg
      exact hs g q2 cells (typesV q2 hq2) hcl)) (fun g hg => hg.1)⟩, h.kt, fun q v hq => by
    obtain ⟨r, h1, h2, cs, h3, h4⟩ := h.pf q v hq
    exact ⟨r, h1, h2, cs, h3, k35.M_mono (fun g hg => hg.1) (k35.M_move (fun g hg => by
      obtain ⟨_, _, _, q2, hq2, cells, hcl⟩ := hg
      exact hs g q2 cells (typesR q2 hq2) hcl) (k35.M_bound h4))⟩, h.pt, h.okb, h.okk, h.okp, h.ne, h.good⟩
end Go.Proofs.Ytaldfbmjmpkmmaa.PL
