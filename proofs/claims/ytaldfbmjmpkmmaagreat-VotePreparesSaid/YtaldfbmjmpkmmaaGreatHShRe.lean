/- A shelf in memory: the sorted keys of its chains; Records. -/
import Derived.Test.YtaldfbmjmpkmmaaGreatMcb215e
namespace Go.Proofs
open Go.RowKit Go.Maps Go.Sort Go.Shelf
theorem Tryz.sortsS (m : Nat) : AnyZ.SortsIn Tryz.prog Tryz.sortedS_ren Fence.wide m :=
 ⟨fun blk off cap ss W hH hblk hsz => callsIn_wide.2 (AnyM.slices_Sort_string Tryz.sortS blk off cap ss W hH hblk hsz),
  fun p cap W => callsIn_wide.2 (AnyM.slices_Sort_string_none Tryz.sortS p cap W)⟩
theorem Tryz.maps_KeysK (mb : Option Nat) (W : World) : CallsIn Fence.wide 5 Tryz.prog 30 #[.map mb] W fun e w' => e = .returned (.func (.func 67) #[] #[.pointer (some ⟨W.heap.size, 0, none⟩)]) ∧ w' = W.alloc (.cells #[.map mb] 65) :=
 AnyZ.keys_in Tryz.keysK Fence.wide 5 trivial rfl mb W
set_option maxHeartbeats 1000000 in
theorem Tryz.slices_Sorted_keysK {H : Type} (b nn : Nat) (D0 : DataW H) (R : Value → Option (DataW H × List MemPlace)) (w : World) (hown : w.ownsMap Tryz.prog 9 R b nn D0) (hmax : Maps.size D0 ≤ maxLen) (hbytes : Maps.size D0 * 16 ≤ 140737488355328) :
 CallsIn Fence.wide 5 Tryz.prog 29 #[.func (.func 67) #[] #[.pointer (some ⟨w.heap.size, 0, none⟩)]] (w.alloc (.cells #[.map (some b)] 65)) fun e w' => ∃ (v : Value) (ss : List (List UInt8)), e = .returned v ∧ ss.Perm (strKeys D0) ∧
  w'.ownsRow (w.alloc (.cells #[.map (some b)] 65)).heap.size 9 1 v ss.length ((ss.mergeSort (fun x y => decide (x ≤ y))).map encStr) ∧ (v = .slice none 0 0 ↔ ss = []) ∧ Below (w.alloc (.cells #[.map (some b)] 65)).heap.size (w.alloc (.cells #[.map (some b)] 65)) w' := by
 have hbl := hown.lt
 have hseq : SeqGives Fence.wide 2 Tryz.prog 67 #[.pointer (some ⟨w.heap.size, 0, none⟩)] encStr (fun ss => ss.Perm (strKeys D0)) (Maps.size D0) (w.alloc (.cells #[.map (some b)] 65)) :=
  AnyZ.keys_gives (ρ := Tryz.keysK_ren) { Tryz.keysK with } Fence.wide _ trivial rfl (by omega) w.heap.size b nn D0 _ (by simp) (by simp) (by
   obtain ⟨es, clock, hb, Ft, hs, hD⟩ := hown
   exact ⟨es, clock, (Below.heap_alloc _ _ b hbl).trans hb, Ft, hs, hD⟩)
 exact AnyZ.sorted_in Tryz.sortedS Fence.wide 5 trivial trivial trivial trivial rfl (by omega) (Tryz.sortsS _) (enters_of Tryz.func66 (by kernel_rfl) rfl) 67 #[.pointer (some ⟨w.heap.size, 0, none⟩)] trivial (enters_of Tryz.func67 (by kernel_rfl) rfl) _ _ hmax hbytes _ hseq
end Go.Proofs
namespace Go.Proofs.YtaldfbmjmpkmmaaGreat.PL
open Go.RowKit Go.Proofs.YtaldfbmjmpkmmaaGreatW.PrintWords Go.Proofs.YtaldfbmjmpkmmaaGreatW.PrintLast Go.Proofs.YtaldfbmjmpkmmaaGreatW.PrintMore Go.Sort Go.Shelf Go.Maps Go.WideMaps Go.Proofs.YtaldfbmjmpkmmaaGreat.Mk
set_option linter.unusedVariables false
set_option linter.unusedSimpArgs false
set_option linter.unusedSectionVars false
def bytesOfL (l : List Key) : List ByteArray := l.map (fun x => ⟨x.toArray⟩)
theorem R_strsO {w : World} {base : Nat} {v : Value} {rs : List ByteArray} (h : w.ownsRow base 9 1 v rs.length (rs.map Value.string)) : Kd.R Kd.string 9 w base (fun _ => True) v rs := by
 refine ⟨fun _ _ => trivial, rs.map Value.string, h, ?_, fun j p hj => ?_⟩
 ·show (rs.map Value.string).length = rs.length * 1
  simp
 ·obtain ⟨hl, hp⟩ := List.getElem?_eq_some_iff.1 hj
  show ((rs.map Value.string).drop (j * 1)).take 1 = [Value.string p]
  have hl' : j < (rs.map Value.string).length := by simpa using hl
  rw [Nat.mul_one, List.drop_eq_getElem_cons hl']
  simp [hp]
theorem sorted_rising {ss ks : List Key} (hp : ss.Perm ks) (hr : Rising ks) : ss.mergeSort (fun x y => decide (x ≤ y)) = ks := by
 have tr : ∀ a b c : Key, decide (a ≤ b) = true → decide (b ≤ c) = true → decide (a ≤ c) = true := fun a b c h1 h2 => by simp only [decide_eq_true_eq] at *; exact List.le_trans h1 h2
 have tl : ∀ a b : Key, (decide (a ≤ b) || decide (b ≤ a)) = true := fun a b => by simp only [Bool.or_eq_true, decide_eq_true_eq]; exact List.le_total a b
 have h1 : (ss.mergeSort (fun x y => decide (x ≤ y))).Pairwise (fun a b => a ≤ b) := (List.pairwise_mergeSort tr tl ss).imp (fun h => by simpa using h)
 have h2 : ks.Pairwise (fun a b => a ≤ b) := hr.imp (fun {a b} h => by
  rw [Go.Proofs.bytesLess_eq, decide_eq_true_eq] at h
  exact List.le_of_lt h)
 exact List.Perm.eq_of_pairwise (le := fun a b => a ≤ b) (fun x y _ _ h1 h2 => List.le_antisymm h1 h2) h1 h2 ((List.mergeSort_perm ss _).trans hp)
set_option maxHeartbeats 1000000 in
theorem sortedK_calls (w : World) (b N : Nat) (f : Lit → Option Value) (h : MapL Tryz.prog 9 w b N f) (hN : N ≤ 1000000) (ks : List Key) (hr : Rising ks) (hks : ∀ q, (f q).isSome = true ↔ q ∈ ks.map sk) :
 Calls Tryz.prog 29 #[.func (.func 67) #[] #[.pointer (some ⟨w.heap.size, 0, none⟩)]] (w.alloc (.cells #[.map (some b)] 65)) fun e w' => ∃ v, e = .returned v ∧
  Kd.R Kd.string 9 w' w.heap.size (fun _ => True) v (bytesOfL ks) ∧ Below w.heap.size w w' := by
 obtain ⟨D, hown, hhas, hat⟩ := h
 have hsz := hown.size_le
 have hmax : Maps.size D ≤ maxLen := Nat.le_trans hsz (Nat.le_trans hN (by unfold maxLen; decide))
 refine ((callsIn_wide (n := 5)).1 (Tryz.slices_Sorted_keysK b N D Rv w hown hmax (by omega))).mono ?_
 rintro e w' ⟨v, ss, rfl, hS, hrow, _, hb⟩
 obtain ⟨es, hD, hpw, _⟩ := hown.entries keyedS
 obtain ⟨es', hD', hko⟩ := hown.keysOf
 obtain rfl : es = es' := by rw [hD] at hD'; simpa using hD'
 subst hD
 have hk : ∀ p ∈ es, ∃ x, p.1 = .string x := fun p hp => by obtain ⟨v, hv⟩ := hko p hp; obtain ⟨x, _, hx, _⟩ := Maps.keyOf_str Tryz.underlying9 hv; exact ⟨x, hx⟩
 have hmem : ∀ x, x ∈ strKeys (.map es) ↔ Maps.has (.map es) (.string x) = true := by
  intro x
  rw [has_eq, List.any_eq_true]
  show x ∈ es.map (fun p => strOf p.1) ↔ _
  rw [List.mem_map]
  constructor
  ·rintro ⟨p, hp', rfl⟩
   obtain ⟨a, ha⟩ := hk p hp'
   exact ⟨p, hp', by rw [ha]; simp [Lit.sameKey, strOf]⟩
  ·rintro ⟨p, hp', hs⟩
   obtain ⟨a, ha⟩ := hk p hp'
   rw [ha] at hs
   exact ⟨p, hp', by rw [ha]; simpa [Lit.sameKey, strOf] using hs⟩
 have hnd : (strKeys (.map es)).Nodup := by
  show (es.map fun p => strOf p.1).Nodup
  refine List.pairwise_map.2 (hpw.imp_of_mem fun {p q} hp' hq' hne e => hne ?_)
  obtain ⟨a, ha⟩ := hk p hp'
  obtain ⟨b, hb⟩ := hk q hq'
  rw [ha, hb] at e ⊢
  exact congrArg _ e
 have hperm : ss.Perm ks := hS.trans ((List.perm_ext_iff_of_nodup hnd hr.nodup).2 (fun x => by
  rw [hmem, hhas, hks, List.mem_map]
  constructor
  ·rintro ⟨y, hy, e⟩
   unfold sk at e
   injection e with e
   rw [← e]
   exact hy
  ·exact fun hx => ⟨x, hx, rfl⟩))
 have hss := sorted_rising hperm hr
 have hl : ss.length = (bytesOfL ks).length := by rw [hperm.length_eq]; simp [bytesOfL]
 rw [hss] at hrow
 have henc : ks.map encStr = (bytesOfL ks).map Value.string := by
  unfold bytesOfL
  rw [List.map_map]
  rfl
 rw [henc, hl] at hrow
 exact ⟨v, rfl, R_strsO (ownsRow_lower hrow (by simp)), ((Below.refl _ w).alloc (Nat.le_refl _) _).trans (hb.mono (by simp))⟩
theorem infoRec : (Tryz.prog.info? 26).map (fun i => (i.zero, i.size, i.bytes)) = some (some (.agg #[.int .i64 0, .int .i64 0, .int .i64 0, .int .i64 0, .string ⟨#[]⟩, .string ⟨#[]⟩, .bool false, .slice none 0 0, .slice none 0 0]), 9, 120) := by kernel_rfl
theorem bare_M (w : World) (base : Nat) (r : Rec) (h7 : r.f7 = []) (h8 : r.f8 = []) : k26.M w base (fun _ => False) r [.int .i64 r.f0, .int .i64 r.f1, .int .i64 r.f2, .int .i64 r.f3, .string r.f4, .string r.f5, .bool r.f6, .slice none 0 0, .slice none 0 0] :=
 k26_mkM w base _ r (by rw [h7]; exact ⟨fun k hk => by simp [Value.ownBlock] at hk, OwnRow.none_ _ _ _ _ _⟩) (by rw [h8]; exact ⟨fun k hk => by simp [Value.ownBlock] at hk, OwnRow.none_ _ _ _ _ _⟩)
theorem size_alloc1 (w : World) (o : Obj) : (w.alloc o).heap.size = w.heap.size + 1 := by simp
theorem recsK_take (K : List (Key × Chain)) (k : Nat) (hk : k < K.length) : recsK (K.take (k + 1)) = recsK (K.take k) ++ (K[k]).2.map (verR (K[k]).1) := by
 rw [List.take_succ_eq_append_getElem hk]
 unfold recsK
 rw [List.flatMap_append]
 simp
theorem recsK_pre {s : Sh} (h : ShOk s) (k : Nat) : (recsK (s.K.take k)).length ≤ 1024 * 1024 := by
 have h1 := recsK_len (K := s.K.take k) (fun p hp => (h.keys.chain p (List.mem_of_mem_take hp)).2.len)
 have h2 := h.keys.few
 have h3 : (s.K.take k).length ≤ s.K.length := by rw [List.length_take]; omega
 omega
set_option maxRecDepth 100000 in
set_option maxHeartbeats 16000000 in
theorem records_walk {w : World} {ok : Nat → Prop} {b N : Nat} {s : Sh} (h : ShAt w ok b N s) (hN : N ≤ 1000000) (hkk : ∀ k ∈ keysK s.K, keyB ⟨k.toArray⟩ = true) :
 Calls Tryz.prog 9 #[.pointer (some ⟨b, 0, none⟩)] w fun e w' => ∃ v, e = .returned v ∧ Kd.R k26 26 w' w.heap.size (fun _ => True) v (recsV s) ∧ Below w.heap.size w w' := by
 obtain ⟨bk, bp, ve, fk, fp, hp⟩ := h
 have HP := Aside0.mk hp
 have HKK := Aside0.mk hkk
 have HNN := Aside0.mk hN
 obtain ⟨c0, c1, c2, c3⟩ := hp.cells
 obtain ⟨pre, hpre⟩ : ∃ pre, pre = (if 0 < s.over then [sweepR s.over] else []) := ⟨_, rfl⟩
 have HPRE := Aside0.mk hpre
 have hpl : pre.length ≤ 1 := by rw [hpre]; split <;> simp
 have HPL := Aside0.mk hpl
 clear hp hkk hN hpre hpl
 go_enter Tryz.func9, Tryz.ntmps9
 go_upto_if 16 with (fail)
 go_cut [3] (fun v wc => Aside0 (Kd.R k26 26 wc w.heap.size (fun _ => True) v pre ∧ Below w.heap.size w wc))
 case first =>
  have HLN : Aside0 (([] : List Rec).length ≤ 2000000) := ⟨by simp⟩
  by_cases ho : 0 < s.over
  ·have d0 : decide (0 < s.over) = true := decide_eq_true ho
   have HE : Aside0 (pre = [] ++ [sweepR s.over]) := ⟨by rw [HPRE.out, if_pos ho]; rfl⟩
   go_wp2_with (at_builtin; go_loud (refine Kd.R_append k26 (w0 := w) w.heap.size rfl (.tmp 17) (.tmp 23) 22 26 _ 120 rfl Tryz.underlying22 infoRec rfl (by decide) (by omega) (.slice none 0 0) [] (sweepR s.over) [.int .i64 4, .int .i64 0, .int .i64 s.over, .int .i64 0, .string ⟨#[]⟩, .string ⟨#[]⟩, .bool false, .slice none 0 0, .slice none 0 0] (fun _ => True) (fun _ => False) rfl rfl (bare_M w w.heap.size (sweepR s.over) rfl rfl) (fun _ hk => hk.elim) (fun _ _ => trivial) (Kd.R_nil k26 26 w w.heap.size (fun _ => True)) (Below.refl w.heap.size w) (Nat.le_refl _) (by simp) ?_); intro v1 w1 ho hb hg hat; have HO1 := Aside0.mk ho; have HB1 := Aside0.mk hb; have HG1 := Aside0.mk hg; clear ho hb hg hat)
   go_meet
   case rel => exact ⟨by rw [HE.out]; exact HO1.out, HB1.out⟩
  ·have d0 : decide (0 < s.over) = false := decide_eq_false ho
   have HE : Aside0 (pre = []) := ⟨by rw [HPRE.out, if_neg ho]⟩
   go_wp2_with fail
   go_meet
   case rel => exact ⟨by rw [HE.out]; exact Kd.R_nil _ _ _ _ _, Below.refl _ _⟩
 case rest =>
  obtain ⟨HO0, HB0⟩ := hcut.out
  have HOC := Aside0.mk HO0
  have HBC := Aside0.mk HB0
  have HPC := Aside0.mk (HP.out.below (HB0.mono (Nat.le_refl _)))
  have hkf := HP.out.good.keys.few
  clear hcut HO0 HB0 c0 c1 c2 c3
  obtain ⟨c0, c1, c2, c3⟩ := HPC.out.cells
  have HKY := Aside0.mk ((callsIn_wide (n := 5)).1 (Tryz.maps_KeysK (some bk) wc))
  have HSO := Aside0.mk (sortedK_calls wc bk N fk HPC.out.keys HNN.out (keysK s.K) HP.out.good.keys.rise (fun q => HPC.out.keys_iff q))
  obtain ⟨A0, q0, hs0⟩ := Kd.R_slice HOC.out
  subst hs0
  go_wp2_with fail
  refine HKY.out.mono ?_
  rintro e w1 ⟨rfl, rfl⟩
  go_wp2_with fail
  refine HSO.out.mono ?_
  rintro e w2 ⟨vk, rfl, hR, hb2⟩
  obtain ⟨AK, cK, rfl⟩ := Kd.R_slice hR
  have hlen : (bytesOfL (keysK s.K)).length = s.K.length := by simp [bytesOfL, keysK]
  rw [hlen] at hR ⊢
  have HB2 : Aside0 (Below w.heap.size w w2) := ⟨HBC.out.trans (hb2.mono HBC.out.size)⟩
  have HO2 := Aside0.mk (Kd.R_below HOC.out hb2)
  have HRK2 := Aside0.mk (Kd.R_lower hR (Nat.zero_le _))
  clear hR hb2 HKY HSO hlen c0 c1 c2 c3 HPC HOC HBC
  go_wp2_with fail
  go_loopw [32, 3] (fun i vo wz => ∃ k : Nat, k ≤ s.K.length ∧ i = .int .i64 (k : Int) ∧ Aside0 (Kd.R k26 26 wz w.heap.size (fun _ => True) vo (pre ++ recsK (s.K.take k))) ∧ Aside0 (Below w.heap.size w wz) ∧ Aside0 (Kd.R Kd.string 9 wz 0 (fun _ => True) (.slice AK s.K.length cK) (bytesOfL (keysK s.K)))) (fun i _ _ => s.K.length - (intOf i).toNat)
  case atStart => exact ⟨0, Nat.zero_le _, rfl, ⟨by simpa [recsK] using HO2.out⟩, HB2, HRK2⟩
  case round =>
   clear HO2 HB2 HRK2
   obtain ⟨k, hk, rfl, HO, HB, HRK⟩ := hrel
   by_cases hlt : k < s.K.length
   ·obtain ⟨A', c', he, hle', hC'⟩ := Kd.R_reads HRK.out
    injection he with e1 e2 e3
    subst e1 e3
    clear e2
    have hlen : (bytesOfL (keysK s.K)).length = s.K.length := by simp [bytesOfL, keysK]
    obtain ⟨ad, cs, rfl, hl9, hK, hc0⟩ := Kd.C_get hC' (⟨#[]⟩ : ByteArray) (k : Int) (by omega) (by omega)
    rw [Int.toNat_natCast] at hK hc0
    have hc : ∀ i u, cs[i]? = some u → wr.cell? (ad.add (k * 1 + i)) = some u := hc0
    obtain rfl := strK_open hK
    have hget : (bytesOfL (keysK s.K)).getD k (⟨#[]⟩ : ByteArray) = ⟨(s.K[k]).1.toArray⟩ := by
     unfold bytesOfL keysK
     rw [List.getD_eq_getElem?_getD, List.getElem?_map, List.getElem?_map, List.getElem?_eq_getElem hlt]
     rfl
    have z0 : wr.cell? (ad.add k) = some (.string ⟨(s.K[k]).1.toArray⟩) := by have := hc 0 _ rfl; rw [hget] at this; simpa using this
    have hm : s.K[k] ∈ s.K := List.getElem_mem hlt
    have hlook := look_of_mem HP.out.good.keys.rise (q := (s.K[k]).1) (c := (s.K[k]).2) hm
    have hkb := HKK.out (s.K[k]).1 (List.mem_map.2 ⟨_, hm, rfl⟩)
    have hks : (⟨(s.K[k]).1.toArray⟩ : ByteArray).size ≤ maxLen := Nat.le_trans (key_size hkb) (by decide)
    have hkk : kb ⟨(s.K[k]).1.toArray⟩ = (s.K[k]).1 := by simp [kb]
    have hpc := HP.out.below (HB.out.mono (Nat.le_refl _))
    obtain ⟨A2, ca, hv, hle, hC⟩ := HP.out.chain (s.K[k]).1
    rw [hlook] at hv hle hC
    have hc1024 := (HP.out.good.keys.chain _ hm).2.len
    have HTK := Aside0.mk (recsK_take s.K k hlt)
    have HLP := Aside0.mk (recsK_pre HP.out.good k)
    have HCH := Aside0.mk hC
    have HLE := Aside0.mk hle
    have HV : Aside0 ((fk (sk (kb ⟨(s.K[k]).1.toArray⟩))).getD (.slice none 0 0) = .slice A2 (s.K[k]).2.length ca) := ⟨by rw [hkk]; exact hv⟩
    have HKM := Aside0.mk (key_sk hks)
    have HPC := Aside0.mk hpc
    obtain ⟨c0, c1, c2, c3⟩ := hpc.cells
    obtain ⟨A3, n3, q3, hs3⟩ : ∃ A n c, u3 = .slice A n c := by (obtain ⟨A, c, e⟩ := Kd.R_slice HO.out); exact ⟨A, _, c, e⟩
    subst hs3
    clear hlook hkb hks hkk hpc hv hle hC hm hget hc hc0 hK hl9 hlen hC' hle'
    generalize hKe : s.K[k] = kc at *
    have HKE := Aside0.mk hKe
    clear hKe
    go_wp2_with (at_lookup; refine MapL.at_ HPC.out.keys keyedS rfl _ _ 65 74 rfl Tryz.underlying65 (zeroC _) rfl rfl HKM.out ?_; rw [HV.out])
    obtain ⟨⟩ : True := trivial
    go_loopw [43, 3] (fun j vo wz => ∃ j' : Nat, j' ≤ kc.2.length ∧ j = .int .i64 (j' : Int) ∧ Aside0 (Kd.R k26 26 wz w.heap.size (fun _ => True) vo (pre ++ (recsK (s.K.take k) ++ (kc.2.take j').map (verR kc.1)))) ∧ Aside0 (Below w.heap.size w wz) ∧ Aside0 (Kd.R Kd.string 9 wz 0 (fun _ => True) (.slice (some ad) s.K.length cK) (bytesOfL (keysK s.K)))) (fun j _ _ => kc.2.length - (intOf j).toNat)
    case atStart => exact ⟨0, Nat.zero_le _, rfl, ⟨by simpa using HO.out⟩, HB, HRK⟩
    case round =>
     clear HO HB HRK c0 c1 c2 c3 HPC z0
     obtain ⟨j, hj, rfl, HO, HB, HRK⟩ := hrel
     by_cases hjl : j < kc.2.length
     ·obtain ⟨ad2, cs, rfl, hl9, hK, hc0⟩ := Kd.C_get (Kd.C_below HCH.out (HB.out.mono (Nat.le_refl _))) zVer (j : Int) (by omega) (by omega)
      rw [Int.toNat_natCast] at hK hc0
      have hc : ∀ i u, cs[i]? = some u → wr.cell? (ad2.add (j * 3 + i)) = some u := hc0
      obtain rfl := k43_open hK
      have z0 : wr.cell? (ad2.add (j * 3)) = some (.int .i64 (kc.2.getD j zVer).f0) := hc 0 _ rfl
      have z1 : wr.cell? ⟨(ad2.add (j * 3)).block, (ad2.add (j * 3)).off + 1, none⟩ = some (.string (kc.2.getD j zVer).f1) := by rw [← add_field _ _ 1 (by omega)]; exact hc 1 _ rfl
      have z2 : wr.cell? ⟨(ad2.add (j * 3)).block, (ad2.add (j * 3)).off + 2, none⟩ = some (.bool (kc.2.getD j zVer).f2) := by rw [← add_field _ _ 2 (by omega)]; exact hc 2 _ rfl
      have hgv : kc.2.getD j zVer = kc.2[j] := by simp [List.getElem?_eq_getElem hjl]
      have HTJ : Aside0 ((kc.2.take (j + 1)).map (verR kc.1) = (kc.2.take j).map (verR kc.1) ++ [verR kc.1 (kc.2.getD j zVer)]) := ⟨by rw [List.take_succ_eq_append_getElem hjl, hgv, List.map_append]; rfl⟩
      have HLN : Aside0 ((pre ++ (recsK (s.K.take k) ++ (kc.2.take j).map (verR kc.1))).length ≤ 2000000) := ⟨by
       have h1 := HPL.out
       have h2 := HLP.out
       rw [List.length_append, List.length_append, List.length_map, List.length_take]
       omega⟩
      generalize kc.2.getD j zVer = v at *
      obtain ⟨A3, n3, q3, hs3⟩ : ∃ A n c, u3 = .slice A n c := by (obtain ⟨A, c, e⟩ := Kd.R_slice HO.out); exact ⟨A, _, c, e⟩
      subst hs3
      clear hc hc0 hK hl9 hgv
      go_wp2_with (at_builtin; go_loud (refine Kd.R_append k26 (w0 := w) w.heap.size rfl (.tmp 47) (.tmp 56) 22 26 _ 120 rfl Tryz.underlying22 infoRec rfl (by decide) (by omega) _ (pre ++ (recsK (s.K.take k) ++ (kc.2.take j).map (verR kc.1))) (verR kc.1 v) [.int .i64 3, .int .i64 0, .int .i64 v.f0, .int .i64 0, .string ⟨kc.1.toArray⟩, .string v.f1, .bool v.f2, .slice none 0 0, .slice none 0 0] (fun _ => True) (fun _ => False) rfl (by rw [size_alloc1]; rfl) (bare_M _ _ (verR kc.1 v) rfl rfl) (fun _ hk => hk.elim) (fun _ _ => trivial) (Kd.R_alloc HO.out _) (below_alloc HB.out _) (below_alloc HB.out _).size (by have := HLN.out; omega) ?_); intro v1 w1 ho hb hg hat; have HO1 := Aside0.mk ho; have HB1 := Aside0.mk hb; have HG1 := Aside0.mk hg; clear ho hb hg hat)
      have HRK1 := Aside0.mk (Kd.R_over' (Kd.R_alloc HRK.out _) (Kd.R_typed (Kd.R_alloc HO.out _)) (by decide) HG1.out)
      go_roundw
      case rel => exact ⟨j + 1, by omega, by go_num, ⟨by rw [HTJ.out, ← List.append_assoc (recsK _), ← List.append_assoc pre]; exact HO1.out⟩, HB1, HRK1⟩
      case measure => simp [intOf]; omega
     ·obtain rfl : j = kc.2.length := by omega
      go_wp2_with fail
      go_roundw
      case rel => exact ⟨k + 1, by omega, by go_num, ⟨by rw [HTK.out]; have := HO.out; rw [List.take_length] at this; exact this⟩, HB, HRK⟩
      case measure => simp [intOf]; omega
   ·obtain rfl : k = s.K.length := by omega
    have hpc := HP.out.below (HB.out.mono (Nat.le_refl _))
    obtain ⟨c0, c1, c2, c3⟩ := hpc.cells
    obtain ⟨AE, cE, rfl, hlE, hCE⟩ := Kd.R_reads HP.out.ends
    have HCE := Aside0.mk hCE
    have hle1025 := HP.out.good.ends
    have HLP : Aside0 ((recsK s.K).length ≤ 1024 * 1024) := ⟨by have := recsK_pre HP.out.good s.K.length; rwa [List.take_length] at this⟩
    have HOA : Aside0 (Kd.R k26 26 wr w.heap.size (fun _ => True) u3 (pre ++ recsK s.K)) := ⟨by have := HO.out; rwa [List.take_length] at this⟩
    clear hpc hlE hCE HO HRK hlt
    go_wp2_with fail
    go_loopw [65, 3] (fun i vo wz => ∃ k : Nat, k ≤ s.E.length ∧ i = .int .i64 (k : Int) ∧ Aside0 (Kd.R k26 26 wz w.heap.size (fun _ => True) vo (pre ++ (recsK s.K ++ (s.E.take k).map doR))) ∧ Aside0 (Below w.heap.size w wz)) (fun i _ _ => s.E.length - (intOf i).toNat)
    case atStart => exact ⟨0, Nat.zero_le _, rfl, ⟨by simpa using HOA.out⟩, HB⟩
    case round =>
     clear HOA HB c0 c1 c2 c3
     obtain ⟨k, hk, rfl, HO, HB⟩ := hrel
     by_cases hlt : k < s.E.length
     ·obtain ⟨ad2, cs, rfl, hl9, hK, hc0⟩ := Kd.C_get (Kd.C_below HCE.out (HB.out.mono (Nat.le_refl _))) ((0, 0) : Int × Int) (k : Int) (by omega) (by omega)
      rw [Int.toNat_natCast] at hK hc0
      have hc : ∀ i u, cs[i]? = some u → wr.cell? (ad2.add (k * 2 + i)) = some u := hc0
      obtain rfl := kEnd_open hK
      have z0 : wr.cell? (ad2.add (k * 2)) = some (.int .i64 (s.E.getD k (0, 0)).1) := hc 0 _ rfl
      have z1 : wr.cell? ⟨(ad2.add (k * 2)).block, (ad2.add (k * 2)).off + 1, none⟩ = some (.int .i64 (s.E.getD k (0, 0)).2) := by rw [← add_field _ _ 1 (by omega)]; exact hc 1 _ rfl
      have hgv : s.E.getD k (0, 0) = s.E[k] := by simp [List.getElem?_eq_getElem hlt]
      have HTJ : Aside0 ((s.E.take (k + 1)).map doR = (s.E.take k).map doR ++ [doR (s.E.getD k (0, 0))]) := ⟨by rw [List.take_succ_eq_append_getElem hlt, hgv, List.map_append]; rfl⟩
      have HLN : Aside0 ((pre ++ (recsK s.K ++ (s.E.take k).map doR)).length ≤ 2000000) := ⟨by
       have h1 := HPL.out
       have h2 := HLP.out
       rw [List.length_append, List.length_append, List.length_map, List.length_take]
       omega⟩
      generalize s.E.getD k (0, 0) = x at *
      obtain ⟨A3, n3, q3, hs3⟩ : ∃ A n c, u3 = .slice A n c := by (obtain ⟨A, c, e⟩ := Kd.R_slice HO.out); exact ⟨A, _, c, e⟩
      subst hs3
      clear hc hc0 hK hl9 hgv
      go_wp2_with (at_builtin; go_loud (refine Kd.R_append k26 (w0 := w) w.heap.size rfl (.tmp 69) (.tmp 75) 22 26 _ 120 rfl Tryz.underlying22 infoRec rfl (by decide) (by omega) _ (pre ++ (recsK s.K ++ (s.E.take k).map doR)) (doR x) [.int .i64 2, .int .i64 x.1, .int .i64 x.2, .int .i64 0, .string ⟨#[]⟩, .string ⟨#[]⟩, .bool false, .slice none 0 0, .slice none 0 0] (fun _ => True) (fun _ => False) rfl (by rw [size_alloc1]; rfl) (bare_M _ _ (doR x) rfl rfl) (fun _ hk => hk.elim) (fun _ _ => trivial) (Kd.R_alloc HO.out _) (below_alloc HB.out _) (below_alloc HB.out _).size (by have := HLN.out; omega) ?_); intro v1 w1 ho hb hg hat; have HO1 := Aside0.mk ho; have HB1 := Aside0.mk hb; have HG1 := Aside0.mk hg; clear ho hb hg hat)
      go_roundw
      case rel => exact ⟨k + 1, by omega, by go_num, ⟨by rw [HTJ.out, ← List.append_assoc (recsK _), ← List.append_assoc pre]; exact HO1.out⟩, HB1⟩
      case measure => simp [intOf]; omega
     ·obtain rfl : k = s.E.length := by omega
      have HOA : Aside0 (Kd.R k26 26 wr w.heap.size (fun _ => True) u3 (pre ++ (recsK s.K ++ s.E.map doR))) := ⟨by have := HO.out; rwa [List.take_length] at this⟩
      have HOP := Aside0.mk (open_walk (w := wr) ⟨bk, bp, _, fk, fp, HP.out.below (HB.out.mono (Nat.le_refl _))⟩ HNN.out)
      clear HO hlt
      go_wp2_with fail
      refine HOP.out.mono ?_
      rintro e w2 ⟨vk, rfl, hR, hb2⟩
      obtain ⟨AO, cO, rfl⟩ := Kd.R_slice hR
      have hlen : (openV s).length = s.P.length := List.length_map ..
      rw [hlen] at hR ⊢
      have HB2 : Aside0 (Below w.heap.size w w2) := ⟨HB.out.trans (hb2.mono HB.out.size)⟩
      have HO2 := Aside0.mk (Kd.R_below HOA.out hb2)
      have HRK2 := Aside0.mk (Kd.R_lower hR (Nat.zero_le _))
      have hfewP := HP.out.good.few
      clear hR hb2 HOP hlen HOA HB
      go_wp2_with fail
      go_loopw [81, 3] (fun i vo wz => ∃ k : Nat, k ≤ s.P.length ∧ i = .int .i64 (k : Int) ∧ Aside0 (Kd.R k26 26 wz w.heap.size (fun _ => True) vo (pre ++ (recsK s.K ++ (s.E.map doR ++ s.P.take k)))) ∧ Aside0 (Below w.heap.size w wz) ∧ Aside0 (Kd.R (Kd.int .i64) 3 wz 0 (fun _ => True) (.slice AO s.P.length cO) (openV s))) (fun i _ _ => s.P.length - (intOf i).toNat)
      case atStart => exact ⟨0, Nat.zero_le _, rfl, ⟨by simpa using HO2.out⟩, HB2, HRK2⟩
      case round =>
       clear HO2 HB2 HRK2
       obtain ⟨k, hk, rfl, HO, HB, HRK⟩ := hrel
       by_cases hlt : k < s.P.length
       ·obtain ⟨A', c', he, hle', hC'⟩ := Kd.R_reads HRK.out
        injection he with e1 e2 e3
        subst e1
        clear e2 e3
        obtain ⟨ad3, rfl, hci⟩ := Kd.at_int hC' (k : Int) (by omega) (by rw [show (openV s).length = s.P.length from List.length_map ..]; omega)
        rw [Int.toNat_natCast] at hci
        have hrd : Go.Proofs.YtaldfbmjmpkmmaaGreatW.PrintWords.rd (openV s) (k : Int) = (s.P[k]).f1 := by
         unfold Go.Proofs.YtaldfbmjmpkmmaaGreatW.PrintWords.rd openV
         rw [Int.toNat_natCast, List.getD_eq_getElem?_getD, List.getElem?_map, List.getElem?_eq_getElem hlt]
         rfl
        rw [hrd] at hci
        have hmem : s.P[k] ∈ s.P := List.getElem_mem hlt
        have HTP : Aside0 (s.P.take (k + 1) = s.P.take k ++ [s.P[k]]) := ⟨List.take_succ_eq_append_getElem hlt⟩
        have HLN : Aside0 ((pre ++ (recsK s.K ++ (s.E.map doR ++ s.P.take k))).length ≤ 2000000) := ⟨by
         have h1 := HPL.out
         have h2 := HLP.out
         rw [List.length_append, List.length_append, List.length_append, List.length_map, List.length_take]
         omega⟩
        generalize s.P[k] = r at *
        have hpc := HP.out.below (HB.out.mono (Nat.le_refl _))
        obtain ⟨v7, v8, hfv, h7, h8⟩ := hpc.prep_rec r hmem
        obtain ⟨B7, d7, rfl, l7, g7⟩ := Kd.R_reads h7
        obtain ⟨B8, d8, rfl, l8, g8⟩ := Kd.R_reads h8
        have hla := prep_lists (HP.out.good.recs r hmem).1 (HP.out.good.recs r hmem).2
        have hrg := (okR_all (HP.out.good.recs r hmem).2).1
        have HV : Aside0 ((fp (ik r.f1)).getD (.agg #[.int .i64 0, .int .i64 0, .int .i64 0, .int .i64 0, .string ⟨#[]⟩, .string ⟨#[]⟩, .bool false, .slice none 0 0, .slice none 0 0]) = .agg #[.int .i64 r.f0, .int .i64 r.f1, .int .i64 r.f2, .int .i64 r.f3, .string r.f4, .string r.f5, .bool r.f6, .slice B7 r.f7.length d7, .slice B8 r.f8.length d8]) := ⟨by rw [hfv]; rfl⟩
        have HKI := Aside0.mk (key_ik (t := r.f1) (by omega))
        have HCP := Aside0.mk (copied_walk wr r _ (k26_mk wr r l7 g7 l8 g8) (by have := hla.1.few7; omega) (by have := hla.1.few8; omega))
        have HPC := Aside0.mk hpc
        obtain ⟨c0, c1, c2, c3⟩ := hpc.cells
        obtain ⟨A3, n3, q3, hs3⟩ : ∃ A n c, u3 = .slice A n c := by (obtain ⟨A, c, e⟩ := Kd.R_slice HO.out); exact ⟨A, _, c, e⟩
        subst hs3
        have HFL := Aside0.mk (Kd.R_lt HO.out)
        clear hfv h7 h8 l7 g7 l8 g8 hla hrg hpc hC' hle' hmem hrd
        go_wp2_with (at_lookup; refine MapL.at_ HPC.out.preps keyedI rfl _ _ 66 26 rfl Tryz.underlying66 (zeroR _) rfl rfl HKI.out ?_; rw [HV.out])
        refine HCP.out.mono ?_
        rintro e w5 ⟨cs', rfl, hM, hb5⟩
        have HM := Aside0.mk (k26.M_lower HB.out.size (k26.M_mono (fun q hq => hq.2.1) (k26.M_bound hM)))
        have HFR : Aside0 (∀ q, wr.heap.size ≤ q → some q ≠ (Value.slice A3 n3 q3).ownBlock) := ⟨fun q hq e => by have := HFL.out q e.symm; omega⟩
        have HO5 := Aside0.mk (Kd.R_below HO.out hb5)
        have HB5 : Aside0 (Below w.heap.size w w5) := ⟨HB.out.trans (hb5.mono HB.out.size)⟩
        have HRK5 := Aside0.mk (Kd.R_below HRK.out hb5)
        obtain ⟨x7, x8, rfl, -, -⟩ := k26_openM hM
        clear hM hb5 HCP c0 c1 c2 c3 hci
        go_wp2_with (at_builtin; go_loud (refine Kd.R_append k26 (w0 := w) w.heap.size rfl (.tmp 85) (.tmp 93) 22 26 _ 120 rfl Tryz.underlying22 infoRec rfl (by decide) (by omega) _ (pre ++ (recsK s.K ++ (s.E.map doR ++ s.P.take k))) r _ (fun _ => True) (fun q => wr.heap.size ≤ q) rfl rfl HM.out (fun q hq => ⟨trivial, HFR.out q hq⟩) (fun _ _ => trivial) HO5.out HB5.out HB5.out.size (by have := HLN.out; omega) ?_); intro v1 w1 ho hb hg hat; have HO1 := Aside0.mk ho; have HB1 := Aside0.mk hb; have HG1 := Aside0.mk hg; clear ho hb hg hat)
        have HRK1 := Aside0.mk (Kd.R_over' HRK5.out (Kd.R_typed HO5.out) (by decide) HG1.out)
        go_roundw
        case rel => exact ⟨k + 1, by omega, by go_num, ⟨by rw [HTP.out, ← List.append_assoc (s.E.map doR), ← List.append_assoc (recsK _), ← List.append_assoc pre]; exact HO1.out⟩, HB1, HRK1⟩
        case measure => simp [intOf]; omega
       ·obtain rfl : k = s.P.length := by omega
        have HEND : Aside0 (Kd.R k26 26 wr w.heap.size (fun _ => True) u3 (recsV s)) := ⟨by
         have := HO.out
         rw [List.take_length, HPRE.out] at this
         exact this⟩
        clear HO
        go_wp2
        go_ret
        exact ⟨_, rfl, HEND.out, HB.out⟩
end Go.Proofs.YtaldfbmjmpkmmaaGreat.PL
