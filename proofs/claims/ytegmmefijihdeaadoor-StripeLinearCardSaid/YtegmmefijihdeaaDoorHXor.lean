/- Two texts' sum: the law's xor, walked. -/
import Derived.Test.YtegmmefijihdeaaDoorHCode
namespace Go.Proofs.YtegmmefijihdeaaDoor.PS
open Go.RowKit Go.Proofs.YtegmmefijihdeaaDoorW.PrintWords Go.Proofs.YtegmmefijihdeaaDoorW.PrintLast Go.Proofs.YtegmmefijihdeaaDoorW.PrintMore Go.Proofs.YtegmmefijihdeaaDoor.Gf Go.Proofs.YtegmmefijihdeaaDoor.Fld Go.Proofs.YtegmmefijihdeaaDoor.Rowb
set_option linter.unusedVariables false
set_option linter.unusedSimpArgs false
def xorL (a b : List UInt8) : List UInt8 := List.zipWith (· ^^^ ·) a b
def xorP (a b : List UInt8) (i : Nat) : List UInt8 := xorL (a.take i) (b.take i) ++ a.drop i
theorem xorP_set (a b : List UInt8) (i : Nat) (h : i < a.length) (h2 : i < b.length) : (xorP a b i).set i (a[i] ^^^ b[i]) = xorP a b (i + 1) := by
  unfold xorP xorL
  have hl : (List.zipWith (· ^^^ ·) (a.take i) (b.take i)).length = i := by simp; omega
  rw [List.set_append_right _ _ (by omega), hl, Nat.sub_self, List.drop_eq_getElem_cons h, List.set_cons_zero, List.take_succ_eq_append_getElem h, List.take_succ_eq_append_getElem h2, List.zipWith_append (by simp; omega)]
  simp
theorem xorP_len (a b : List UInt8) (i : Nat) (h : i ≤ a.length) (h2 : i ≤ b.length) : (xorP a b i).length = a.length := by unfold xorP xorL; simp; omega
theorem xorP_at (a b : List UInt8) (i : Nat) (h : i < a.length) (h2 : i < b.length) : (xorP a b i)[i]'(by rw [xorP_len a b i (by omega) (by omega)]; exact h) = a[i] := by
  unfold xorP xorL
  rw [List.getElem_append_right (by simp; omega)]
  simp
  congr 1
  omega
theorem xorP_full (a b : List UInt8) (h : a.length ≤ b.length) : xorP a b a.length = xorL a b := by
  unfold xorP xorL
  rw [List.drop_of_length_le (Nat.le_refl _), List.append_nil, List.take_of_length_le (Nat.le_refl _)]
  apply List.ext_getElem?
  intro i
  rw [List.getElem?_zipWith, List.getElem?_zipWith]
  by_cases hi : i < a.length
  · rw [List.getElem?_take, if_pos hi]
  · rw [List.getElem?_eq_none (by omega)]
set_option maxRecDepth 100000 in
set_option maxHeartbeats 2000000 in
theorem xor_walk (w : World) (a b : ByteArray) (h : a.size ≤ b.size) (hm : a.size ≤ 140737488355328) : Calls Tryd.prog 31 #[.string a, .string b] w fun e w' => e = .returned (.string (txt (xorL a.data.toList b.data.toList))) ∧ Below w.heap.size w w' := by
  obtain ⟨cap, W2, hcv, hcap, hrs, hb2, _⟩ := run_bytes_new w a
  have hal : a.data.toList.length = a.size := Array.length_toList
  have hbl : b.data.toList.length = b.size := Array.length_toList
  have HX : Aside0 (RowS W2 w.heap.size (xorP a.data.toList b.data.toList 0)) := ⟨by
    have : xorP a.data.toList b.data.toList 0 = a.data.toList := by simp [xorP, xorL]
    rw [this]; exact hrs⟩
  have HB := Aside0.mk hb2
  have HAL := Aside0.mk hal
  have HBL := Aside0.mk hbl
  clear hrs hb2 hal hbl
  go_enter Tryd.func31, Tryd.ntmps31
  go_wp2
  go_loopw [6, 11] (fun _ i W => ∃ n : Nat, n ≤ a.size ∧ i = .int .i64 (n : Int) ∧ Aside0 (RowS W w.heap.size (xorP a.data.toList b.data.toList n)) ∧ Aside0 (Below w.heap.size w W)) (fun _ i _ => a.size - (intOf i).toNat)
  case atStart => exact ⟨0, by omega, rfl, HX, HB⟩
  case round =>
    obtain ⟨n, hn, rfl, HR, HB⟩ := hrel
    clear HX
    by_cases hlt : n < a.size
    · have hla : n < a.data.toList.length := by rw [HAL.out]; exact hlt
      have hlb : n < b.data.toList.length := by rw [HBL.out]; omega
      have hnb : n < b.size := by omega
      have c0 := HR.out.cell n (by rw [xorP_len _ _ _ (by omega) (by omega)]; exact hla)
      rw [xorP_at _ _ _ hla hlb] at c0
      have f0 := HR.out.frozen n (by rw [xorP_len _ _ _ (by omega) (by omega)]; exact hla)
      have hb : b.data.toList[n] = b[n] := rfl
      have hx := xor_u8 (a.data.toList[n]).toNat (b[n]).toNat (b_lt _) (b_lt _)
      rw [← UInt8.toNat_xor] at hx
      have HST : Aside0 (∀ W : World, W.heap = wr.heap → RowS (W.setCell ⟨w.heap.size, n, none⟩ (.int .u8 ((a.data.toList[n] ^^^ b[n]).toNat : Int))) w.heap.size (xorP a.data.toList b.data.toList (n + 1))) := ⟨fun W hW => by
        have h0 := (HR.out.heap (w' := W) hW).put n (by rw [xorP_len _ _ _ (by omega) (by omega)]; exact hla) (a.data.toList[n] ^^^ b[n])
        rw [← hb, xorP_set _ _ _ hla hlb] at h0
        exact h0⟩
      clear hb
      generalize (a.data.toList[n] ^^^ b[n]).toNat = r at *
      generalize (a.data.toList[n]).toNat = an at *
      go_wp2
      go_region_law (fail)
      all_goals go_wp2
      all_goals go_roundw
      all_goals first
        | (case rel => exact ⟨n + 1, by omega, by go_num, ⟨HST.out _ (by rfl)⟩, ⟨below_drew1 (HB.out.setCell (Nat.le_refl _) _)⟩⟩)
        | (case rel => exact ⟨n + 1, by omega, by go_num, ⟨HST.out _ (by rfl)⟩, ⟨Below.setCell (below_drew1 HB.out) (Nat.le_refl _) _⟩⟩)
        | skip
      all_goals (case measure => simp [intOf]; omega)
    · obtain rfl : n = a.size := by omega
      have hcv2 := HR.out.whole cap
      rw [xorP_len _ _ _ (by rw [HAL.out]; exact Nat.le_refl _) (by rw [HBL.out]; exact h), HAL.out] at hcv2
      have hf : (⟨(xorP a.data.toList b.data.toList a.size).toArray⟩ : ByteArray) = txt (xorL a.data.toList b.data.toList) := by
        rw [← HAL.out, xorP_full _ _ (by rw [HAL.out, HBL.out]; exact h)]; rfl
      rw [hf] at hcv2
      clear HR hf
      obtain ⟨t, ht⟩ : ∃ t, txt (xorL a.data.toList b.data.toList) = t := ⟨_, rfl⟩
      rw [ht] at hcv2
      have HT := Aside0.mk ht
      clear ht
      go_wp2
      go_ret
      exact ⟨by rw [HT.out]; rfl, HB.out⟩
def corncriblaw03_xor.f (a0 : ByteArray) (a1 : ByteArray) : Option (ByteArray) := if a0.size ≤ a1.size ∧ a0.size ≤ 140737488355328 then some (txt (xorL a0.data.toList a1.data.toList)) else none
theorem corncriblaw03_xor.calls (a0 : ByteArray) (a1 : ByteArray) (r : ByteArray) (w : World) (h : corncriblaw03_xor.f a0 a1 = some r) :
    Calls Tryd.prog 31 #[.string a0, .string a1] w fun e w' => e = .returned (.string r) ∧ Below w.heap.size w w' := by
  unfold corncriblaw03_xor.f at h
  split at h
  · rename_i hc
    injection h with h
    subst h
    exact xor_walk w a0 a1 hc.1 hc.2
  · cases h
end Go.Proofs.YtegmmefijihdeaaDoor.PS
