/- An object's data shards: Split, walked. -/
import Derived.Test.YtegmmefijihdeaaDoorHCode
namespace Go.Proofs.YtegmmefijihdeaaDoor.PS
open Go.RowKit Go.Proofs.YtegmmefijihdeaaDoorW.PrintWords Go.Proofs.YtegmmefijihdeaaDoorW.PrintLast Go.Proofs.YtegmmefijihdeaaDoorW.PrintMore Go.Proofs.YtegmmefijihdeaaDoor.Gf Go.Proofs.YtegmmefijihdeaaDoor.Grd Go.Proofs.YtegmmefijihdeaaDoor.Rowb
open Go.Lib (byteCells byteCells_length)
set_option linter.unusedVariables false
set_option linter.unusedSimpArgs false
/-- The length, ahead of an object. -/
def be4 (L : Nat) : List UInt8 := [0, 0, UInt8.ofNat (L / 256), UInt8.ofNat (L % 256)]
def plainL (K : Nat) (o : ByteArray) : List UInt8 := be4 o.size ++ o.data.toList ++ zeros (sizeN K o.size * K - (4 + o.size))
def shardOf (s : List UInt8) (n i : Nat) : ByteArray := txt ((s.drop (i * n)).take n)
def splitL (K : Nat) (o : ByteArray) : List ByteArray := (List.range K).map (shardOf (plainL K o) (sizeN K o.size))
def splitV (k : Int) (o : ByteArray) : List ByteArray × Int := if codeB k 0 = true then (if o.size ≤ 2048 then (splitL k.toNat o, 0) else ([], 2)) else ([], 1)
theorem sizeN_ge (K L : Nat) (h : 1 ≤ K) : 4 + L ≤ sizeN K L * K := by
  unfold sizeN
  have h1 := Nat.div_add_mod (4 + L + K - 1) K
  have h2 := Nat.mod_lt (4 + L + K - 1) (show K > 0 by omega)
  rw [Nat.mul_comm] at h1
  omega
theorem sizeN_lt (K L : Nat) (h : 1 ≤ K) : sizeN K L * K < 4 + L + K := by
  unfold sizeN
  have h1 := Nat.div_mul_le_self (4 + L + K - 1) K
  omega
theorem plain_len (K : Nat) (o : ByteArray) (h : 1 ≤ K) : (plainL K o).length = sizeN K o.size * K := by
  have := sizeN_ge K o.size h
  unfold plainL be4
  rw [List.length_append, List.length_append, zeros_len, Array.length_toList]
  show 4 + o.size + _ = _
  omega
theorem be4_cells (L : Nat) (h : L ≤ 2048) : (byteCells (be4 L)).toArray = #[.int .u8 ((L : Int) / 16777216), .int .u8 ((L : Int) / 65536), .int .u8 ((L : Int) / 256), .int .u8 ((L : Int) % 256)] := by
  have e1 : (L : Int) / 16777216 = 0 := by omega
  have e2 : (L : Int) / 65536 = 0 := by omega
  have e3 : ((UInt8.ofNat (L / 256)).toNat : Int) = (L : Int) / 256 := by rw [UInt8.toNat_ofNat', Nat.mod_eq_of_lt (by omega)]; omega
  have e4 : ((UInt8.ofNat (L % 256)).toNat : Int) = (L : Int) % 256 := by rw [UInt8.toNat_ofNat', Nat.mod_eq_of_lt (by omega)]; omega
  rw [e1, e2, ← e3, ← e4]
  rfl
theorem be4_text (L : Nat) (h : L ≤ 2048) (W : World) : (convert 60 9 (.slice (some ⟨W.heap.size, 0, none⟩) 4 4)).run Tryd.prog (W.alloc (.cells #[.int .u8 ((L : Int) / 16777216), .int .u8 ((L : Int) / 65536), .int .u8 ((L : Int) / 256), .int .u8 ((L : Int) % 256)] 5)) = .ok (.string (txt (be4 L))) (W.alloc (.cells #[.int .u8 ((L : Int) / 16777216), .int .u8 ((L : Int) / 65536), .int .u8 ((L : Int) / 256), .int .u8 ((L : Int) % 256)] 5)) := by
  rw [← be4_cells L h]
  exact (RowB.new W (be4 L)).whole 4
/-- Texts, one behind the other. -/
def strRow (l : List ByteArray) : Array Value := (l.map Value.string).toArray
theorem strRow_at (l : List ByteArray) (j : Nat) (h : j < l.length) : (strRow l)[j]? = some (.string l[j]) := by
  unfold strRow
  rw [List.getElem?_toArray, List.getElem?_map, List.getElem?_eq_getElem h]
  rfl
theorem strRow_set (l : List ByteArray) (j : Nat) (s : ByteArray) : (strRow l).setIfInBounds j (.string s) = strRow (l.set j s) := by
  unfold strRow
  rw [List.setIfInBounds_toArray, List.map_set]
theorem run_make_strs (n : Nat) (hn : n ≤ 100000) (W : World) : (Instr.makeSlice 25 (.int .i64 (n : Int)) (.int .i64 (n : Int))).run Tryd.prog W = .ok (.slice (some ⟨W.heap.size, 0, none⟩) n n) (W.alloc (.cells (strRow (List.replicate n ⟨#[]⟩)) 9)) := by
  have := run_make_row' (P := Tryd.prog) 25 9 (.string ⟨#[]⟩) 16 Tryd.underlying25 info9 rfl .i64 .i64 n (by omega) (by omega) W
  have e : madeCells #[(Value.string ⟨#[]⟩)] n = strRow (List.replicate n ⟨#[]⟩) := by
    apply Array.ext_getElem?
    intro j
    unfold strRow
    by_cases hj : j < n
    · simp [madeCells, hj, Nat.mod_one]
    · simp [madeCells, hj]
  rw [e] at this
  exact this
/-- A row of texts of the call's own. -/
theorem own_strs {W : World} {base g : Nat} {l : List ByteArray} (hb : base ≤ g) (hm : l.length ≤ maxLen) (h : W.heap[g]? = some (.cells (strRow l) 9 (0, 0))) : Kd.R Kd.string 9 W base (fun _ => True) (.slice (some ⟨g, 0, none⟩) l.length l.length) l :=
  Kd.R_of_own ⟨by simp [encs], .inr ⟨g, l.length, _, rfl, hb, h, Nat.le_refl _, hm, by simp [strRow], by rw [Nat.mul_one, List.take_of_length_le (by simp [strRow])]; simp [strRow, encs]⟩⟩ (fun _ _ => trivial)
/-- The shards behind i rounds. -/
def partL (s : List UInt8) (n K i : Nat) : List ByteArray := (List.range K).map fun j => if j < i then shardOf s n j else ⟨#[]⟩
theorem partL_len (s : List UInt8) (n K i : Nat) : (partL s n K i).length = K := by simp [partL]
theorem partL_zero (s : List UInt8) (n K : Nat) : partL s n K 0 = List.replicate K ⟨#[]⟩ := by
  unfold partL
  apply List.ext_getElem
  · simp
  · intro j h1 h2
    simp
theorem partL_full (s : List UInt8) (n K : Nat) : partL s n K K = (List.range K).map (shardOf s n) := by
  unfold partL
  refine List.map_congr_left (fun j hj => ?_)
  rw [if_pos (List.mem_range.1 hj)]
theorem partL_set (s : List UInt8) (n K i : Nat) (h : i < K) : (partL s n K i).set i (shardOf s n i) = partL s n K (i + 1) := by
  unfold partL
  apply List.ext_getElem
  · simp
  · intro j h1 h2
    rw [List.getElem_set]
    simp only [List.getElem_map, List.getElem_range]
    by_cases e : i = j
    · subst e
      rw [if_pos rfl, if_pos (by omega)]
    · rw [if_neg e]
      by_cases h3 : j < i
      · rw [if_pos h3, if_pos (by omega)]
      · rw [if_neg h3, if_neg (by omega)]
theorem shard_extract (s : ByteArray) (pl : List UInt8) (n i z : Nat) (hs : s = txt pl) (hz : i * n = z) (h : z + n ≤ pl.length) : s.extract z (z + n) = shardOf pl n i := by
  subst hs hz
  unfold shardOf
  apply ByteArray.ext
  apply Array.ext'
  rw [ByteArray.data_extract, Array.toList_extract]
  show (List.extract (txt pl).data.toList _ _) = (txt _).data.toList
  rw [txt_list, txt_list]
  simp [List.extract_eq_take_drop]
theorem repeat_zeros : ∀ z, Lib.repeatL [0] z = zeros z
  | 0 => rfl
  | z + 1 => by
    show [0] ++ Lib.repeatL [0] z = _
    rw [repeat_zeros z]
    rfl
def SplitIs (k : Int) (o : ByteArray) (w : World) (e : Ending) (w' : World) : Prop := ∃ v0_ : Value, e = .returned (.tuple #[v0_, .int .i64 (splitV k o).2]) ∧ Kd.R Kd.string 9 w' w.heap.size (fun _ => True) v0_ (splitV k o).1 ∧ Below w.heap.size w w'
section
variable (K : Nat) (h1 : 1 ≤ K) (h2 : K ≤ 255) (o : ByteArray) (w : World)
include h1 h2
set_option maxRecDepth 100000 in
set_option maxHeartbeats 2000000 in
theorem split_main (ho : o.size ≤ 2048) : Calls Tryd.prog 17 #[.int .i64 (K : Int), .string o] w fun e w' => ∃ v0_ : Value, e = .returned (.tuple #[v0_, .int .i64 0]) ∧ Kd.R Kd.string 9 w' w.heap.size (fun _ => True) v0_ (splitL K o) ∧ Below w.heap.size w w' := by
  have HC : Aside0 (∀ W, Calls Tryd.prog 47 #[.int .i64 (K : Int), .int .i64 0] W fun e w' => e = .returned (.bool true) ∧ Drawn0 W w') := ⟨fun W => stripe_code.calls _ _ _ W (by rw [code_f]; congr 1; unfold codeB; exact decide_eq_true (by omega))⟩
  have HS : Aside0 (∀ W, Calls Tryd.prog 15 #[.int .i64 (K : Int), .int .i64 (o.size : Int)] W fun e w' => e = .returned (.tuple #[.int .i64 (sizeN K o.size : Int), .int .i64 0]) ∧ Drawn0 W w') := ⟨fun W => stripe_Size.calls _ _ _ _ W (by
    rw [size_f]
    unfold sizeV
    rw [if_pos ⟨by unfold codeB; exact decide_eq_true (by omega), by omega, by omega⟩]
    rfl)⟩
  have hn1 := sizeN_ge K o.size h1
  have hn2 := sizeN_lt K o.size h1
  have HP := Aside0.mk (plain_len K o h1)
  have d1 : decide ((2048 : Int) < (o.size : Int)) = false := by simp; omega
  have HSL : Aside0 (splitL K o = (List.range K).map (shardOf (plainL K o) (sizeN K o.size))) := ⟨rfl⟩
  have HPL : Aside0 (plainL K o = be4 o.size ++ o.data.toList ++ zeros (sizeN K o.size * K - (4 + o.size))) := ⟨rfl⟩
  generalize sizeN K o.size = n at *
  generalize splitL K o = sl at *
  generalize plainL K o = pl at *
  go_enter Tryd.func17, Tryd.ntmps17
  go_wp2_with fail
  refine (HC.out _).mono ?_
  rintro e w1 ⟨rfl, ⟨n1, rfl⟩⟩
  go_wp2_with fail
  refine (HS.out _).mono ?_
  rintro e w1 ⟨rfl, ⟨n2, rfl⟩⟩
  have HB1 : Aside0 (Below w.heap.size w (w.drewN (n1 + n2))) := ⟨pw_below_drewN (Below.refl _ _) _⟩
  rw [World.drewN_drewN]
  generalize w.drewN (n1 + n2) = w1 at *
  have hcv := be4_text o.size ho w1
  have htz : (txt (be4 o.size)).size = 4 := by rw [txt_size]; rfl
  have HTL := Aside0.mk (txt_list (be4 o.size))
  generalize txt (be4 o.size) = t4 at *
  generalize hnk : n * K = nk at *
  have hmul : (n : Int) * (K : Int) = (nk : Int) := by rw [← hnk]; push_cast; rfl
  have HNK := Aside0.mk hnk
  obtain ⟨z, hz⟩ : ∃ z, nk - (4 + o.size) = z := ⟨_, rfl⟩
  have hzi : (nk : Int) - (4 + (o.size : Int)) = (z : Int) := by omega
  rw [hz] at HPL
  have hzs : z ≤ 255 := by omega
  clear hnk hz
  go_wp2_with fail
  refine (Tryd.strings_Repeat ⟨#[0]⟩ z _ (by omega) (by show 1 * z ≤ _; omega)).mono ?_
  rintro e w2 ⟨rfl, hb2⟩
  have HB2 : Aside0 (Below w.heap.size w w2) := ⟨(HB1.out.alloc HB1.out.size _).trans (hb2.mono (by have := HB1.out.size; simp; omega))⟩
  have HRZ : Aside0 (t4 ++ o ++ ⟨(Lib.repeatL (⟨#[0]⟩ : ByteArray).data.toList z).toArray⟩ = txt pl) := ⟨by
    apply ByteArray.ext
    apply Array.ext'
    rw [ByteArray.data_append, ByteArray.data_append, Array.toList_append, Array.toList_append, HTL.out, txt_list, HPL.out, List.toList_toArray]
    congr 1
    show Lib.repeatL [0] z = zeros z
    exact repeat_zeros z⟩
  generalize (⟨(Lib.repeatL (⟨#[0]⟩ : ByteArray).data.toList z).toArray⟩ : ByteArray) = rz at *
  have hrz : rz.size = z := by
    have := congrArg ByteArray.size HRZ.out
    rw [ByteArray.size_append, ByteArray.size_append, txt_size, HP.out, htz] at this
    omega
  have hmk := run_make_strs K (by omega)
  clear hb2 HB1 hcv
  go_wp2
  obtain ⟨g, hg⟩ : ∃ g, w2.heap.size = g := ⟨_, rfl⟩
  have HR0 : Aside0 ((w2.alloc (.cells (strRow (List.replicate K ⟨#[]⟩)) 9)).heap[g]? = some (.cells (strRow (partL pl n K 0)) 9 (0, 0))) := ⟨by rw [partL_zero, ← hg]; exact blk_new _ _⟩
  have HB3 : Aside0 (Below w.heap.size w (w2.alloc (.cells (strRow (List.replicate K ⟨#[]⟩)) 9))) := ⟨HB2.out.alloc HB2.out.size _⟩
  have hgb : w.heap.size ≤ g := by rw [← hg]; exact HB2.out.size
  rw [hg]
  obtain ⟨s, hs⟩ : ∃ s, t4 ++ o ++ rz = s := ⟨_, rfl⟩
  rw [hs] at HRZ ⊢
  have hss : s.size = nk := by rw [HRZ.out, txt_size, HP.out]
  clear hs hg HB2 hmk hrz HTL HPL
  generalize w2.alloc (.cells (strRow (List.replicate K ⟨#[]⟩)) 9) = w3 at *
  go_loopw [11, 55] (fun _ i W => ∃ q : Nat, q ≤ K ∧ i = .int .i64 (q : Int) ∧ Aside0 (W.heap[g]? = some (.cells (strRow (partL pl n K q)) 9 (0, 0))) ∧ Aside0 (Below w.heap.size w W)) (fun _ i _ => K - (intOf i).toNat)
  case atStart => exact ⟨0, by omega, rfl, HR0, HB3⟩
  case round =>
    obtain ⟨q, hq, rfl, HX, HB⟩ := hrel
    by_cases hlt : q < K
    · obtain ⟨y, hy⟩ : ∃ y, q * n = y := ⟨_, rfl⟩
      have hy1 : (q : Int) * (n : Int) = (y : Int) := by rw [← hy]; push_cast; rfl
      have hy2 : ((q : Int) + 1) * (n : Int) = (y : Int) + (n : Int) := by rw [Int.add_mul, hy1, Int.one_mul]
      have hyn : y + n ≤ nk := by
        rw [← HNK.out, ← hy, Nat.mul_comm n K]
        have : (q + 1) * n ≤ K * n := Nat.mul_le_mul_right _ (by omega)
        rw [Nat.succ_mul] at this
        exact this
      have HE := Aside0.mk (shard_extract s pl n q y HRZ.out hy (by rw [HP.out]; exact hyn))
      have c0 := (blk_cell HX.out q).trans (strRow_at _ q (by rw [partL_len]; exact hlt))
      have f0 := blk_frozen HX.out q
      have HST : Aside0 (∀ W : World, W.heap = wr.heap → (W.setCell ⟨g, q, none⟩ (.string (shardOf pl n q))).heap[g]? = some (.cells (strRow (partL pl n K (q + 1))) 9 (0, 0))) := ⟨fun W hW => by
        have h0 : W.heap[g]? = some (.cells (strRow (partL pl n K q)) 9 (0, 0)) := by rw [hW]; exact HX.out
        exact blk_put h0 q _ (by rw [strRow_set, partL_set _ _ _ _ hlt])⟩
      have hsl : ∀ W, (Instr.slice 9 (.string s) (some (.int .i64 (y : Int))) (some (.int .i64 ((y : Int) + (n : Int)))) none).run Tryd.prog W = .ok (.string (shardOf pl n q)) W := fun W => by
        have := run_slice_string (P := Tryd.prog) (w := W) 9 s .i64 .i64 (y : Int) ((y : Int) + (n : Int)) Tryd.underlying9 (by omega) (by omega) (by omega)
        rw [this, show ((y : Int) + (n : Int)).toNat = y + n by omega, Int.toNat_natCast, HE.out]
      clear hy
      go_wp2
      go_roundw
      case rel => exact ⟨q + 1, by omega, by go_num, ⟨HST.out _ rfl⟩, ⟨HB.out.setCell hgb _⟩⟩
      case measure => simp [intOf]; omega
    · obtain rfl : q = K := by omega
      rw [partL_full] at HX
      have hfin := own_strs (base := w.heap.size) hgb (by simp [maxLen]; omega) HX.out
      rw [List.length_map, List.length_range] at hfin
      have HFI := Aside0.mk hfin
      clear hfin
      go_wp2
      go_ret2
      exact ⟨_, rfl, by rw [HSL.out]; exact HFI.out, HB.out⟩
end
set_option maxRecDepth 100000 in
set_option maxHeartbeats 1000000 in
theorem split_walk (k : Int) (o : ByteArray) (w : World) : Calls Tryd.prog 17 #[.int .i64 k, .string o] w (SplitIs k o w) := by
  have HC : Aside0 (∀ W, Calls Tryd.prog 47 #[.int .i64 k, .int .i64 0] W fun e w' => e = .returned (.bool (codeB k 0)) ∧ Drawn0 W w') := ⟨fun W => stripe_code.calls _ _ _ W (code_f k 0)⟩
  unfold SplitIs splitV
  cases hcb : codeB k 0 with
  | false =>
    rw [if_neg (by decide)]
    rw [hcb] at HC
    go_enter Tryd.func17, Tryd.ntmps17
    go_wp2_with fail
    refine (HC.out _).mono ?_
    rintro e w1 ⟨rfl, ⟨n1, rfl⟩⟩
    go_wp2
    go_ret2
    exact ⟨_, rfl, Kd.R_nil _ _ _ _ _, pw_below_drewN (Below.refl _ _) _⟩
  | true =>
    rw [if_pos rfl]
    by_cases ho : o.size ≤ 2048
    · rw [if_pos ho]
      obtain ⟨K, M, rfl, hM, h1, h2⟩ := codeB_nat hcb
      have := split_main K h1 (by omega) o w ho
      simpa using this
    · rw [if_neg ho]
      rw [hcb] at HC
      have d1 : decide ((2048 : Int) < (o.size : Int)) = true := by simp; omega
      go_enter Tryd.func17, Tryd.ntmps17
      go_wp2_with fail
      refine (HC.out _).mono ?_
      rintro e w1 ⟨rfl, ⟨n1, rfl⟩⟩
      go_wp2
      go_ret2
      exact ⟨_, rfl, Kd.R_nil _ _ _ _ _, pw_below_drewN (Below.refl _ _) _⟩
def stripe_Split.f (a0 : Int) (a1 : ByteArray) : Option (List ByteArray × Int) := some (splitV a0 a1)
theorem stripe_Split.calls (a0 : Int) (a1 : ByteArray) (r1 : List ByteArray) (r2 : Int) (w : World) (h : stripe_Split.f a0 a1 = some (r1, r2)) :
    Calls Tryd.prog 17 #[.int .i64 a0, .string a1] w fun e w' => ∃ v0_ : Value, e = .returned (.tuple #[v0_, .int .i64 r2]) ∧ Kd.R Kd.string 9 w' w.heap.size (fun _ => True) v0_ r1 ∧ Below w.heap.size w w' := by
  have := split_walk a0 a1 w
  unfold SplitIs at this
  unfold stripe_Split.f at h
  rw [Option.some.inj h] at this
  exact this
end Go.Proofs.YtegmmefijihdeaaDoor.PS
