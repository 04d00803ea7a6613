/- Texts of this proof, one behind the other (merged by a program of this session). -/
import Derived.Test.YtegmmefijihdeaaDoorMb42e83
namespace Go.Proofs.YtegmmefijihdeaaDoor.PS
open Go.RowKit Go.Proofs.YtegmmefijihdeaaDoorW.PrintWords Go.Proofs.YtegmmefijihdeaaDoorW.PrintLast Go.Proofs.YtegmmefijihdeaaDoorW.PrintMore Go.Proofs.YtegmmefijihdeaaDoor.Gf Go.Proofs.YtegmmefijihdeaaDoor.Grd Go.Proofs.YtegmmefijihdeaaDoor.Rowb
open Go.Lib (byteCells byteCells_length)
set_option linter.unusedVariables false
set_option linter.unusedSimpArgs false
/-- The length, ahead of an object. -/
def be4 (L : Nat) : List UInt8 := [0, 0, UInt8.ofNat (L / 256), UInt8.ofNat (L % 256)]
def plainL (K : Nat) (o : ByteArray) : List UInt8 := be4 o.size ++ o.data.toList ++ zeros (sizeN K o.size * K - (4 + o.size))
def shardOf (s : List UInt8) (n i : Nat) : ByteArray := txt ((s.drop (i * n)).take n)
def splitL (K : Nat) (o : ByteArray) : List ByteArray := (List.range K).map (shardOf (plainL K o) (sizeN K o.size))
def splitV (k : Int) (o : ByteArray) : List ByteArray × Int := if codeB k 0 = true then (if o.size ≤ 2048 then (splitL k.toNat o, 0) else ([], 2)) else ([], 1)
theorem sizeN_ge (K L : Nat) (h : 1 ≤ K) : 4 + L ≤ sizeN K L * K := by
  unfold sizeN
  have h1 := Nat.div_add_mod (4 + L + K - 1) K
  have h2 := Nat.mod_lt (4 + L + K - 1) (show K > 0 by omega)
  rw [Nat.mul_comm] at h1
  omega
theorem sizeN_lt (K L : Nat) (h : 1 ≤ K) : sizeN K L * K < 4 + L + K := by
  unfold sizeN
  have h1 := Nat.div_mul_le_self (4 + L + K - 1) K
  omega
theorem plain_len (K : Nat) (o : ByteArray) (h : 1 ≤ K) : (plainL K o).length = sizeN K o.size * K := by
  have := sizeN_ge K o.size h
  unfold plainL be4
  rw [List.length_append, List.length_append, zeros_len, Array.length_toList]
  show 4 + o.size + _ = _
  omega
theorem be4_cells (L : Nat) (h : L ≤ 2048) : (byteCells (be4 L)).toArray = #[.int .u8 ((L : Int) / 16777216), .int .u8 ((L : Int) / 65536), .int .u8 ((L : Int) / 256), .int .u8 ((L : Int) % 256)] := by
  have e1 : (L : Int) / 16777216 = 0 := by omega
  have e2 : (L : Int) / 65536 = 0 := by omega
  have e3 : ((UInt8.ofNat (L / 256)).toNat : Int) = (L : Int) / 256 := by rw [UInt8.toNat_ofNat', Nat.mod_eq_of_lt (by omega)]; omega
  have e4 : ((UInt8.ofNat (L % 256)).toNat : Int) = (L : Int) % 256 := by rw [UInt8.toNat_ofNat', Nat.mod_eq_of_lt (by omega)]; omega
  rw [e1, e2, ← e3, ← e4]
  rfl
theorem be4_text (L : Nat) (h : L ≤ 2048) (W : World) : (convert 60 9 (.slice (some ⟨W.heap.size, 0, none⟩) 4 4)).run Tryd.prog (W.alloc (.cells #[.int .u8 ((L : Int) / 16777216), .int .u8 ((L : Int) / 65536), .int .u8 ((L : Int) / 256), .int .u8 ((L : Int) % 256)] 5)) = .ok (.string (txt (be4 L))) (W.alloc (.cells #[.int .u8 ((L : Int) / 16777216), .int .u8 ((L : Int) / 65536), .int .u8 ((L : Int) / 256), .int .u8 ((L : Int) % 256)] 5)) := by
  rw [← be4_cells L h]
  exact (RowB.new W (be4 L)).whole 4
/-- Texts, one behind the other. -/
def strRow (l : List ByteArray) : Array Value := (l.map Value.string).toArray
theorem strRow_at (l : List ByteArray) (j : Nat) (h : j < l.length) : (strRow l)[j]? = some (.string l[j]) := by
  unfold strRow
  rw [List.getElem?_toArray, List.getElem?_map, List.getElem?_eq_getElem h]
  rfl
theorem strRow_set (l : List ByteArray) (j : Nat) (s : ByteArray) : (strRow l).setIfInBounds j (.string s) = strRow (l.set j s) := by
  unfold strRow
  rw [List.setIfInBounds_toArray, List.map_set]
theorem run_make_strs (n : Nat) (hn : n ≤ 100000) (W : World) : (Instr.makeSlice 25 (.int .i64 (n : Int)) (.int .i64 (n : Int))).run Tryd.prog W = .ok (.slice (some ⟨W.heap.size, 0, none⟩) n n) (W.alloc (.cells (strRow (List.replicate n ⟨#[]⟩)) 9)) := by
  have := run_make_row' (P := Tryd.prog) 25 9 (.string ⟨#[]⟩) 16 Tryd.underlying25 info9 rfl .i64 .i64 n (by omega) (by omega) W
  have e : madeCells #[(Value.string ⟨#[]⟩)] n = strRow (List.replicate n ⟨#[]⟩) := by
    apply Array.ext_getElem?
    intro j
    unfold strRow
    by_cases hj : j < n
    · simp [madeCells, hj, Nat.mod_one]
    · simp [madeCells, hj]
  rw [e] at this
  exact this
/-- A row of texts of the call's own. -/
theorem own_strs {W : World} {base g : Nat} {l : List ByteArray} (hb : base ≤ g) (hm : l.length ≤ maxLen) (h : W.heap[g]? = some (.cells (strRow l) 9 (0, 0))) : Kd.R Kd.string 9 W base (fun _ => True) (.slice (some ⟨g, 0, none⟩) l.length l.length) l :=
  Kd.R_of_own ⟨by simp [encs], .inr ⟨g, l.length, _, rfl, hb, h, Nat.le_refl _, hm, by simp [strRow], by rw [Nat.mul_one, List.take_of_length_le (by simp [strRow])]; simp [strRow, encs]⟩⟩ (fun _ _ => trivial)
/-- The shards behind i rounds. -/
def partL (s : List UInt8) (n K i : Nat) : List ByteArray := (List.range K).map fun j => if j < i then shardOf s n j else ⟨#[]⟩
theorem partL_len (s : List UInt8) (n K i : Nat) : (partL s n K i).length = K := by simp [partL]
theorem partL_zero (s : List UInt8) (n K : Nat) : partL s n K 0 = List.replicate K ⟨#[]⟩ := by
  unfold partL
  apply List.ext_getElem
  · simp
  · intro j h1 h2
    simp
theorem partL_full (s : List UInt8) (n K : Nat) : partL s n K K = (List.range K).map (shardOf s n) := by
  unfold partL
  refine List.map_congr_left (fun j hj => ?_)
  rw [if_pos (List.mem_range.1 hj)]
theorem partL_set (s : List UInt8) (n K i : Nat) (h : i < K) : (partL s n K i).set i (shardOf s n i) = partL s n K (i + 1) := by
  unfold partL
  apply List.ext_getElem
  · simp
  · intro j h1 h2
    rw [List.getElem_set]
    simp only [List.getElem_map, List.getElem_range]
    by_cases e : i = j
    · subst e
      rw [if_pos rfl, if_pos (by omega)]
    · rw [if_neg e]
      by_cases h3 : j < i
      · rw [if_pos h3, if_pos (by omega)]
      · rw [if_neg h3, if_neg (by omega)]
theorem shard_extract (s : ByteArray) (pl : List UInt8) (n i z : Nat) (hs : s = txt pl) (hz : i * n = z) (h : z + n ≤ pl.length) : s.extract z (z + n) = shardOf pl n i := by
  subst hs hz
  unfold shardOf
  apply ByteArray.ext
  apply Array.ext'
  rw [ByteArray.data_extract, Array.toList_extract]
  show (List.extract (txt pl).data.toList _ _) = (txt _).data.toList
  rw [txt_list, txt_list]
  simp [List.extract_eq_take_drop]
theorem repeat_zeros : ∀ z, Lib.repeatL [0] z = zeros z
  | 0 => rfl
  | z + 1 => by
    show [0] ++ Lib.repeatL [0] z = _
    rw [repeat_zeros z]
    rfl
def SplitIs (k : Int) (o : ByteArray) (w : World) (e : Ending) (w' : World) : Prop := ∃ v0_ : Value, e = .returned (.tuple #[v0_, .int .i64 (splitV k o).2]) ∧ Kd.R Kd.string 9 w' w.heap.size (fun _ => True) v0_ (splitV k o).1 ∧ Below w.heap.size w w'
section
variable (K : Nat) (h1 : 1 ≤ K) (h2 : K ≤ 255) (o : ByteArray) (w : World)
include h1 h2
set_option maxRecDepth 100000 in
set_option maxHeartbeats 2000000 in
theorem split_main (ho : o.size ≤ 2048) : Calls Tryd.prog 17 #[.int .i64 (K : Int), .string o] w fun e w' => ∃ v0_ : Value, e = .returned (.tuple #[v0_, .int .i64 0]) ∧ Kd.R Kd.string 9 w' w.heap.size (fun _ => True) v0_ (splitL K o) ∧ Below w.heap.size w w' := by
  have HC : Aside0 (∀ W, Calls Tryd.prog 47 #[.int .i64 (K : Int), .int .i64 0] W fun e w' => e = .returned (.bool true) ∧ Drawn0 W w') := ⟨fun W => stripe_code.calls _ _ _ W (by rw [code_f]; congr 1; unfold codeB; exact decide_eq_true (by omega))⟩
  have HS : Aside0 (∀ W, Calls Tryd.prog 15 #[.int .i64 (K : Int), .int .i64 (o.size : Int)] W fun e w' => e = .returned (.tuple #[.int .i64 (sizeN K o.size : Int), .int .i64 0]) ∧ Drawn0 W w') := ⟨fun W => stripe_Size.calls _ _ _ _ W (by
    rw [size_f]
    unfold sizeV
    rw [if_pos ⟨by unfold codeB; exact decide_eq_true (by omega), by omega, by omega⟩]
    rfl)⟩
  have hn1 := sizeN_ge K o.size h1
  have hn2 := sizeN_lt K o.size h1
  have HP := Aside0.mk (plain_len K o h1)
  have d1 : decide ((2048 : Int) < (o.size : Int)) = false := by simp; omega
  have HSL : Aside0 (splitL K o = (List.range K).map (shardOf (plainL K o) (sizeN K o.size))) := ⟨rfl⟩
  have HPL : Aside0 (plainL K o = be4 o.size ++ o.data.toList ++ zeros (sizeN K o.size * K - (4 + o.size))) := ⟨rfl⟩
  generalize sizeN K o.size = n at *
  generalize splitL K o = sl at *
  generalize plainL K o = pl at *
  go_enter Tryd.func17, Tryd.ntmps17
  go_wp2_with fail
  refine (HC.out _).mono ?_
  rintro e w1 ⟨rfl, ⟨n1, rfl⟩⟩
  go_wp2_with fail
  refine (HS.out _).mono ?_
  rintro e w1 ⟨rfl, ⟨n2, rfl⟩⟩
  have HB1 : Aside0 (Below w.heap.size w (w.drewN (n1 + n2))) := ⟨pw_below_drewN (Below.refl _ _) _⟩
  rw [World.drewN_drewN]
  generalize w.drewN (n1 + n2) = w1 at *
  have hcv := be4_text o.size ho w1
  have htz : (txt (be4 o.size)).size = 4 := by rw [txt_size]; rfl
  have HTL := Aside0.mk (txt_list (be4 o.size))
  generalize txt (be4 o.size) = t4 at *
  generalize hnk : n * K = nk at *
  have hmul : (n : Int) * (K : Int) = (nk : Int) := by rw [← hnk]; push_cast; rfl
  have HNK := Aside0.mk hnk
  obtain ⟨z, hz⟩ : ∃ z, nk - (4 + o.size) = z := ⟨_, rfl⟩
  have hzi : (nk : Int) - (4 + (o.size : Int)) = (z : Int) := by omega
  rw [hz] at HPL
  have hzs : z ≤ 255 := by omega
  clear hnk hz
  go_wp2_with fail
  refine (Tryd.strings_Repeat ⟨#[0]⟩ z _ (by omega) (by show 1 * z ≤ _; omega)).mono ?_
  rintro e w2 ⟨rfl, hb2⟩
  have HB2 : Aside0 (Below w.heap.size w w2) := ⟨(HB1.out.alloc HB1.out.size _).trans (hb2.mono (by have := HB1.out.size; simp; omega))⟩
  have HRZ : Aside0 (t4 ++ o ++ ⟨(Lib.repeatL (⟨#[0]⟩ : ByteArray).data.toList z).toArray⟩ = txt pl) := ⟨by
    apply ByteArray.ext
    apply Array.ext'
    rw [ByteArray.data_append, ByteArray.data_append, Array.toList_append, Array.toList_append, HTL.out, txt_list, HPL.out, List.toList_toArray]
    congr 1
    show Lib.repeatL [0] z = zeros z
    exact repeat_zeros z⟩
  generalize (⟨(Lib.repeatL (⟨#[0]⟩ : ByteArray).data.toList z).toArray⟩ : ByteArray) = rz at *
  have hrz : rz.size = z := by
    have := congrArg ByteArray.size HRZ.out
    rw [ByteArray.size_append, ByteArray.size_append, txt_size, HP.out, htz] at this
    omega
  have hmk := run_make_strs K (by omega)
  clear hb2 HB1 hcv
  go_wp2
  obtain ⟨g, hg⟩ : ∃ g, w2.heap.size = g := ⟨_, rfl⟩
  have HR0 : Aside0 ((w2.alloc (.cells (strRow (List.replicate K ⟨#[]⟩)) 9)).heap[g]? = some (.cells (strRow (partL pl n K 0)) 9 (0, 0))) := ⟨by rw [partL_zero, ← hg]; exact blk_new _ _⟩
  have HB3 : Aside0 (Below w.heap.size w (w2.alloc (.cells (strRow (List.replicate K ⟨#[]⟩)) 9))) := ⟨HB2.out.alloc HB2.out.size _⟩
  have hgb : w.heap.size ≤ g := by rw [← hg]; exact HB2.out.size
  rw [hg]
  obtain ⟨s, hs⟩ : ∃ s, t4 ++ o ++ rz = s := ⟨_, rfl⟩
  rw [hs] at HRZ ⊢
  have hss : s.size = nk := by rw [HRZ.out, txt_size, HP.out]
  clear hs hg HB2 hmk hrz HTL HPL
  generalize w2.alloc (.cells (strRow (List.replicate K ⟨#[]⟩)) 9) = w3 at *
  go_loopw [11, 55] (fun _ i W => ∃ q : Nat, q ≤ K ∧ i = .int .i64 (q : Int) ∧ Aside0 (W.heap[g]? = some (.cells (strRow (partL pl n K q)) 9 (0, 0))) ∧ Aside0 (Below w.heap.size w W)) (fun _ i _ => K - (intOf i).toNat)
  case atStart => exact ⟨0, by omega, rfl, HR0, HB3⟩
  case round =>
    obtain ⟨q, hq, rfl, HX, HB⟩ := hrel
    by_cases hlt : q < K
    · obtain ⟨y, hy⟩ : ∃ y, q * n = y := ⟨_, rfl⟩
      have hy1 : (q : Int) * (n : Int) = (y : Int) := by rw [← hy]; push_cast; rfl
      have hy2 : ((q : Int) + 1) * (n : Int) = (y : Int) + (n : Int) := by rw [Int.add_mul, hy1, Int.one_mul]
      have hyn : y + n ≤ nk := by
        rw [← HNK.out, ← hy, Nat.mul_comm n K]
        have : (q + 1) * n ≤ K * n := Nat.mul_le_mul_right _ (by omega)
        rw [Nat.succ_mul] at this
        exact this
      have HE := Aside0.mk (shard_extract s pl n q y HRZ.out hy (by rw [HP.out]; exact hyn))
      have c0 := (blk_cell HX.out q).trans (strRow_at _ q (by rw [partL_len]; exact hlt))
      have f0 := blk_frozen HX.out q
      have HST : Aside0 (∀ W : World, W.heap = wr.heap → (W.setCell ⟨g, q, none⟩ (.string (shardOf pl n q))).heap[g]? = some (.cells (strRow (partL pl n K (q + 1))) 9 (0, 0))) := ⟨fun W hW => by
        have h0 : W.heap[g]? = some (.cells (strRow (partL pl n K q)) 9 (0, 0)) := by rw [hW]; exact HX.out
        exact blk_put h0 q _ (by rw [strRow_set, partL_set _ _ _ _ hlt])⟩
      have hsl : ∀ W, (Instr.slice 9 (.string s) (some (.int .i64 (y : Int))) (some (.int .i64 ((y : Int) + (n : Int)))) none).run Tryd.prog W = .ok (.string (shardOf pl n q)) W := fun W => by
        have := run_slice_string (P := Tryd.prog) (w := W) 9 s .i64 .i64 (y : Int) ((y : Int) + (n : Int)) Tryd.underlying9 (by omega) (by omega) (by omega)
        rw [this, show ((y : Int) + (n : Int)).toNat = y + n by omega, Int.toNat_natCast, HE.out]
      clear hy
      go_wp2
      go_roundw
      case rel => exact ⟨q + 1, by omega, by go_num, ⟨HST.out _ rfl⟩, ⟨HB.out.setCell hgb _⟩⟩
      case measure => simp [intOf]; omega
    · obtain rfl : q = K := by omega
      rw [partL_full] at HX
      have hfin := own_strs (base := w.heap.size) hgb (by simp [maxLen]; omega) HX.out
      rw [List.length_map, List.length_range] at hfin
      have HFI := Aside0.mk hfin
      clear hfin
      go_wp2
      go_ret2
      exact ⟨_, rfl, by rw [HSL.out]; exact HFI.out, HB.out⟩
end
set_option maxRecDepth 100000 in
set_option maxHeartbeats 1000000 in
theorem split_walk (k : Int) (o : ByteArray) (w : World) : Calls Tryd.prog 17 #[.int .i64 k, .string o] w (SplitIs k o w) := by
  have HC : Aside0 (∀ W, Calls Tryd.prog 47 #[.int .i64 k, .int .i64 0] W fun e w' => e = .returned (.bool (codeB k 0)) ∧ Drawn0 W w') := ⟨fun W => stripe_code.calls _ _ _ W (code_f k 0)⟩
  unfold SplitIs splitV
  cases hcb : codeB k 0 with
  | false =>
    rw [if_neg (by decide)]
    rw [hcb] at HC
    go_enter Tryd.func17, Tryd.ntmps17
    go_wp2_with fail
    refine (HC.out _).mono ?_
    rintro e w1 ⟨rfl, ⟨n1, rfl⟩⟩
    go_wp2
    go_ret2
    exact ⟨_, rfl, Kd.R_nil _ _ _ _ _, pw_below_drewN (Below.refl _ _) _⟩
  | true =>
    rw [if_pos rfl]
    by_cases ho : o.size ≤ 2048
    · rw [if_pos ho]
      obtain ⟨K, M, rfl, hM, h1, h2⟩ := codeB_nat hcb
      have := split_main K h1 (by omega) o w ho
      simpa using this
    · rw [if_neg ho]
      rw [hcb] at HC
      have d1 : decide ((2048 : Int) < (o.size : Int)) = true := by simp; omega
      go_enter Tryd.func17, Tryd.ntmps17
      go_wp2_with fail
      refine (HC.out _).mono ?_
      rintro e w1 ⟨rfl, ⟨n1, rfl⟩⟩
      go_wp2
      go_ret2
      exact ⟨_, rfl, Kd.R_nil _ _ _ _ _, pw_below_drewN (Below.refl _ _) _⟩
def stripe_Split.f (a0 : Int) (a1 : ByteArray) : Option (List ByteArray × Int) := some (splitV a0 a1)
theorem stripe_Split.calls (a0 : Int) (a1 : ByteArray) (r1 : List ByteArray) (r2 : Int) (w : World) (h : stripe_Split.f a0 a1 = some (r1, r2)) :
    Calls Tryd.prog 17 #[.int .i64 a0, .string a1] w fun e w' => ∃ v0_ : Value, e = .returned (.tuple #[v0_, .int .i64 r2]) ∧ Kd.R Kd.string 9 w' w.heap.size (fun _ => True) v0_ r1 ∧ Below w.heap.size w w' := by
  have := split_walk a0 a1 w
  unfold SplitIs at this
  unfold stripe_Split.f at h
  rw [Option.some.inj h] at this
  exact this
end Go.Proofs.YtegmmefijihdeaaDoor.PS
namespace Go.Proofs.YtegmmefijihdeaaDoor.PS
open Go.RowKit Go.Proofs.YtegmmefijihdeaaDoorW.PrintWords Go.Proofs.YtegmmefijihdeaaDoorW.PrintLast Go.Proofs.YtegmmefijihdeaaDoorW.PrintMore
attribute [local go_sem] Mk.str_leq Mk.str_gtr Mk.str_geq max2_int min2_int max_two min_two max_three min_three max_four min_four   -- for this text's walks alone
set_option linter.unusedVariables false
set_option linter.unusedSimpArgs false

/-! ### stripe_Encode: function 26 -/
def stripe_Encode.f (a0 : Int) (a1 : Int) (a2 : ByteArray) : Option (List ByteArray × Int) := (stripe_code.f a0 a1).bind fun t122 => (if t122 = true then ((stripe_Split.f a0 a2).bind fun bt123 => (if bt123.2 = 0 then ((stripe_Parity.f a0 a1 bt123.1).bind fun bt127 => (if bt123.1.length + bt127.1.length < 8796093022208 then (some ((bt123.1 ++ bt127.1), bt127.2)) else (none))) else (some (([] : List ByteArray), bt123.2)))) else (some (([] : List ByteArray), 1)))
set_option maxHeartbeats 8000000 in
set_option maxRecDepth 100000 in
theorem stripe_Encode.calls (a0 : Int) (a1 : Int) (a2 : ByteArray) (r1 : List ByteArray) (r2 : Int) (w : World) (h : stripe_Encode.f a0 a1 a2 = some (r1, r2)) :
  Calls Tryd.prog 26 #[.int .i64 a0, .int .i64 a1, .string a2] w fun e w' => ∃ v0_ : Value, e = .returned (.tuple #[v0_, .int .i64 r2]) ∧ Kd.R Kd.string 9 w' w.heap.size (fun _ => True) v0_ r1 ∧ Below w.heap.size w w' := by
 have HB := Aside0.mk (Below.refl w.heap.size w)
 have H : ((stripe_code.f a0 a1).bind fun t122 => (if t122 = true then ((stripe_Split.f a0 a2).bind fun bt123 => (if bt123.2 = 0 then ((stripe_Parity.f a0 a1 bt123.1).bind fun bt127 => (if bt123.1.length + bt127.1.length < 8796093022208 then (some ((bt123.1 ++ bt127.1), bt127.2)) else (none))) else (some (([] : List ByteArray), bt123.2)))) else (some (([] : List ByteArray), 1)))) = some (r1, r2) := h
 clear h
 replace H := Option.bind_eq_some_iff.mp H
 obtain ⟨t122, A40, H⟩ := H
 replace H : (if t122 = true then ((stripe_Split.f a0 a2).bind fun bt123 => (if bt123.2 = 0 then ((stripe_Parity.f a0 a1 bt123.1).bind fun bt127 => (if bt123.1.length + bt127.1.length < 8796093022208 then (some ((bt123.1 ++ bt127.1), bt127.2)) else (none))) else (some (([] : List ByteArray), bt123.2)))) else (some (([] : List ByteArray), 1))) = some (r1, r2) := H
 have A4 := Aside0.mk A40
 clear A40
 by_cases c5 : t122 = true
 ·subst c5
  have H1 : ((stripe_Split.f a0 a2).bind fun bt123 => (if bt123.2 = 0 then ((stripe_Parity.f a0 a1 bt123.1).bind fun bt127 => (if bt123.1.length + bt127.1.length < 8796093022208 then (some ((bt123.1 ++ bt127.1), bt127.2)) else (none))) else (some (([] : List ByteArray), bt123.2)))) = some (r1, r2) := by rw [if_pos rfl] at H; exact H
  clear H
  have H := H1
  clear H1
  replace H := Option.bind_eq_some_iff.mp H
  obtain ⟨⟨t123, t124⟩, A60, H⟩ := H
  replace H : (if t124 = 0 then ((stripe_Parity.f a0 a1 t123).bind fun bt127 => (if t123.length + bt127.1.length < 8796093022208 then (some ((t123 ++ bt127.1), bt127.2)) else (none))) else (some (([] : List ByteArray), t124))) = some (r1, r2) := H
  have A6 := Aside0.mk A60
  clear A60
  by_cases c7 : t124 = 0
  ·rw [if_pos c7] at H
   have c7b0 : (t124 == 0) = true := beq_iff_eq.mpr c7
   have c7b1 : (t124 != 0) = false := bne_eq_false_iff_eq.mpr c7
   clear c7
   replace H := Option.bind_eq_some_iff.mp H
   obtain ⟨⟨t127, t128⟩, A80, H⟩ := H
   replace H : (if t123.length + t127.length < 8796093022208 then (some ((t123 ++ t127), t128)) else (none)) = some (r1, r2) := H
   have A8 := Aside0.mk A80
   clear A80
   by_cases c9 : t123.length + t127.length < 8796093022208
   ·rw [if_pos c9] at H
    have LMc9 := Aside0.mk c9
    clear c9
    obtain ⟨y131, hy131⟩ : ∃ y_ : List ByteArray, y_ = (t123 ++ t127) := ⟨_, rfl⟩
    replace H : (some (y131, t128)) = some (r1, r2) := by first | (rw [hy131]; with_reducible exact H) | (have H2_ := (Option.bind_some _ _).symm.trans H; rw [hy131]; with_reducible exact H2_) | (have H2_ := (Option.bind_some _ _).symm.trans H; with_reducible exact H2_) | with_reducible exact H | (rw [hy131]; exact H) | exact H
    have Ny131 := Aside0.mk hy131
    clear hy131
    simp only [Option.some.injEq, Prod.mk.injEq] at H
    obtain ⟨rfl, rfl⟩ := H
    go_enter Tryd.func26, Tryd.ntmps26
    go_wp2_with (first | ((with_reducible refine gate_callee (f := 47) rfl ?_); refine goesL_ (some 13) rfl rfl Tryd.func47 (by kernel_rfl) rfl #[.int .i64 a0, .int .i64 a1] rfl (by (try simp only [List.map_toArray, List.map_cons, List.map_nil]); first | done | rfl | (simp only [List.length_drop, List.length_take]; rfl)) ?_; (with_reducible refine (stripe_code.calls a0 a1 true _ A4.out).mono ?_); rintro e w' ⟨rfl, ⟨nd, rfl⟩⟩; refine ⟨_, rfl, ?_⟩) | ((with_reducible refine gate_callee (f := 17) rfl ?_); refine goesL_ (some 18) rfl rfl Tryd.func17 (by kernel_rfl) rfl #[.int .i64 a0, .string a2] rfl (by (try simp only [List.map_toArray, List.map_cons, List.map_nil]); first | done | rfl | (simp only [List.length_drop, List.length_take]; rfl)) ?_; (with_reducible refine (stripe_Split.calls a0 a2 t123 t124 _ A6.out).mono ?_); rintro e w10 ⟨v125, rfl, ho0, hb⟩; refine ⟨_, rfl, ?_⟩; have n0_ := Aside0.mk (Kd.R_lower ho0 (below_size (by repeat (first | (with_reducible first | exact HB.out | apply below_alloc | apply pw_below_drewN | apply below_drew1) | exact HB.out)))); have n1_ := Aside0.mk (below_step (by repeat (first | (with_reducible first | exact HB.out | apply below_alloc | apply pw_below_drewN | apply below_drew1) | exact HB.out)) hb); clear HB; have HO126 := n0_; have HB := n1_; clear n0_ n1_; (try clear hb); (try clear hb2); (try clear hk); (try clear hi); (try clear ho0); obtain ⟨Ao11, co11, eo11⟩ := Kd.R_slice HO126.out; subst eo11) | ((with_reducible refine gate_callee (f := 28) rfl ?_); refine goesL_ (some 28) rfl rfl Tryd.func28 (by kernel_rfl) rfl #[.int .i64 a0, .int .i64 a1, .slice Ao11 t123.length co11] rfl (by (try simp only [List.map_toArray, List.map_cons, List.map_nil]); first | done | rfl | (simp only [List.length_drop, List.length_take]; rfl)) ?_; (with_reducible refine (stripe_Parity.calls a0 a1 _ _ t123 t127 t128 _ ?side1 ?side2 A8.out).mono ?_); (case side1 => repeat (first | exact (Kd.R_reads' HO126.out).2.2 | (with_reducible refine Kd.C_alloc ?_ _) | (with_reducible refine Kd.C_drewN ?_ _) | (with_reducible refine Kd.C_drew ?_))); (case side2 => exact (Kd.R_reads' HO126.out).2.1); rintro e w12 ⟨v129, rfl, ho0, hb⟩; refine ⟨_, rfl, ?_⟩; have n0_ := Aside0.mk (Kd.R_elder' (by (with_reducible repeat (first | apply Kd.R_alloc | apply Kd.R_drewN | apply Kd.R_drew)); exact HO126.out) (Kd.R_base ho0) hb); have n1_ := Aside0.mk (Kd.R_lower (Kd.R_new' ho0 (Kd.R_lt (by (with_reducible repeat (first | apply Kd.R_alloc | apply Kd.R_drewN | apply Kd.R_drew)); exact HO126.out))) (below_size (by repeat (first | (with_reducible first | exact HB.out | apply below_alloc | apply pw_below_drewN | apply below_drew1) | exact HB.out)))); have n2_ := Aside0.mk (below_step (by repeat (first | (with_reducible first | exact HB.out | apply below_alloc | apply pw_below_drewN | apply below_drew1) | exact HB.out)) hb); clear HO126; clear HB; have HO126 := n0_; have HO130 := n1_; have HB := n2_; clear n0_ n1_ n2_; (try clear hb); (try clear hb2); (try clear hk); (try clear hi); (try clear ho0); obtain ⟨Ao14, co14, eo14⟩ := Kd.R_slice HO130.out; subst eo14) | ((with_reducible refine gate_builtin (b := .append) (xs := #[.tmp 31, .tmp 32]) rfl ?_); at_builtin; refine Kd.R_append_rows Kd.string (w0 := w) w.heap.size rfl (.tmp 31) (.tmp 32) 25 9 (.string ⟨#[]⟩) 16 rfl Tryd.underlying25 info9 rfl (by decide) (by omega) (.slice Ao11 t123.length co11) t123 t127 _ _ _ (fun k_ => some k_ ≠ (.slice Ao14 t127.length co14 : Value).ownBlock) (fun _ => False) rfl rfl ?aO ?aR (fun _ _ h => h) (fun _ h => h.elim) ?aF ?aB ?aS ?aL ?_; (case aR => repeat (first | exact (Kd.R_reads' HO130.out).2.2 | (with_reducible refine Kd.C_alloc ?_ _) | (with_reducible refine Kd.C_drewN ?_ _) | (with_reducible refine Kd.C_drew ?_))); (case aB => exact (by repeat (first | (with_reducible first | exact HB.out | apply below_alloc | apply pw_below_drewN | apply below_drew1) | exact HB.out))); (case aF => exact (fun k_ hk => Kd.fresh' (Kd.R_lt (by (with_reducible repeat (first | apply Kd.R_alloc | apply Kd.R_drewN | apply Kd.R_drew)); exact HO130.out)) k_ hk)); (case aO => exact (by (with_reducible repeat (first | apply Kd.R_alloc | apply Kd.R_drewN | apply Kd.R_drew)); exact Kd.R_mono HO126.out (fun _ hk => hk.2))); (case aS => exact (below_size (by repeat (first | (with_reducible first | exact HB.out | apply below_alloc | apply pw_below_drewN | apply below_drew1) | exact HB.out)))); (case aL => have := LMc9.out; omega); intro v132 w13 ho hb hg hat; rw [← Ny131.out] at ho; have n0_ := Aside0.mk (Kd.R_after (ok := (fun _ => True)) (by (with_reducible repeat (first | apply Kd.R_alloc | apply Kd.R_drewN | apply Kd.R_drew)); exact HO130.out) hg hat); have n1_ := Aside0.mk (hb); have n2_ := Aside0.mk (ho); clear HO130; clear HB; clear HO126; have HO130 := n0_; have HB := n1_; have HO133 := n2_; clear n0_ n1_ n2_; clear ho hb hg hat))
    go_ret2
    exact ⟨_, by first | rfl | (simp [errW_none, errW_some] <;> rfl) | (simp [*, errW_none, errW_some] <;> rfl), by (with_reducible repeat (first | apply Kd.R_alloc | apply Kd.R_drewN | apply Kd.R_drew)); exact Kd.R_mono HO133.out (fun _ hk => trivial), by repeat (first | (with_reducible first | exact HB.out | apply below_alloc | apply pw_below_drewN | apply below_drew1) | exact HB.out)⟩
   ·rw [if_neg c9] at H
    exact absurd H (by simp)
  ·rw [if_neg c7] at H
   have c7b0 : (t124 == 0) = false := beq_eq_false_iff_ne.mpr c7
   have c7b1 : (t124 != 0) = true := bne_iff_ne.mpr c7
   simp only [Option.some.injEq, Prod.mk.injEq] at H
   obtain ⟨rfl, rfl⟩ := H
   go_enter Tryd.func26, Tryd.ntmps26
   go_wp2_with (first | ((with_reducible refine gate_callee (f := 47) rfl ?_); refine goesL_ (some 13) rfl rfl Tryd.func47 (by kernel_rfl) rfl #[.int .i64 a0, .int .i64 a1] rfl (by (try simp only [List.map_toArray, List.map_cons, List.map_nil]); first | done | rfl | (simp only [List.length_drop, List.length_take]; rfl)) ?_; (with_reducible refine (stripe_code.calls a0 a1 true _ A4.out).mono ?_); rintro e w' ⟨rfl, ⟨nd, rfl⟩⟩; refine ⟨_, rfl, ?_⟩) | ((with_reducible refine gate_callee (f := 17) rfl ?_); refine goesL_ (some 18) rfl rfl Tryd.func17 (by kernel_rfl) rfl #[.int .i64 a0, .string a2] rfl (by (try simp only [List.map_toArray, List.map_cons, List.map_nil]); first | done | rfl | (simp only [List.length_drop, List.length_take]; rfl)) ?_; (with_reducible refine (stripe_Split.calls a0 a2 t123 t124 _ A6.out).mono ?_); rintro e w15 ⟨v125, rfl, ho0, hb⟩; refine ⟨_, rfl, ?_⟩; have n0_ := Aside0.mk (Kd.R_lower ho0 (below_size (by repeat (first | (with_reducible first | exact HB.out | apply below_alloc | apply pw_below_drewN | apply below_drew1) | exact HB.out)))); have n1_ := Aside0.mk (below_step (by repeat (first | (with_reducible first | exact HB.out | apply below_alloc | apply pw_below_drewN | apply below_drew1) | exact HB.out)) hb); clear HB; have HO126 := n0_; have HB := n1_; clear n0_ n1_; (try clear hb); (try clear hb2); (try clear hk); (try clear hi); (try clear ho0)))
   go_ret2
   exact ⟨_, by first | rfl | (simp [errW_none, errW_some] <;> rfl) | (simp [*, errW_none, errW_some] <;> rfl), by first | exact Kd.R_nil _ _ _ _ _ | exact Kd.N_nil _ _ _ _ _ | exact Kd.V_nil _ _ _ _ _ | exact Kd.Q_nil _ _ _ _ _ | exact Kd.S_nil _ _ _ _ _, by repeat (first | (with_reducible first | exact HB.out | apply below_alloc | apply pw_below_drewN | apply below_drew1) | exact HB.out)⟩
 ·replace c5 := Bool.eq_false_iff.mpr c5
  subst c5
  have H1 : (some (([] : List ByteArray), 1)) = some (r1, r2) := by rw [if_neg (show ¬ (false = true) by decide)] at H; exact H
  clear H
  have H := H1
  clear H1
  simp only [Option.some.injEq, Prod.mk.injEq] at H
  obtain ⟨rfl, rfl⟩ := H
  go_enter Tryd.func26, Tryd.ntmps26
  go_wp2_with (first | ((with_reducible refine gate_callee (f := 47) rfl ?_); refine goesL_ (some 13) rfl rfl Tryd.func47 (by kernel_rfl) rfl #[.int .i64 a0, .int .i64 a1] rfl (by (try simp only [List.map_toArray, List.map_cons, List.map_nil]); first | done | rfl | (simp only [List.length_drop, List.length_take]; rfl)) ?_; (with_reducible refine (stripe_code.calls a0 a1 false _ A4.out).mono ?_); rintro e w' ⟨rfl, ⟨nd, rfl⟩⟩; refine ⟨_, rfl, ?_⟩))
  go_ret2
  exact ⟨_, by first | rfl | (simp [errW_none, errW_some] <;> rfl) | (simp [*, errW_none, errW_some] <;> rfl), by first | exact Kd.R_nil _ _ _ _ _ | exact Kd.N_nil _ _ _ _ _ | exact Kd.V_nil _ _ _ _ _ | exact Kd.Q_nil _ _ _ _ _ | exact Kd.S_nil _ _ _ _ _, by repeat (first | (with_reducible first | exact HB.out | apply below_alloc | apply pw_below_drewN | apply below_drew1) | exact HB.out)⟩

end Go.Proofs.YtegmmefijihdeaaDoor.PS
namespace Go.Proofs.YtegmmefijihdeaaDoor.PS
open Go.RowKit Go.Proofs.YtegmmefijihdeaaDoorW.PrintWords Go.Proofs.YtegmmefijihdeaaDoorW.PrintLast Go.Proofs.YtegmmefijihdeaaDoorW.PrintMore Go.Proofs.YtegmmefijihdeaaDoor.Gf Go.Proofs.YtegmmefijihdeaaDoor.Grd Go.Proofs.YtegmmefijihdeaaDoor.Rowb
set_option linter.unusedVariables false
set_option linter.unusedSimpArgs false
theorem or_join (x y i j : Nat) (hij : i ≤ j) (hj : j ≤ 62) (hx : 2 ^ i ∣ x) (hx2 : x < 2 ^ j) (hy : y < 2 ^ i) : bits .or .i64 (x : Int) (y : Int) = ((x + y : Nat) : Int) := by
  have hw : ∀ n : Int, 0 ≤ n → n < 2 ^ j → IntKind.i64.wrap n = n := fun n h0 h1 => by
    have h2 : (2 : Int) ^ j ≤ 2 ^ 62 := by
      have := Nat.pow_le_pow_right (n := 2) (by decide) hj
      exact_mod_cast this
    rw [IntKind.wrap_i64]
    have h3 : (2 : Int) ^ 62 = 4611686018427387904 := by decide
    omega
  have h := (bits_nat .i64 j (by show j ≤ 64; omega) hw x y hx2 (Nat.lt_of_lt_of_le hy (Nat.pow_le_pow_right (by decide) hij))).2
  rw [h]
  obtain ⟨c, rfl⟩ := hx
  rw [Nat.two_pow_add_eq_or_of_lt hy c]
/-- The length ahead of plain bytes. -/
def longOf (s : List UInt8) : Nat := (s.getD 0 0).toNat * 16777216 + (s.getD 1 0).toNat * 65536 + (s.getD 2 0).toNat * 256 + (s.getD 3 0).toNat
def joinS (K : Nat) (s : List UInt8) : ByteArray × Int :=
  if s.length < 4 then (⟨#[]⟩, 41) else if longOf s ≤ 2048 ∧ sizeN K (longOf s) * K = s.length then (if (s.drop (4 + longOf s)).all (· == 0) = true then (txt ((s.drop 4).take (longOf s)), 0) else (⟨#[]⟩, 41)) else (⟨#[]⟩, 41)
def flat (l : List ByteArray) : List UInt8 := (l.map (·.data.toList)).flatten
def joinV (l : List ByteArray) : ByteArray × Int := if 1 ≤ l.length ∧ l.length ≤ 255 then (if evenB l = true then joinS l.length (flat l) else (⟨#[]⟩, 4)) else (⟨#[]⟩, 1)
theorem flat_join (l : List ByteArray) : Lib.join (l.map (·.data.toList)) (⟨#[]⟩ : ByteArray).data.toList = flat l := join_flat _
theorem cell_plain {w : World} {a : Addr} {v : Value} (h : w.cell? a = some v) : a = ⟨a.block, a.off, none⟩ := by
  obtain ⟨b, o, s⟩ := a
  cases s with
  | none => rfl
  | some x =>
    exfalso
    unfold World.cell? at h
    simp only [Option.isSome_some, if_true] at h
    split at h <;> cases h
theorem dw_nil (p : UInt8 → Bool) : ∀ l : List UInt8, l.dropWhile p = [] ↔ ∀ x, x ∈ l → p x = true
  | [] => by simp
  | a :: l => by
    by_cases h : p a = true
    · rw [List.dropWhile_cons_of_pos h, dw_nil p l]
      constructor
      · intro hl x hx
        rcases List.mem_cons.1 hx with rfl | hx
        · exact h
        · exact hl x hx
      · intro hl x hx
        exact hl x (List.mem_cons_of_mem _ hx)
    · rw [List.dropWhile_cons_of_neg h]
      constructor
      · intro hl; cases hl
      · intro hl; exact absurd (hl a List.mem_cons_self) h
theorem dw_head (p : UInt8 → Bool) : ∀ (l : List UInt8) (a : UInt8) (t : List UInt8), l.dropWhile p = a :: t → ¬ p a = true
  | [], a, t, h => by cases h
  | b :: l, a, t, h => by
    by_cases hb : p b = true
    · rw [List.dropWhile_cons_of_pos hb] at h
      exact dw_head p l a t h
    · rw [List.dropWhile_cons_of_neg hb] at h
      injection h with h1 h2
      rw [← h1]; exact hb
theorem trim_all (l : List UInt8) : (Lib.trimB l 0 = []) ↔ l.all (· == 0) = true := by
  unfold Lib.trimB Lib.trimLeftB Lib.trimRightB
  rw [dw_nil, List.all_eq_true]
  constructor
  · intro h
    have h0 : l.reverse.dropWhile (· == 0) = [] := by
      cases hd : l.reverse.dropWhile (· == 0) with
      | nil => rfl
      | cons a t => exact absurd (h a (List.mem_reverse.2 (by rw [hd]; exact List.mem_cons_self))) (dw_head (fun x => x == 0) _ _ _ hd)
    rw [dw_nil] at h0
    intro x hx
    exact h0 x (List.mem_reverse.2 hx)
  · intro h x hx
    have h0 : l.reverse.dropWhile (· == 0) = [] := (dw_nil _ _).2 (fun y hy => h y (List.mem_reverse.1 hy))
    rw [h0] at hx
    simp at hx
section
variable (A0 : Option Addr) (c0 : Nat) (l : List ByteArray) (w : World) (hr : Kd.C Kd.string w A0 l.length l) (hc : l.length ≤ c0)
include hr hc
set_option maxRecDepth 100000 in
set_option maxHeartbeats 2000000 in
theorem join_main (h1 : 1 ≤ l.length) (h2 : l.length ≤ 255) (he : evenB l = true) (hb : (flat l).length ≤ 140737488355328) :
    Calls Tryd.prog 22 #[.slice A0 l.length c0] w fun e w' => e = .returned (.tuple #[.string (joinS l.length (flat l)).1, .int .i64 (joinS l.length (flat l)).2]) ∧ Below w.heap.size w w' := by
  have HE : Aside0 (∀ W, Below w.heap.size w W → Calls Tryd.prog 50 #[.slice A0 l.length c0] W fun e w' => e = .returned (.bool true) ∧ Drawn0 W w') := ⟨fun W hb => by have := even_walk A0 c0 l W (Kd.C_below hr hb) hc; rwa [he] at this⟩
  have HJ : Aside0 (∀ W, Below w.heap.size w W → Calls Tryd.prog 51 #[.slice A0 l.length c0, .string ⟨#[]⟩] W fun e w' => e = .returned (.string (txt (flat l))) ∧ Below W.heap.size W w') := ⟨fun W hB => by
    obtain ⟨ad, hA, hx0⟩ := Kd.at_string hr 0 (by omega) (by omega)
    subst hA
    rw [show ((0 : Int)).toNat = 0 from rfl, Addr.add_zero'] at hx0
    have hp := cell_plain hx0
    obtain ⟨b, o, sp⟩ := ad
    simp only at hp
    have hsp : sp = none := by injection hp
    subst hsp
    have hlt := World.block_lt_of_cell? _ _ hx0
    have := Tryd.strings_Join b o c0 l ⟨#[]⟩ W (fun j x hj => by
      obtain ⟨hj', rfl⟩ := List.getElem?_eq_some_iff.1 hj
      obtain ⟨ad', e', hxj⟩ := Kd.at_string (Kd.C_below hr hB) (j : Int) (by omega) (by omega)
      injection e' with e'
      subst e'
      rw [rdOf_nat l j hj', Int.toNat_natCast] at hxj
      have e2 : (⟨b, o, none⟩ : Addr).add j = ⟨b, o + j, none⟩ := by unfold Addr.add; split <;> simp_all
      rw [e2] at hxj
      exact hxj) (Nat.lt_of_lt_of_le hlt hB.size) (by omega) hc (by rw [flat_join]; exact hb)
    rw [flat_join] at this
    exact this⟩
  have HS : Aside0 (∀ (W : World) (long : Int), Calls Tryd.prog 15 #[.int .i64 (l.length : Int), .int .i64 long] W fun e w' => e = .returned (.tuple #[.int .i64 (sizeV l.length long).1, .int .i64 (sizeV l.length long).2]) ∧ Drawn0 W w') := ⟨fun W long => stripe_Size.calls _ _ _ _ W (size_f _ _)⟩
  have d1 : decide ((l.length : Int) < 1) = false := by simp; omega
  have d2 : decide ((255 : Int) < (l.length : Int)) = false := by simp; omega
  have HTS := Aside0.mk (txt_size (flat l))
  have HTL := Aside0.mk (txt_list (flat l))
  generalize txt (flat l) = s at *
  have hsb : s.size ≤ 140737488355328 := by rw [HTS.out]; exact hb
  generalize flat l = fl at *
  clear hr hc hb
  by_cases h4 : s.size < 4
  · have d4 : decide ((s.size : Int) < 4) = true := by simp; omega
    go_enter Tryd.func22, Tryd.ntmps22
    go_wp2_with fail
    refine (HE.out _ (Below.refl _ _)).mono ?_
    rintro e w1 ⟨rfl, ⟨n1, rfl⟩⟩
    go_wp2_with fail
    refine (HJ.out _ (pw_below_drewN (Below.refl _ _) _)).mono ?_
    rintro e w2 ⟨rfl, hb2⟩
    go_wp2
    go_ret2
    exact ⟨by unfold joinS; rw [if_pos (by have := HTS.out; omega)]; rfl, (pw_below_drewN (Below.refl _ _) _).trans hb2⟩
  · have d4 : decide ((s.size : Int) < 4) = false := by simp; omega
    go_enter Tryd.func22, Tryd.ntmps22
    go_wp2_with fail
    refine (HE.out _ (Below.refl _ _)).mono ?_
    rintro e w1 ⟨rfl, ⟨n1, rfl⟩⟩
    go_wp2_with fail
    refine (HJ.out _ (pw_below_drewN (Below.refl _ _) _)).mono ?_
    rintro e w2 ⟨rfl, hb2⟩
    have i3 : 3 < s.size := by omega
    have i2 : 2 < s.size := by omega
    have i1 : 1 < s.size := by omega
    have i0 : 0 < s.size := by omega
    have hgd : ∀ j (hj : j < s.size), (fl.getD j 0).toNat = s[j].toNat := fun j hj => by
      have hj' : j < s.data.toList.length := by rw [Array.length_toList]; exact hj
      rw [← HTL.out, List.getD_eq_getElem?_getD, List.getElem?_eq_getElem hj']
      rfl
    obtain ⟨a0, ha0⟩ : ∃ a, s[0].toNat = a := ⟨_, rfl⟩
    obtain ⟨a1, ha1⟩ : ∃ a, s[1].toNat = a := ⟨_, rfl⟩
    obtain ⟨a2, ha2⟩ : ∃ a, s[2].toNat = a := ⟨_, rfl⟩
    obtain ⟨a3, ha3⟩ : ∃ a, s[3].toNat = a := ⟨_, rfl⟩
    have b0 : a0 < 256 := by rw [← ha0]; exact b_lt _
    have b1 : a1 < 256 := by rw [← ha1]; exact b_lt _
    have b2 : a2 < 256 := by rw [← ha2]; exact b_lt _
    have b3 : a3 < 256 := by rw [← ha3]; exact b_lt _
    have HLO : Aside0 (longOf fl = a0 * 16777216 + a1 * 65536 + a2 * 256 + a3) := ⟨by
      unfold longOf
      rw [hgd 0 i0, hgd 1 i1, hgd 2 i2, hgd 3 i3, ha0, ha1, ha2, ha3]⟩
    obtain ⟨p1, hq1⟩ : ∃ p1, p1 = a0 * 16777216 + a1 * 65536 := ⟨_, rfl⟩
    obtain ⟨p2, hq2⟩ : ∃ p2, p2 = a0 * 16777216 + a1 * 65536 + a2 * 256 := ⟨_, rfl⟩
    obtain ⟨n, hn⟩ : ∃ n, n = longOf fl := ⟨_, rfl⟩
    have hn2 : n = a0 * 16777216 + a1 * 65536 + a2 * 256 + a3 := hn.trans HLO.out
    have o1 : bits .or .i64 ((a0 : Int) * 16777216) ((a1 : Int) * 65536) = (p1 : Int) := by
      have := or_join (a0 * 16777216) (a1 * 65536) 24 40 (by omega) (by omega) ⟨a0, by omega⟩ (by omega) (by omega)
      rw [Int.natCast_mul, Int.natCast_mul] at this
      rw [hq1]; exact this
    have o2 : bits .or .i64 (p1 : Int) ((a2 : Int) * 256) = (p2 : Int) := by
      have := or_join (a0 * 16777216 + a1 * 65536) (a2 * 256) 16 40 (by omega) (by omega) ⟨a0 * 256 + a1, by omega⟩ (by omega) (by omega)
      rw [Int.natCast_mul a2] at this
      rw [hq1, hq2]; exact this
    have o3 : bits .or .i64 (p2 : Int) (a3 : Int) = (n : Int) := by
      have := or_join (a0 * 16777216 + a1 * 65536 + a2 * 256) a3 8 40 (by omega) (by omega) ⟨a0 * 65536 + a1 * 256 + a2, by omega⟩ (by omega) (by omega)
      rw [hq2, hn2]; exact this
    have hlb : n < 4294967296 := by omega
    have hp1 : p1 < 4294967296 := by omega
    have hp2 : p2 < 4294967296 := by omega
    have HLN := Aside0.mk hn
    clear hq1 hq2 hgd hn2 hn
    go_wp2_with fail
    go_quiet (fail)
    have HB3 : Aside0 (Below w.heap.size w (w2.drewN nq)) := ⟨pw_below_drewN ((pw_below_drewN (Below.refl _ _) _).trans hb2) _⟩
    generalize w2.drewN nq = w3 at *
    have hnlt : ¬ s.size < 4 := h4
    clear hb2 ha0 ha1 ha2 ha3 b0 b1 b2 b3 o1 o2 o3 hp1 hp2 HLO HE HJ
    by_cases hn : n ≤ 2048
    · have hsv : sizeV (l.length : Int) (n : Int) = ((sizeN l.length n : Int), 0) := by
        unfold sizeV
        rw [if_pos ⟨by unfold codeB; exact decide_eq_true (by omega), by omega, by omega⟩]
        rfl
      have HS2 := HS.out w3 n
      rw [hsv] at HS2
      have HS3 := Aside0.mk HS2
      have HGE := sizeN_ge l.length n h1
      have hql : sizeN l.length n ≤ 4 + n + l.length := Nat.le_trans (Nat.div_le_self _ _) (by omega)
      have HEQ : Aside0 (∀ q, q = sizeN l.length n → joinS l.length fl = if q * l.length = s.size then (if (fl.drop (4 + n)).all (· == 0) = true then (txt ((fl.drop 4).take n), 0) else (⟨#[]⟩, 41)) else (⟨#[]⟩, 41)) := ⟨fun q hq => by
        unfold joinS
        rw [if_neg (by rw [← HTS.out]; exact hnlt), ← HLN.out, ← HTS.out, hq]
        by_cases e : sizeN l.length n * l.length = s.size
        · rw [if_pos ⟨hn, e⟩, if_pos e]
        · rw [if_neg (fun h => e h.2), if_neg e]⟩
      obtain ⟨q, hq⟩ : ∃ q, q = sizeN l.length n := ⟨_, rfl⟩
      have HE2 := HEQ.out q hq
      rw [← hq] at HS3 HGE hql
      obtain ⟨y, hy⟩ : ∃ y, q * l.length = y := ⟨_, rfl⟩
      have hyi : (q : Int) * (l.length : Int) = (y : Int) := by rw [← hy]; push_cast; rfl
      have hyb : y ≤ 3000 * 255 := by rw [← hy]; exact Nat.mul_le_mul (by omega) h2
      rw [hy] at HE2 HGE
      have HE3 := Aside0.mk HE2
      clear hy HE2 HS2 hsv HS hq HEQ
      by_cases hys : y = s.size
      · have d5 : ((y : Int) != (s.size : Int)) = false := by simp [hys]
        have hsl1 : ∀ W, (Instr.slice 9 (.string s) (some (.int .i64 4)) (some (.int .i64 (4 + (n : Int)))) none).run Tryd.prog W = .ok (.string (txt ((fl.drop 4).take n))) W := fun W => by
          have := run_slice_string (P := Tryd.prog) (w := W) 9 s .i64 .i64 4 (4 + (n : Int)) Tryd.underlying9 (by omega) (by omega) (by omega)
          rw [this, show (4 + (n : Int)).toNat = 4 + n by omega, show ((4 : Int)).toNat = 4 from rfl]
          congr 2
          apply ByteArray.ext
          apply Array.ext'
          rw [ByteArray.data_extract, Array.toList_extract, HTL.out, txt_list]
          simp [List.extract_eq_take_drop]
        have hsl2 : ∀ W, (Instr.slice 9 (.string s) (some (.int .i64 (4 + (n : Int)))) none none).run Tryd.prog W = .ok (.string (txt (fl.drop (4 + n)))) W := fun W => by
          have := run_slice_string_l (P := Tryd.prog) (w := W) (t := 9) (s := s) Tryd.underlying9 .i64 (4 + (n : Int)) (by omega) (by omega)
          rw [this, show (4 + (n : Int)).toNat = 4 + n by omega]
          congr 2
          apply ByteArray.ext
          apply Array.ext'
          rw [ByteArray.data_extract, Array.toList_extract, HTL.out, txt_list]
          rw [List.extract_eq_take_drop, List.take_of_length_le (by rw [List.length_drop, HTS.out]; omega)]
        have htr := trim_all (fl.drop (4 + n))
        have HTR : Aside0 (∀ W : World, Calls Tryd.prog 52 #[.string (txt (fl.drop (4 + n))), .string ⟨#[0]⟩] W fun e w' => e = .returned (.string (txt (Lib.trimB (fl.drop (4 + n)) 0))) ∧ (w' = W ∨ w' = W.drew)) := ⟨fun W => by
          have := Tryd.strings_Trim_one (txt (fl.drop (4 + n))) 0 (by decide) W (by rw [txt_size, List.length_drop, ← HTS.out]; omega)
          rw [txt_list] at this
          exact this⟩
        have j1 : (0 : Int) ≤ 4 + (n : Int) := by omega
        have j2 : 4 + (n : Int) ≤ (s.size : Int) := by omega
        cases hz : (fl.drop (4 + n)).all (· == 0) with
        | true =>
          rw [hz] at HE3
          have ht := htr.2 hz
          rw [ht, show txt [] = ⟨#[]⟩ from rfl] at HTR
          clear htr hz ht
          generalize txt (fl.drop (4 + n)) = rs at *
          generalize ho : txt ((fl.drop 4).take n) = ob at *
          clear ho
          go_wp2_with fail
          refine HS3.out.mono ?_
          rintro e w4 ⟨rfl, ⟨n4, rfl⟩⟩
          go_wp2_with fail
          go_quiet (fail)
          go_wp2_with fail
          refine (HTR.out _).mono ?_
          rintro e w5 ⟨rfl, hw5⟩
          have hB5 : Below w.heap.size w w5 := by
            rcases hw5 with rfl | rfl
            · repeat (first | exact HB3.out | apply pw_below_drewN)
            · refine below_drew1 ?_
              repeat (first | exact HB3.out | apply pw_below_drewN)
          clear hw5
          go_wp2
          go_ret2
          exact ⟨by rw [HE3.out, if_pos hys]; rfl, hB5⟩
        | false =>
          rw [hz] at HE3
          have ht : Lib.trimB (fl.drop (4 + n)) 0 ≠ [] := fun e => by rw [htr.1 e] at hz; cases hz
          obtain ⟨tr, htr2⟩ : ∃ tr, txt (Lib.trimB (fl.drop (4 + n)) 0) = tr := ⟨_, rfl⟩
          have ht2 : tr.toList.isEmpty = false := by
            rw [← htr2, ByteArray.toList_eq, txt_list]
            cases hc : Lib.trimB (fl.drop (4 + n)) 0 with
            | nil => exact absurd hc ht
            | cons a t => rfl
          have ht3 : ¬ tr.toList = [] := fun e => by rw [e] at ht2; cases ht2
          rw [htr2] at HTR
          clear htr hz ht htr2
          generalize txt (fl.drop (4 + n)) = rs at *
          generalize ho : txt ((fl.drop 4).take n) = ob at *
          clear ho
          go_wp2_with fail
          refine HS3.out.mono ?_
          rintro e w4 ⟨rfl, ⟨n4, rfl⟩⟩
          go_wp2_with fail
          go_quiet (fail)
          go_wp2_with fail
          refine (HTR.out _).mono ?_
          rintro e w5 ⟨rfl, hw5⟩
          have hB5 : Below w.heap.size w w5 := by
            rcases hw5 with rfl | rfl
            · repeat (first | exact HB3.out | apply pw_below_drewN)
            · refine below_drew1 ?_
              repeat (first | exact HB3.out | apply pw_below_drewN)
          clear hw5
          go_wp2
          go_ret2
          exact ⟨by rw [HE3.out, if_pos hys]; rfl, hB5⟩
      · have d5 : ((y : Int) != (s.size : Int)) = true := by simp; omega
        go_wp2_with fail
        refine HS3.out.mono ?_
        rintro e w4 ⟨rfl, ⟨n4, rfl⟩⟩
        go_wp2
        go_ret2
        exact ⟨by rw [HE3.out, if_neg hys]; rfl, pw_below_drewN HB3.out _⟩
    · have hsv : sizeV (l.length : Int) (n : Int) = (0, 1) := by
        unfold sizeV
        rw [if_neg (by omega)]
      have HS2 := HS.out w3 n
      rw [hsv] at HS2
      have HS3 := Aside0.mk HS2
      clear HS2 hsv HS
      go_wp2_with fail
      refine HS3.out.mono ?_
      rintro e w4 ⟨rfl, ⟨n4, rfl⟩⟩
      go_wp2
      go_ret2
      exact ⟨by unfold joinS; rw [if_neg (by rw [← HTS.out]; exact hnlt), if_neg (fun h => hn (by rw [HLN.out]; exact h.1))]; rfl, pw_below_drewN HB3.out _⟩
end
set_option maxRecDepth 100000 in
set_option maxHeartbeats 1000000 in
theorem join_walk (A0 : Option Addr) (c0 : Nat) (l : List ByteArray) (w : World) (hr : Kd.C Kd.string w A0 l.length l) (hc : l.length ≤ c0) (hb : 1 ≤ l.length → l.length ≤ 255 → evenB l = true → (flat l).length ≤ 140737488355328) :
    Calls Tryd.prog 22 #[.slice A0 l.length c0] w fun e w' => e = .returned (.tuple #[.string (joinV l).1, .int .i64 (joinV l).2]) ∧ Below w.heap.size w w' := by
  unfold joinV
  by_cases h : 1 ≤ l.length ∧ l.length ≤ 255
  · rw [if_pos h]
    cases heb : evenB l with
    | true =>
      rw [if_pos rfl]
      exact join_main A0 c0 l w hr hc h.1 h.2 heb (hb h.1 h.2 heb)
    | false =>
      rw [if_neg (by decide)]
      have HE := Aside0.mk (even_walk A0 c0 l w hr hc)
      rw [heb] at HE
      have d1 : decide ((l.length : Int) < 1) = false := by simp; omega
      have d2 : decide ((255 : Int) < (l.length : Int)) = false := by simp; omega
      clear hr hc
      go_enter Tryd.func22, Tryd.ntmps22
      go_wp2_with fail
      refine HE.out.mono ?_
      rintro e w1 ⟨rfl, ⟨n1, rfl⟩⟩
      go_wp2
      go_ret2
      exact ⟨rfl, pw_below_drewN (Below.refl _ _) _⟩
  · rw [if_neg h]
    have hlen := Kd.C_max hr
    by_cases h1 : l.length = 0
    · have d1 : decide ((l.length : Int) < 1) = true := by simp; omega
      clear hr hc
      go_enter Tryd.func22, Tryd.ntmps22
      go_wp2
      go_ret2
      exact ⟨rfl, Below.refl _ _⟩
    · have d1 : decide ((l.length : Int) < 1) = false := by simp; omega
      have d2 : decide ((255 : Int) < (l.length : Int)) = true := by simp; omega
      clear hr hc
      go_enter Tryd.func22, Tryd.ntmps22
      go_wp2
      go_ret2
      exact ⟨rfl, Below.refl _ _⟩
/-- Are these joined within one allocation? -/
def joinFits (l : List ByteArray) : Bool := decide (1 ≤ l.length ∧ l.length ≤ 255 ∧ evenB l = true → (flat l).length ≤ 140737488355328)
def stripe_Join.f (l0 : List ByteArray) : Option (ByteArray × Int) := if joinFits l0 = true then some (joinV l0) else none
theorem stripe_Join.calls (A0 : Option Addr) (c0 : Nat) (l0 : List ByteArray) (r1 : ByteArray) (r2 : Int) (w : World) (hr0 : Kd.C Kd.string w A0 l0.length l0) (hc0 : l0.length ≤ c0) (h : stripe_Join.f l0 = some (r1, r2)) :
    Calls Tryd.prog 22 #[.slice A0 l0.length c0] w fun e w' => e = .returned (.tuple #[.string r1, .int .i64 r2]) ∧ Below w.heap.size w w' := by
  unfold stripe_Join.f at h
  split at h
  · rename_i hf
    have := join_walk A0 c0 l0 w hr0 hc0 (fun h1 h2 h3 => (of_decide_eq_true hf) ⟨h1, h2, h3⟩)
    rw [Option.some.inj h] at this
    exact this
  · cases h
end Go.Proofs.YtegmmefijihdeaaDoor.PS
namespace Go.Proofs.YtegmmefijihdeaaDoor.Grd
open Go.RowKit Go.Proofs.YtegmmefijihdeaaDoorW.PrintWords Go.Proofs.YtegmmefijihdeaaDoorW.PrintLast Go.Proofs.YtegmmefijihdeaaDoorW.PrintMore Go.Proofs.YtegmmefijihdeaaDoor.Gf Go.Proofs.YtegmmefijihdeaaDoor.Rowb Go.Proofs.YtegmmefijihdeaaDoor.Fld
open Go.Lib (byteCells byteCells_length)
set_option linter.unusedVariables false
set_option linter.unusedSimpArgs false
theorem flat_row {c : Nat} : ∀ (M : Grid) (i : Nat) (hi : i < M.length), (∀ r, r ∈ M → r.length = c) → (M.flatten.drop (i * c)).take c = M[i]
  | r :: M, 0, _, h => by
    have h1 := h r List.mem_cons_self
    rw [Nat.zero_mul, List.drop_zero, List.flatten_cons, List.take_append_of_le_length (by omega), List.take_of_length_le (by omega)]
    rfl
  | r :: M, i + 1, hi, h => by
    have h1 := h r List.mem_cons_self
    rw [List.flatten_cons, Nat.succ_mul, List.drop_append, List.drop_of_length_le (by omega), List.nil_append, show i * c + c - r.length = i * c by omega]
    exact flat_row M i (by simpa using hi) (fun x hx => h x (List.mem_cons_of_mem _ hx))
theorem flat_len {c : Nat} : ∀ (M : Grid), (∀ r, r ∈ M → r.length = c) → M.flatten.length = M.length * c
  | [], _ => by simp
  | r :: M, h => by
    have h1 := h r List.mem_cons_self
    have ih := flat_len M (fun x hx => h x (List.mem_cons_of_mem _ hx))
    rw [List.flatten_cons, List.length_append, ih, h1, List.length_cons, Nat.succ_mul, Nat.add_comm]
theorem row_ne {w : World} {g p : Nat} {l : List UInt8} {cs : Array Value} (h : RowS w p l) (hg : w.heap[g]? = some (.cells cs 60 (0, 0))) : p ≠ g := by
  obtain ⟨sp, fr, h, _⟩ := h
  intro e
  subst e
  rw [h] at hg
  injection hg with hg
  injection hg with _ hg _
  exact absurd hg (by decide)
/-- The outer row: the first rows are there, the others are not yet. -/
def outerOf (ps : List (Nat × Nat)) (L : Grid) (n : Nat) : Array Value := (List.zipWith rowV ps L ++ List.replicate (n - L.length) nilV).toArray
structure PartAt (W : World) (base g : Nat) (ps : List (Nat × Nat)) (L : Grid) (n : Nat) : Prop where
  blk : W.heap[g]? = some (.cells (outerOf ps L n) 60 (0, 0))
  len : ps.length = L.length
  row : ∀ (i : Nat) (p : Nat × Nat) (l : List UInt8), ps[i]? = some p → L[i]? = some l → base ≤ p.1 ∧ l.length ≤ p.2 ∧ RowS W p.1 l
  nodup : (ps.map (·.1)).Nodup
theorem outer_new (n b : Nat) : outerOf [] [] n = oneOuter b n 0 := by
  apply Array.ext_getElem?
  intro j
  by_cases hj : j < n
  · rw [oneOuter_at b n 0 j hj, if_neg (by omega)]
    unfold outerOf
    simp [hj]
  · rw [Array.getElem?_eq_none (by simp [outerOf]; omega), Array.getElem?_eq_none (by simp [oneOuter]; omega)]
theorem outer_step (ps : List (Nat × Nat)) (L : Grid) (n : Nat) (hl : ps.length = L.length) (hn : L.length < n) (p : Nat × Nat) (l : List UInt8) :
    (outerOf ps L n).setIfInBounds L.length (rowV p l) = outerOf (ps ++ [p]) (L ++ [l]) n := by
  have hz : (List.zipWith rowV ps L).length = L.length := by simp [hl]
  unfold outerOf
  rw [List.setIfInBounds_toArray, List.set_append_right _ _ (by omega), hz, Nat.sub_self, List.zipWith_append hl, List.length_append]
  obtain ⟨m, hm⟩ : ∃ m, n - L.length = m + 1 := ⟨n - L.length - 1, by omega⟩
  rw [hm, List.replicate_succ, List.set_cons_zero, List.length_singleton, show n - (L.length + 1) = m by omega]
  simp
theorem outer_at (ps : List (Nat × Nat)) (L : Grid) (n : Nat) (hl : ps.length = L.length) (hn : L.length < n) : (outerOf ps L n)[L.length]? = some nilV := by
  have hz : (List.zipWith rowV ps L).length = L.length := by simp [hl]
  unfold outerOf
  rw [List.getElem?_toArray, List.getElem?_append_right (by omega), hz, Nat.sub_self, List.getElem?_replicate]
  rw [if_pos (by omega)]
theorem nodup_snoc {α : Type} {l : List α} {a : α} (h : l.Nodup) (ha : a ∉ l) : (l ++ [a]).Nodup := by
  rw [List.nodup_append]
  refine ⟨h, by simp, fun x hx y hy e => ?_⟩
  rw [List.mem_singleton] at hy
  subst hy
  subst e
  exact ha hx
theorem PartAt.step {W W1 : World} {base g n cap : Nat} {ps : List (Nat × Nat)} {L : Grid} {l : List UInt8} (h : PartAt W base g ps L n) (hn : L.length < n) (hB : Below W.heap.size W W1) (hr : RowS W1 W.heap.size l) (hc : l.length ≤ cap) (hb : base ≤ W.heap.size)
    {W2 : World} (hW2 : W2.heap = W1.heap) :
    PartAt (W2.setCell ⟨g, L.length, none⟩ (rowV (W.heap.size, cap) l)) base g (ps ++ [(W.heap.size, cap)]) (L ++ [l]) n := by
  have hg1 : W2.heap[g]? = some (.cells (outerOf ps L n) 60 (0, 0)) := by rw [hW2]; exact blk_below h.blk hB
  refine ⟨blk_put hg1 _ _ (outer_step ps L n h.len hn _ l), by simp [h.len], fun i p x h1 h2 => ?_, ?_⟩
  · by_cases hi : i < L.length
    · rw [List.getElem?_append_left (by rw [h.len]; exact hi)] at h1
      rw [List.getElem?_append_left hi] at h2
      obtain ⟨a, b, c⟩ := h.row i p x h1 h2
      have c2 : RowS W2 p.1 x := (c.below hB).heap hW2
      exact ⟨a, b, c2.far (row_ne c2 hg1) _⟩
    · have hi2 : i = L.length := by
        have := (List.getElem?_eq_some_iff.1 h2).1
        rw [List.length_append, List.length_singleton] at this
        omega
      subst hi2
      rw [List.getElem?_append_right (by rw [h.len]; exact Nat.le_refl _), h.len, Nat.sub_self] at h1
      rw [List.getElem?_append_right (Nat.le_refl _), Nat.sub_self] at h2
      injection h1 with h1
      injection h2 with h2
      subst h1 h2
      have c2 : RowS W2 W.heap.size l := hr.heap hW2
      exact ⟨hb, hc, c2.far (row_ne c2 hg1) _⟩
  · rw [List.map_append]
    refine nodup_snoc h.nodup (fun hm => ?_)
    obtain ⟨p, hp, e⟩ := List.mem_map.1 hm
    obtain ⟨i, hi, rfl⟩ := List.getElem_of_mem hp
    have hiL : i < L.length := by rw [← h.len]; exact hi
    have := (h.row i _ _ (List.getElem?_eq_getElem hi) (List.getElem?_eq_getElem hiL)).2.2.lt
    have e' : (ps[i]).1 = W.heap.size := e
    omega
theorem PartAt.grid {W : World} {base g n : Nat} {ps : List (Nat × Nat)} {L : Grid} (h : PartAt W base g ps L n) (hn : L.length = n) (hb : base ≤ g) (hm : n ≤ 255) : GridAt W base (.slice (some ⟨g, 0, none⟩) n n) ps L := by
  subst hn
  have hz : (List.zipWith rowV ps L).length = L.length := by simp [h.len]
  have ho : outerOf ps L L.length = (List.zipWith rowV ps L).toArray := by
    unfold outerOf
    rw [Nat.sub_self]
    simp
  have hblk := h.blk
  rw [ho] at hblk
  refine ⟨⟨by rw [hz, Nat.mul_one], .inr ⟨g, L.length, _, rfl, hb, hblk, Nat.le_refl _, by unfold maxLen; omega, by simp [h.len], by rw [List.toList_toArray, Nat.mul_one, List.take_of_length_le (by omega)]⟩⟩, h.len, h.row, h.nodup⟩
theorem PartAt.heap {W W' : World} {base g n : Nat} {ps : List (Nat × Nat)} {L : Grid} (h : PartAt W base g ps L n) (e : W'.heap = W.heap) : PartAt W' base g ps L n :=
  ⟨by rw [e]; exact h.blk, h.len, fun i p l h1 h2 => ⟨(h.row i p l h1 h2).1, (h.row i p l h1 h2).2.1, (h.row i p l h1 h2).2.2.heap e⟩, h.nodup⟩
theorem row_text (s : ByteArray) (M : Grid) (c i z : Nat) (hs : s.data.toList = M.flatten) (hr : ∀ r, r ∈ M → r.length = c) (hi : i < M.length) (hz : i * c = z) : (s.extract z (z + c)).data.toList = M[i] := by
  rw [← flat_row M i hi hr, hz, ← hs]
  rw [ByteArray.data_extract]
  simp [List.extract_eq_take_drop]
def IsGrid (M : Grid) (w : World) (e : Ending) (w' : World) : Prop := ∃ v ps, e = .returned v ∧ GridAt w' w.heap.size v ps M ∧ Below w.heap.size w w'
set_option maxRecDepth 100000 in
set_option maxHeartbeats 1000000 in
theorem of_walk (w : World) (M : Grid) (c : Nat) (hr : ∀ r, r ∈ M → r.length = c) (h1 : 1 ≤ M.length) (h2 : M.length ≤ 255) (hc : c ≤ 255) :
    Calls Tryd.prog 87 #[matV M.length c M.flatten] w (IsGrid M w) := by
  have hfl := flat_len M hr
  obtain ⟨s, hs⟩ : ∃ s : ByteArray, s = ⟨M.flatten.toArray⟩ := ⟨_, rfl⟩
  have hsl : s.data.toList = M.flatten := by rw [hs]
  have hss : s.size = M.length * c := by rw [← hfl, ← hsl]; exact Array.length_toList.symm
  unfold matV
  rw [← hs]
  clear hs
  obtain ⟨n, hn⟩ : ∃ n, M.length = n := ⟨_, rfl⟩
  have HROW : Aside0 (∀ i z (hi : i < M.length), i * c = z → (s.extract z (z + c)).data.toList = M[i]) := ⟨fun i z hi hz => row_text s M c i z hsl hr hi hz⟩
  have HNL := Aside0.mk hn
  rw [hn] at hss h1 h2 ⊢
  have hnc : n * c ≤ 255 * 255 := Nat.mul_le_mul h2 hc
  have HSS := Aside0.mk hss
  have hmk := run_make_rows n h2 0
  clear hfl hsl hr hn
  go_enter Tryd.func87, Tryd.ntmps87
  have hbx : (w.alloc (.cells #[.int .i64 (n : Int), .int .i64 (c : Int), .string s] 74)).heap[w.heap.size]? = some (.cells #[.int .i64 (n : Int), .int .i64 (c : Int), .string s] 74 (0, 0)) := blk_new _ _
  go_wp2
  have HB0 : Aside0 (Below w.heap.size w ((w.alloc (.cells #[.int .i64 (n : Int), .int .i64 (c : Int), .string s] 74)).alloc (.cells (oneOuter 0 n 0) 60))) := ⟨((Below.refl _ _).alloc (Nat.le_refl _) _).alloc (by simp) _⟩
  have HX0 : Aside0 (((w.alloc (.cells #[.int .i64 (n : Int), .int .i64 (c : Int), .string s] 74)).alloc (.cells (oneOuter 0 n 0) 60)).heap[w.heap.size]? = some (.cells #[.int .i64 (n : Int), .int .i64 (c : Int), .string s] 74 (0, 0))) := ⟨blk_alloc hbx _⟩
  have HP0 : Aside0 (PartAt ((w.alloc (.cells #[.int .i64 (n : Int), .int .i64 (c : Int), .string s] 74)).alloc (.cells (oneOuter 0 n 0) 60)) w.heap.size (w.heap.size + 1) [] (M.take 0) n) := ⟨by
    refine ⟨?_, rfl, fun i p l h1 _ => by simp at h1, List.nodup_nil⟩
    rw [List.take_zero, outer_new n 0]
    have := blk_new (w.alloc (.cells #[.int .i64 (n : Int), .int .i64 (c : Int), .string s] 74)) (.cells (oneOuter 0 n 0) 60 (0, 0))
    simpa using this⟩
  clear hbx hmk
  go_loopw [4, 10] (fun _ i W => ∃ (k : Nat) (ps : List (Nat × Nat)), k ≤ n ∧ i = .int .i64 (k : Int) ∧ Aside0 (PartAt W w.heap.size (w.heap.size + 1) ps (M.take k) n) ∧ Aside0 (W.heap[w.heap.size]? = some (.cells #[.int .i64 (n : Int), .int .i64 (c : Int), .string s] 74 (0, 0))) ∧ Aside0 (Below w.heap.size w W)) (fun _ i _ => n - (intOf i).toNat)
  case atStart => exact ⟨0, [], by omega, rfl, HP0, HX0, HB0⟩
  case round =>
    obtain ⟨k, ps, hk, rfl, HP, HX, HB⟩ := hrel
    clear HP0 HX0 HB0
    have hkl : (M.take k).length = k := by rw [List.length_take, HNL.out]; omega
    by_cases hlt : k < n
    · obtain ⟨z, hz⟩ : ∃ z, k * c = z := ⟨_, rfl⟩
      have hz1 : (k : Int) * (c : Int) = (z : Int) := by rw [← hz]; push_cast; rfl
      have hz2 : ((k : Int) + 1) * (c : Int) = (z : Int) + (c : Int) := by rw [Int.add_mul, hz1, Int.one_mul]
      have hzn : z + c ≤ n * c := by
        rw [← hz]
        have : (k + 1) * c ≤ n * c := Nat.mul_le_mul_right _ (by omega)
        rw [Nat.succ_mul] at this
        exact this
      have hss := HSS.out
      have hkM : k < M.length := by rw [HNL.out]; exact hlt
      have HR := Aside0.mk (HROW.out k z hkM hz)
      have hsl : ∀ W, (Instr.slice 9 (.string s) (some (.int .i64 (z : Int))) (some (.int .i64 ((z : Int) + (c : Int)))) none).run Tryd.prog W = .ok (.string (s.extract z (z + c))) W := fun W => by
        have := run_slice_string (P := Tryd.prog) (w := W) 9 s .i64 .i64 (z : Int) ((z : Int) + (c : Int)) Tryd.underlying9 (by omega) (by omega) (by omega)
        rw [this, show ((z : Int) + (c : Int)).toNat = z + c by omega, Int.toNat_natCast]
      obtain ⟨t, ht⟩ : ∃ t, s.extract z (z + c) = t := ⟨_, rfl⟩
      rw [ht] at HR hsl
      have htl : t.size = M[k].length := by rw [← HR.out]; exact Array.length_toList.symm
      obtain ⟨cap, W1, hcv, hcap, hrs, hb2, _⟩ := run_bytes_new wr t
      rw [HR.out] at hrs
      have c0 := (blk_cell HX.out 1)
      have c2 := (blk_cell HX.out 2)
      have hg1 := blk_below HP.out.blk hb2
      have c1 : W1.cell? ⟨w.heap.size + 1, k, none⟩ = some nilV := by
        have := outer_at ps (M.take k) n HP.out.len (by rw [hkl]; exact hlt)
        rw [hkl] at this
        exact (blk_cell hg1 k).trans this
      have f1 := blk_frozen hg1 k
      have HST : Aside0 (PartAt (W1.setCell ⟨w.heap.size + 1, k, none⟩ (rowV (wr.heap.size, cap) M[k])) w.heap.size (w.heap.size + 1) (ps ++ [(wr.heap.size, cap)]) (M.take (k + 1)) n) := ⟨by
        have := HP.out.step (l := M[k]) (cap := cap) (by rw [hkl]; exact hlt) hb2 hrs (by rw [← htl]; exact hcap) HB.out.size (W2 := W1) rfl
        rw [hkl] at this
        rw [List.take_succ_eq_append_getElem hkM]
        exact this⟩
      have HX1 : Aside0 ((W1.setCell ⟨w.heap.size + 1, k, none⟩ (rowV (wr.heap.size, cap) M[k])).heap[w.heap.size]? = some (.cells #[.int .i64 (n : Int), .int .i64 (c : Int), .string s] 74 (0, 0))) := ⟨blk_far (blk_below HX.out hb2) (by show w.heap.size ≠ w.heap.size + 1; omega) _⟩
      have HB1 : Aside0 (Below w.heap.size w (W1.setCell ⟨w.heap.size + 1, k, none⟩ (rowV (wr.heap.size, cap) M[k]))) := ⟨(HB.out.trans (hb2.mono HB.out.size)).setCell (by show w.heap.size ≤ w.heap.size + 1; omega) _⟩
      have hrv : rowV (wr.heap.size, cap) M[k] = .slice (some ⟨wr.heap.size, 0, none⟩) t.size cap := by rw [htl]; rfl
      rw [hrv] at HST HX1 HB1
      clear ht hz hb2 hrs hg1 HR htl hrv hcap HP HX
      go_wp2
      go_roundw
      case rel => exact ⟨k + 1, _, by omega, by go_num, HST, HX1, HB1⟩
      case measure => simp [intOf]; omega
    · have hkn : k = n := by omega
      subst hkn
      have HG : Aside0 (GridAt wr w.heap.size (.slice (some ⟨w.heap.size + 1, 0, none⟩) k k) ps M) := ⟨by
        have := HP.out.grid hkl (by omega) h2
        rw [List.take_of_length_le (by rw [HNL.out]; exact Nat.le_refl _)] at this
        exact this⟩
      clear HP HX
      go_wp2
      go_ret
      exact ⟨_, _, rfl, HG.out, HB.out⟩
end Go.Proofs.YtegmmefijihdeaaDoor.Grd
namespace Go.Proofs.YtegmmefijihdeaaDoor.Grd
open Go.RowKit Go.Proofs.YtegmmefijihdeaaDoorW.PrintWords Go.Proofs.YtegmmefijihdeaaDoorW.PrintLast Go.Proofs.YtegmmefijihdeaaDoorW.PrintMore Go.Proofs.YtegmmefijihdeaaDoor.Gf Go.Proofs.YtegmmefijihdeaaDoor.Rowb Go.Proofs.YtegmmefijihdeaaDoor.Fld
open Go.Lib (byteCells byteCells_length)
set_option linter.unusedVariables false
set_option linter.unusedSimpArgs false
theorem grown_set (w : World) (b i : Nat) (u : Value) : w.grownBy (w.setCell ⟨b, i, none⟩ u) (some b) :=
  ⟨rfl, rfl, rfl, by simp, fun k hk hne => Below.heap_setCell w ⟨b, i, none⟩ u k (fun e => hne (by rw [e]))⟩
theorem grown_drew {w W : World} {row : Option Nat} (h : w.grownBy W row) : w.grownBy W.drew row := h.trans (grown_of_below (below_drew1 (Below.refl _ _)) _)
theorem grown_drewN {w W : World} {row : Option Nat} (h : w.grownBy W row) (n : Nat) : w.grownBy (W.drewN n) row := h.trans (grown_of_below (pw_below_drewN (Below.refl _ _) _) _)
theorem grown_refl (w : World) (row : Option Nat) : w.grownBy w row := grown_of_below (Below.refl _ _) _
theorem below_grown {w W : World} {b B : Nat} (h : w.grownBy W (some b)) (hb : B ≤ b) (hB : B ≤ w.heap.size) : Below B w W :=
  ⟨h.os, h.tape, h.output, h.size, fun k hk => h.block k (by omega) (fun e => by injection e; omega)⟩
/-- Two entries change places. -/
def swapL {α : Type} (l : List α) (a b : Nat) (ha : a < l.length) (hb : b < l.length) : List α := (l.set a l[b]).set b l[a]
theorem swapL_len {α : Type} (l : List α) (a b : Nat) (ha : a < l.length) (hb : b < l.length) : (swapL l a b ha hb).length = l.length := by simp [swapL]
theorem swapL_at {α : Type} (l : List α) (a b : Nat) (ha : a < l.length) (hb : b < l.length) (i : Nat) (x : α) (h : (swapL l a b ha hb)[i]? = some x) :
    l[if i = b then a else if i = a then b else i]? = some x := by
  unfold swapL at h
  rw [List.getElem?_set, List.getElem?_set, List.length_set] at h
  by_cases h1 : b = i
  · subst h1
    rw [if_pos rfl, if_pos hb] at h
    rw [if_pos rfl, ← h, List.getElem?_eq_getElem ha]
  · rw [if_neg h1] at h
    rw [if_neg (fun e => h1 e.symm)]
    by_cases h2 : a = i
    · subst h2
      rw [if_pos rfl, if_pos ha] at h
      rw [if_pos rfl, ← h, List.getElem?_eq_getElem hb]
    · rw [if_neg h2] at h
      rw [if_neg (fun e => h2 e.symm)]
      exact h
theorem swapR_eq (L : Grid) (a b : Nat) (ha : a < L.length) (hb : b < L.length) : swapR L a b = swapL L a b ha hb := by
  unfold swapR swapL
  rw [rowAt_lt ha, rowAt_lt hb]
theorem nodup_inj {l : List Nat} (h : l.Nodup) (p q : Nat) (hp : p < l.length) (hq : q < l.length) (e : l[p]? = l[q]?) : p = q := by
  have h' := List.pairwise_iff_getElem.1 h
  rw [List.getElem?_eq_getElem hp, List.getElem?_eq_getElem hq] at e
  injection e with e
  rcases Nat.lt_trichotomy p q with hlt | he | hgt
  · exact absurd e (h' p q hp hq hlt)
  · exact he
  · exact absurd e.symm (h' q p hq hp hgt)
theorem swap_idx (a b i j : Nat) (h : (if i = b then a else if i = a then b else i) = (if j = b then a else if j = a then b else j)) : i = j := by
  by_cases h1 : i = b
  · rw [if_pos h1] at h
    by_cases h2 : j = b
    · omega
    · rw [if_neg h2] at h
      by_cases h3 : j = a
      · rw [if_pos h3] at h; omega
      · rw [if_neg h3] at h; omega
  · rw [if_neg h1] at h
    by_cases h4 : i = a
    · rw [if_pos h4] at h
      by_cases h2 : j = b
      · rw [if_pos h2] at h; omega
      · rw [if_neg h2] at h
        by_cases h3 : j = a
        · omega
        · rw [if_neg h3] at h; omega
    · rw [if_neg h4] at h
      by_cases h2 : j = b
      · rw [if_pos h2] at h; omega
      · rw [if_neg h2] at h
        by_cases h3 : j = a
        · rw [if_pos h3] at h; omega
        · rw [if_neg h3] at h; exact h
theorem swap_lt (a b i n : Nat) (ha : a < n) (hb : b < n) (hi : i < n) : (if i = b then a else if i = a then b else i) < n := by
  by_cases h1 : i = b
  · rw [if_pos h1]; exact ha
  · rw [if_neg h1]
    by_cases h2 : i = a
    · rw [if_pos h2]; exact hb
    · rw [if_neg h2]; exact hi
theorem swap_nodup {l : List Nat} (h : l.Nodup) (a b : Nat) (ha : a < l.length) (hb : b < l.length) : (swapL l a b ha hb).Nodup := by
  refine List.pairwise_iff_getElem.2 (fun i j hi hj hij e => ?_)
  have hi' : i < l.length := by rw [swapL_len] at hi; exact hi
  have hj' : j < l.length := by rw [swapL_len] at hj; exact hj
  have h1 := swapL_at l a b ha hb i _ (List.getElem?_eq_getElem hi)
  have h2 := swapL_at l a b ha hb j _ (List.getElem?_eq_getElem hj)
  rw [← e] at h2
  have := swap_idx a b i j (nodup_inj h _ _ (swap_lt a b i _ ha hb hi') (swap_lt a b j _ ha hb hj') (h1.trans h2.symm))
  omega
theorem map_swap {α β : Type} (f : α → β) (l : List α) (a b : Nat) (ha : a < l.length) (hb : b < l.length) : (swapL l a b ha hb).map f = swapL (l.map f) a b (by rw [List.length_map]; exact ha) (by rw [List.length_map]; exact hb) := by
  unfold swapL
  rw [List.map_set, List.map_set, List.getElem_map, List.getElem_map]
theorem GridAt.outerSet {w : World} {base g n cap : Nat} {ps : List (Nat × Nat)} {L : Grid} (h : GridAt w base (.slice (some ⟨g, 0, none⟩) n cap) ps L) (hp : 0 < L.length) : n = L.length ∧ base ≤ g ∧ ∃ cur : Array Value, w.heap[g]? = some (.cells cur 60 (0, 0)) ∧ L.length ≤ cap ∧ cap ≤ maxLen ∧ cur.size = cap ∧ cur.toList.take L.length = List.zipWith rowV ps L := by
  rcases h.outer.2 with ⟨_, h0⟩ | ⟨g', cap', cur, hv, hb, hh, hn, hc, hs, ht⟩
  · omega
  · injection hv with hv1 hv2 hv3
    injection hv1 with hv1
    injection hv1 with hv1 _ _
    subst hv1 hv3
    exact ⟨hv2, hb, cur, hh, hn, hc, by omega, by rwa [Nat.mul_one] at ht⟩
/-- The grid behind two stores into its outer row. -/
theorem GridAt.swap {w : World} {base g n cap : Nat} {ps : List (Nat × Nat)} {L : Grid} (h : GridAt w base (.slice (some ⟨g, 0, none⟩) n cap) ps L) (a b : Nat) (ha : a < L.length) (hb : b < L.length) (ha' : a < ps.length) (hb' : b < ps.length) {W : World} (hW : W.heap = w.heap) :
    GridAt ((W.setCell ⟨g, a, none⟩ (rowV ps[b] L[b])).setCell ⟨g, b, none⟩ (rowV ps[a] L[a])) base (.slice (some ⟨g, 0, none⟩) n cap) (swapL ps a b ha' hb') (swapR L a b) := by
  obtain ⟨hn, hbg, cur, hh, hle, hcm, hcs, ht⟩ := h.outerSet (by omega)
  rw [swapR_eq L a b ha hb]
  have hz : (List.zipWith rowV ps L).length = L.length := by rw [List.length_zipWith, h.len, Nat.min_self]
  have hh1 : W.heap[g]? = some (.cells cur 60 (0, 0)) := by rw [hW]; exact hh
  have hb1 := blk_put (cs' := cur.setIfInBounds a (rowV ps[b] L[b])) hh1 a (rowV ps[b] L[b]) rfl
  have hb2 := blk_put (cs' := (cur.setIfInBounds a (rowV ps[b] L[b])).setIfInBounds b (rowV ps[a] L[a])) hb1 b (rowV ps[a] L[a]) rfl
  refine ⟨⟨by rw [swapL_len, Nat.mul_one, List.length_zipWith, swapL_len, swapL_len, h.len, Nat.min_self], .inr ⟨g, cap, _, by rw [hn, swapL_len], hbg, hb2, by rw [swapL_len]; exact hle, hcm, by simp [hcs], ?_⟩⟩, by rw [swapL_len, swapL_len, h.len], fun i p l h1 h2 => ?_, ?_⟩
  · rw [swapL_len, Nat.mul_one, Array.toList_setIfInBounds, Array.toList_setIfInBounds, List.take_set, List.take_set, ht]
    apply List.ext_getElem?
    intro i
    rw [List.getElem?_set, List.getElem?_set, List.length_set, hz, List.getElem?_zipWith, List.getElem?_zipWith]
    unfold swapL
    rw [List.getElem?_set, List.getElem?_set, List.length_set, List.getElem?_set, List.getElem?_set, List.length_set]
    by_cases e1 : b = i
    · rw [if_pos e1, if_pos (by omega), if_pos e1, if_pos (by omega), if_pos e1, if_pos (by omega)]
    · rw [if_neg e1, if_neg e1, if_neg e1]
      by_cases e2 : a = i
      · rw [if_pos e2, if_pos (by omega), if_pos e2, if_pos (by omega), if_pos e2, if_pos (by omega)]
      · rw [if_neg e2, if_neg e2, if_neg e2]
  · have g1 := swapL_at _ _ _ _ _ _ _ h1
    have g2 := swapL_at _ _ _ _ _ _ _ h2
    obtain ⟨r1, r2, r3⟩ := h.row _ p l g1 g2
    have r4 : RowS W p.1 l := r3.heap hW
    have r5 := r4.far (p := ⟨g, a, none⟩) (row_ne r4 hh1) (rowV ps[b] L[b])
    exact ⟨r1, r2, r5.far (p := ⟨g, b, none⟩) (row_ne r5 hb1) _⟩
  · rw [map_swap]
    exact swap_nodup h.nodup _ _ _ _
theorem GridAt.rowCell {w : World} {base g n cap : Nat} {ps : List (Nat × Nat)} {L : Grid} (h : GridAt w base (.slice (some ⟨g, 0, none⟩) n cap) ps L) (i : Nat) (hi : i < L.length) (hi' : i < ps.length) :
    w.cell? ⟨g, i, none⟩ = some (rowV ps[i] L[i]) ∧ w.frozen? ⟨g, i, none⟩ = false := by
  obtain ⟨hn, hbg, cur, hh, hle, hcm, hcs, ht⟩ := h.outerSet (by omega)
  refine ⟨?_, blk_frozen hh i⟩
  rw [blk_cell hh i, ← Array.getElem?_toList]
  have : (cur.toList.take L.length)[i]? = (List.zipWith rowV ps L)[i]? := by rw [ht]
  rw [List.getElem?_take, if_pos hi, zip_row h.len i hi] at this
  exact this
theorem GridAt.heap {w w' : World} {base : Nat} {v : Value} {ps : List (Nat × Nat)} {L : Grid} (h : GridAt w base v ps L) (e : w'.heap = w.heap) : GridAt w' base v ps L :=
  ⟨⟨h.outer.1, by rw [e]; exact h.outer.2⟩, h.len, fun i p l h1 h2 => ⟨(h.row i p l h1 h2).1, (h.row i p l h1 h2).2.1, (h.row i p l h1 h2).2.2.heap e⟩, h.nodup⟩
set_option maxRecDepth 100000 in
set_option maxHeartbeats 1000000 in
theorem swap_walk {w : World} {base : Nat} {v : Value} {ps : List (Nat × Nat)} {L : Grid} (h : GridAt w base v ps L) (a b : Nat) (ha : a < L.length) (hb : b < L.length) :
    Calls Tryd.prog 88 #[v, .int .i64 (a : Int), .int .i64 (b : Int)] w fun e w' => e = .returned (.tuple #[]) ∧ GridAt w' base v (swapL ps a b (by rw [h.len]; exact ha) (by rw [h.len]; exact hb)) (swapR L a b) ∧ w.grownBy w' v.ownBlock := by
  obtain ⟨g, cap, cur, rfl, hbg, hh, hle, hcell⟩ := h.form (by omega)
  have ha' : a < ps.length := by rw [h.len]; exact ha
  have hb' : b < ps.length := by rw [h.len]; exact hb
  obtain ⟨ca, fa⟩ := h.rowCell a ha ha'
  obtain ⟨cb, fb⟩ := h.rowCell b hb hb'
  have HG : Aside0 (∀ W : World, W.heap = w.heap → GridAt ((W.setCell ⟨g, a, none⟩ (rowV ps[b] L[b])).setCell ⟨g, b, none⟩ (rowV ps[a] L[a])) base (.slice (some ⟨g, 0, none⟩) L.length cap) (swapL ps a b ha' hb') (swapR L a b)) := ⟨fun W hW => h.swap a b ha hb ha' hb' hW⟩
  have hlt := blk_lt hh
  obtain ⟨xa, ya, za, hva⟩ : ∃ (x : Addr) (y z : Nat), rowV ps[a] L[a] = .slice (some x) y z := ⟨_, _, _, rfl⟩
  obtain ⟨xb, yb, zb, hvb⟩ : ∃ (x : Addr) (y z : Nat), rowV ps[b] L[b] = .slice (some x) y z := ⟨_, _, _, rfl⟩
  rw [hva, hvb] at HG
  rw [hva] at ca
  rw [hvb] at cb
  have c3 : (w.setCell ⟨g, a, none⟩ (.slice (some xb) yb zb)).cell? ⟨g, b, none⟩ = some (.slice (some xb) yb zb) := by
    rw [blk_cell (blk_put (cs' := cur.setIfInBounds a (.slice (some xb) yb zb)) hh a _ rfl) b, Array.getElem?_setIfInBounds]
    have hs : a < cur.size := by
      have := ca
      rw [blk_cell hh a] at this
      exact (Array.getElem?_eq_some_iff.1 this).1
    by_cases e : a = b
    · rw [if_pos e, if_pos hs]
    · rw [if_neg e, ← blk_cell hh b, cb]
  clear hva hvb hcell hle hh
  have HH := Aside0.mk h
  go_enter Tryd.func88, Tryd.ntmps88
  go_region_law (fail)
  all_goals
    refine bodyPost_end (results_none rfl _ _ _) rfl ?_
    exact ⟨rfl, (HG.out w rfl).heap rfl, grown_drew ((grown_set _ g _ _).trans (grown_set _ g _ _))⟩
end Go.Proofs.YtegmmefijihdeaaDoor.Grd
namespace Go.Proofs.YtegmmefijihdeaaDoor.Grd
open Go.RowKit Go.Proofs.YtegmmefijihdeaaDoorW.PrintWords Go.Proofs.YtegmmefijihdeaaDoorW.PrintLast Go.Proofs.YtegmmefijihdeaaDoorW.PrintMore Go.Proofs.YtegmmefijihdeaaDoor.Gf Go.Proofs.YtegmmefijihdeaaDoor.Rowb Go.Proofs.YtegmmefijihdeaaDoor.Fld
open Go.Lib (byteCells byteCells_length)
set_option linter.unusedVariables false
set_option linter.unusedSimpArgs false
theorem field_ne {w : World} {p f : Nat} {l : List UInt8} (h : RowS w p l) (hf : FieldAt w f) : f ≠ p := by
  obtain ⟨sp, fr, h, _⟩ := h
  unfold FieldAt at hf
  intro e
  subst e
  rw [h] at hf
  injection hf with hf
  injection hf with _ hf _
  exact absurd hf (by decide)
theorem zip_same (ps : List (Nat × Nat)) (L : Grid) (a : Nat) (ha : a < L.length) (l : List UInt8) (hl : l.length = L[a].length) : List.zipWith rowV ps (L.set a l) = List.zipWith rowV ps L := by
  apply List.ext_getElem?
  intro i
  rw [List.getElem?_zipWith, List.getElem?_zipWith, List.getElem?_set]
  by_cases e : a = i
  · subst e
    rw [if_pos rfl, if_pos ha, List.getElem?_eq_getElem ha]
    cases ps[a]? with
    | none => rfl
    | some p => simp [rowV, hl]
  · rw [if_neg e]
theorem GridAt.rowPut {w : World} {base g n cap : Nat} {ps : List (Nat × Nat)} {L : Grid} (h : GridAt w base (.slice (some ⟨g, 0, none⟩) n cap) ps L) (a : Nat) (ha : a < L.length) (ha' : a < ps.length) (k : Nat) (hk : k < L[a].length) (b : UInt8) {W : World} (hW : W.heap = w.heap) :
    GridAt (W.setCell ⟨ps[a].1, k, none⟩ (.int .u8 (b.toNat : Int))) base (.slice (some ⟨g, 0, none⟩) n cap) ps (L.set a (L[a].set k b)) := by
  obtain ⟨hn, hbg, cur, hh, hle, hcm, hcs, ht⟩ := h.outerSet (by omega)
  have hra := h.row a _ _ (List.getElem?_eq_getElem ha') (List.getElem?_eq_getElem ha)
  have hh1 : W.heap[g]? = some (.cells cur 60 (0, 0)) := by rw [hW]; exact hh
  have hr1 : RowS W ps[a].1 L[a] := hra.2.2.heap hW
  have hne := row_ne hr1 hh1
  have hl : (L[a].set k b).length = L[a].length := List.length_set
  refine ⟨⟨by rw [zip_same ps L a ha _ hl, List.length_set]; exact h.outer.1, .inr ⟨g, cap, cur, by rw [hn, List.length_set], hbg, blk_far hh1 (by show g ≠ ps[a].1; exact fun e => hne e.symm) _, by rw [List.length_set]; exact hle, hcm, by omega, by rw [zip_same ps L a ha _ hl, List.length_set, Nat.mul_one]; exact ht⟩⟩, by rw [List.length_set]; exact h.len, fun i p l h1 h2 => ?_, h.nodup⟩
  rw [List.getElem?_set] at h2
  by_cases e : a = i
  · subst e
    rw [if_pos rfl, if_pos ha] at h2
    injection h2 with h2
    subst h2
    rw [List.getElem?_eq_getElem ha'] at h1
    injection h1 with h1
    subst h1
    exact ⟨hra.1, by rw [hl]; exact hra.2.1, hr1.put k hk b⟩
  · rw [if_neg e] at h2
    obtain ⟨r1, r2, r3⟩ := h.row i p l h1 h2
    refine ⟨r1, r2, (r3.heap hW).far (p := ⟨ps[a].1, k, none⟩) (fun ep => ?_) _⟩
    have hi : i < ps.length := (List.getElem?_eq_some_iff.1 h1).1
    refine e (nodup_inj h.nodup a i (by rw [List.length_map]; exact ha') (by rw [List.length_map]; exact hi) ?_)
    rw [List.getElem?_map, List.getElem?_map, h1, List.getElem?_eq_getElem ha']
    show some ps[a].1 = some p.1
    rw [ep]
theorem FieldAt.rowPut {w : World} {f p k : Nat} {l : List UInt8} {u : Value} (hf : FieldAt w f) (h : RowS w p l) {W : World} (hW : W.heap = w.heap) : FieldAt (W.setCell ⟨p, k, none⟩ u) f := by
  have h1 : FieldAt W f := by unfold FieldAt; rw [hW]; exact hf
  exact blk_far h1 (field_ne (h.heap hW) h1) _
def scaleP (x : UInt8) (l : List UInt8) (k : Nat) : List UInt8 := (l.take k).map (gmul x) ++ l.drop k
theorem scaleP_len (x : UInt8) (l : List UInt8) (k : Nat) : (scaleP x l k).length = l.length := by simp [scaleP]; omega
theorem scaleP_zero (x : UInt8) (l : List UInt8) : scaleP x l 0 = l := by simp [scaleP]
theorem scaleP_full (x : UInt8) (l : List UInt8) : scaleP x l l.length = scaleR x l := by simp [scaleP, scaleR]
theorem scaleP_at (x : UInt8) (l : List UInt8) (k : Nat) (hk : k < l.length) : (scaleP x l k)[k]'(by rw [scaleP_len]; exact hk) = l[k] := by
  unfold scaleP
  rw [List.getElem_append_right (by simp; omega)]
  simp
  congr 1
  omega
theorem scaleP_set (x : UInt8) (l : List UInt8) (k : Nat) (hk : k < l.length) : (scaleP x l k).set k (gmul x l[k]) = scaleP x l (k + 1) := by
  unfold scaleP
  have hl : ((l.take k).map (gmul x)).length = k := by simp; omega
  rw [List.set_append_right _ _ (by omega), hl, Nat.sub_self, List.drop_eq_getElem_cons hk, List.set_cons_zero, List.take_succ_eq_append_getElem hk, List.map_append]
  simp
theorem set_again {α : Type} (l : List α) (i : Nat) (a b : α) : (l.set i a).set i b = l.set i b := by simp
set_option maxRecDepth 100000 in
set_option maxHeartbeats 2000000 in
theorem scale_walk {w : World} {base f : Nat} {v : Value} {ps : List (Nat × Nat)} {L : Grid} (h : GridAt w base v ps L) (hf : FieldAt w f) (a : Nat) (ha : a < L.length) (hl : L[a].length ≤ 255) (x : UInt8) :
    Calls Tryd.prog 89 #[v, .pointer (some ⟨f, 0, none⟩), .int .i64 (a : Int), .int .u8 (x.toNat : Int)] w fun e w' => e = .returned (.tuple #[]) ∧ GridAt w' base v ps (L.set a (scaleR x L[a])) ∧ FieldAt w' f ∧ w.grownBy w' (some (ps[a]'(by rw [h.len]; exact ha)).1) := by
  obtain ⟨g, cap, cur, rfl, hbg, hh, hle, hcell⟩ := h.form (by omega)
  have ha' : a < ps.length := by rw [h.len]; exact ha
  obtain ⟨r, hr⟩ : ∃ r, r = L[a] := ⟨_, rfl⟩
  obtain ⟨p, hp⟩ : ∃ p, p = ps[a] := ⟨_, rfl⟩
  have HBP : base ≤ p.1 := by
    have := (h.row a _ _ (List.getElem?_eq_getElem ha') (List.getElem?_eq_getElem ha)).1
    rw [hp]; exact this
  have HG0 : Aside0 (GridAt w base (.slice (some ⟨g, 0, none⟩) L.length cap) ps (L.set a (scaleP x r 0))) := ⟨by rw [scaleP_zero, hr, List.set_getElem_self]; exact h⟩
  have HF0 := Aside0.mk hf
  have HB0 : Aside0 (w.grownBy w (some p.1)) := ⟨grown_refl _ _⟩
  have c0 := (h.rowCell a ha ha').1
  have e0 : rowV ps[a] L[a] = .slice (some ⟨p.1, 0, none⟩) r.length p.2 := by rw [hp, hr]; rfl
  rw [e0] at c0
  rw [← hr] at hl ⊢
  have hpa0 : (ps[a]'(by rw [h.len]; exact ha)).1 = p.1 := by rw [hp]
  rw [hpa0]
  have HP : Aside0 (ps[a]? = some p) := ⟨by rw [hp]; exact List.getElem?_eq_getElem ha'⟩
  have HA := Aside0.mk ha
  obtain ⟨n, hn⟩ : ∃ n, n = L.length := ⟨_, rfl⟩
  rw [← hn] at HG0 ha ⊢
  clear hh hle hcell hr hp ha' e0 hf hpa0
  have HN := Aside0.mk hn
  clear hn
  obtain ⟨pp, pc⟩ := p
  go_enter Tryd.func89, Tryd.ntmps89
  go_wp2
  go_loopw [15] (fun i W => ∃ k : Nat, k ≤ r.length ∧ i = .int .i64 (k : Int) ∧ Aside0 (GridAt W base (.slice (some ⟨g, 0, none⟩) n cap) ps (L.set a (scaleP x r k))) ∧ Aside0 (FieldAt W f) ∧ Aside0 (w.grownBy W (some pp))) (fun i _ => r.length - (intOf i).toNat)
  case atStart => exact ⟨0, by omega, rfl, HG0, HF0, HB0⟩
  case round =>
    obtain ⟨k, hk, rfl, HG, HF, HB⟩ := hrel
    clear HG0 HF0 HB0
    by_cases hlt : k < r.length
    · have hla : a < (L.set a (scaleP x r k)).length := by rw [List.length_set]; exact HA.out
      have hpa : a < ps.length := (List.getElem?_eq_some_iff.1 HP.out).1
      have hpe : ps[a] = (pp, pc) := (List.getElem?_eq_some_iff.1 HP.out).2
      have hLe : (L.set a (scaleP x r k))[a] = scaleP x r k := by simp
      have c1 := (HG.out.rowCell a hla hpa).1
      rw [hpe, hLe] at c1
      unfold rowV at c1
      rw [scaleP_len] at c1
      have hrow := (HG.out.row a (pp, pc) (scaleP x r k) HP.out (by rw [List.getElem?_eq_getElem hla, hLe])).2.2
      have d0 := hrow.cell k (by rw [scaleP_len]; exact hlt)
      rw [scaleP_at x r k hlt] at d0
      have f0 := hrow.frozen k (by rw [scaleP_len]; exact hlt)
      have HST : Aside0 (∀ W : World, W.heap = wr.heap → GridAt (W.setCell ⟨pp, k, none⟩ (.int .u8 ((gmul x r[k]).toNat : Int))) base (.slice (some ⟨g, 0, none⟩) n cap) ps (L.set a (scaleP x r (k + 1))) ∧ FieldAt (W.setCell ⟨pp, k, none⟩ (.int .u8 ((gmul x r[k]).toNat : Int))) f) := ⟨fun W hW => by
        have h1 := HG.out.rowPut a hla hpa k (by rw [hLe, scaleP_len]; exact hlt) (gmul x r[k]) hW
        rw [hLe, scaleP_set x r k hlt, set_again, hpe] at h1
        exact ⟨h1, Grd.FieldAt.rowPut HF.out hrow hW⟩⟩
      have HMU : Aside0 (∀ W : World, W.heap = wr.heap → Calls Tryd.prog 57 #[.pointer (some ⟨f, 0, none⟩), .int .u8 (x.toNat : Int), .int .u8 (r[k].toNat : Int)] W fun e w' => e = .returned (.int .u8 ((gmul x r[k]).toNat : Int)) ∧ Drawn0 W w') := ⟨fun W hW => mul_walk (by have := HF.out; unfold FieldAt at this ⊢; rw [hW]; exact this) x r[k]⟩
      have hxb := b_lt x
      have hrb := b_lt r[k]
      have hgb := b_lt (gmul x r[k])
      clear hla hpa hpe hLe hrow
      generalize (gmul x r[k]).toNat = res at *
      generalize r[k].toNat = old at *
      generalize x.toNat = xx at *
      go_wp2_with fail
      go_region_law (first | (go_simp; go_at_call 57; refine (HMU.out _ (by rfl)).mono ?_; rintro e w6 ⟨rfl, ⟨nd, rfl⟩⟩))
      all_goals go_wp2
      all_goals go_roundw
      all_goals first
        | (case rel => exact ⟨k + 1, by omega, by go_num, ⟨(HST.out _ (by rfl)).1⟩, ⟨(HST.out _ (by rfl)).2⟩, ⟨World.grownBy.trans (by repeat (first | exact HB.out | apply grown_drewN | apply grown_drew)) (grown_set _ pp _ _)⟩⟩)
        | skip
      all_goals (case measure => simp [intOf]; omega)
    · have hkr : k = r.length := by omega
      subst hkr
      rw [scaleP_full] at HG
      go_wp2
      refine bodyPost_end (results_none rfl _ _ _) rfl ?_
      exact ⟨rfl, HG.out, HF.out, HB.out⟩
def addP (x : UInt8) (f t : List UInt8) (k : Nat) : List UInt8 := addR x (f.take k) (t.take k) ++ t.drop k
theorem addP_len (x : UInt8) (f t : List UInt8) (k : Nat) (hl : f.length = t.length) : (addP x f t k).length = t.length := by simp [addP, addR]; omega
theorem addP_zero (x : UInt8) (f t : List UInt8) : addP x f t 0 = t := by simp [addP, addR]
theorem addP_full (x : UInt8) (f t : List UInt8) (hl : f.length = t.length) : addP x f t t.length = addR x f t := by
  unfold addP
  rw [List.take_of_length_le (by omega), List.take_of_length_le (Nat.le_refl _), List.drop_of_length_le (Nat.le_refl _), List.append_nil]
theorem addP_at (x : UInt8) (f t : List UInt8) (k : Nat) (hl : f.length = t.length) (hk : k < t.length) : (addP x f t k)[k]'(by rw [addP_len x f t k hl]; exact hk) = t[k] := by
  unfold addP addR
  rw [List.getElem_append_right (by simp; omega)]
  simp
  congr 1
  omega
theorem addP_set (x : UInt8) (f t : List UInt8) (k : Nat) (hl : f.length = t.length) (hk : k < t.length) : (addP x f t k).set k (t[k] ^^^ gmul x (f[k]'(by omega))) = addP x f t (k + 1) := by
  unfold addP addR
  have hz : (List.zipWith (fun t y => t ^^^ gmul x y) (t.take k) (f.take k)).length = k := by simp; omega
  rw [List.set_append_right _ _ (by omega), hz, Nat.sub_self, List.drop_eq_getElem_cons hk, List.set_cons_zero, List.take_succ_eq_append_getElem hk, List.take_succ_eq_append_getElem (show k < f.length by omega), List.zipWith_append (by simp; omega)]
  simp
set_option maxRecDepth 100000 in
set_option maxHeartbeats 2000000 in
theorem add_walk {w : World} {base f : Nat} {v : Value} {ps : List (Nat × Nat)} {L : Grid} (h : GridAt w base v ps L) (hf : FieldAt w f) (a c : Nat) (ha : a < L.length) (hc : c < L.length) (hac : a ≠ c) (hl : L[c].length = L[a].length) (hl2 : L[a].length ≤ 255) (x : UInt8) :
    Calls Tryd.prog 90 #[v, .pointer (some ⟨f, 0, none⟩), .int .i64 (a : Int), .int .u8 (x.toNat : Int), .int .i64 (c : Int)] w fun e w' => e = .returned (.tuple #[]) ∧ GridAt w' base v ps (L.set a (addR x L[c] L[a])) ∧ FieldAt w' f ∧ w.grownBy w' (some (ps[a]'(by rw [h.len]; exact ha)).1) := by
  obtain ⟨g, cap, cur, rfl, hbg, hh, hle, hcell⟩ := h.form (by omega)
  have ha' : a < ps.length := by rw [h.len]; exact ha
  have hc' : c < ps.length := by rw [h.len]; exact hc
  obtain ⟨r, hr⟩ : ∃ r, r = L[a] := ⟨_, rfl⟩
  obtain ⟨y, hy⟩ : ∃ y, y = L[c] := ⟨_, rfl⟩
  obtain ⟨p, hp⟩ : ∃ p, p = ps[a] := ⟨_, rfl⟩
  obtain ⟨q, hq⟩ : ∃ q, q = ps[c] := ⟨_, rfl⟩
  have HBP : base ≤ p.1 := by
    have := (h.row a _ _ (List.getElem?_eq_getElem ha') (List.getElem?_eq_getElem ha)).1
    rw [hp]; exact this
  have HG0 : Aside0 (GridAt w base (.slice (some ⟨g, 0, none⟩) L.length cap) ps (L.set a (addP x y r 0))) := ⟨by rw [addP_zero, hr, List.set_getElem_self]; exact h⟩
  have HF0 := Aside0.mk hf
  have HB0 : Aside0 (w.grownBy w (some p.1)) := ⟨grown_refl _ _⟩
  have c0 := (h.rowCell c hc hc').1
  have e0 : rowV ps[c] L[c] = .slice (some ⟨q.1, 0, none⟩) r.length q.2 := by rw [hq, hr, ← hl]; rfl
  rw [e0] at c0
  rw [← hr, ← hy] at hl ⊢
  have hpa0 : (ps[a]'(by rw [h.len]; exact ha)).1 = p.1 := by rw [hp]
  rw [hpa0]
  rw [← hr] at hl2
  have HY : Aside0 (L[c]? = some y) := ⟨by rw [hy]; exact List.getElem?_eq_getElem hc⟩
  have HP : Aside0 (ps[a]? = some p) := ⟨by rw [hp]; exact List.getElem?_eq_getElem ha'⟩
  have HQ : Aside0 (ps[c]? = some q) := ⟨by rw [hq]; exact List.getElem?_eq_getElem hc'⟩
  have HA := Aside0.mk ha
  have HAC := Aside0.mk hac
  have HL := Aside0.mk hl
  obtain ⟨n, hn⟩ : ∃ n, n = L.length := ⟨_, rfl⟩
  rw [← hn] at HG0 ha hc ⊢
  clear hh hle hcell hr hp ha' hc' e0 hf hy hq hl hac hpa0
  have HN := Aside0.mk hn
  clear hn
  obtain ⟨pp, pc⟩ := p
  obtain ⟨qp, qc⟩ := q
  go_enter Tryd.func90, Tryd.ntmps90
  go_wp2
  go_loopw [17] (fun i W => ∃ k : Nat, k ≤ r.length ∧ i = .int .i64 (k : Int) ∧ Aside0 (GridAt W base (.slice (some ⟨g, 0, none⟩) n cap) ps (L.set a (addP x y r k))) ∧ Aside0 (FieldAt W f) ∧ Aside0 (w.grownBy W (some pp))) (fun i _ => r.length - (intOf i).toNat)
  case atStart => exact ⟨0, by omega, rfl, HG0, HF0, HB0⟩
  case round =>
    obtain ⟨k, hk, rfl, HG, HF, HB⟩ := hrel
    clear HG0 HF0 HB0
    by_cases hlt : k < r.length
    · have hly : k < y.length := by rw [HL.out]; exact hlt
      have hla : a < (L.set a (addP x y r k)).length := by rw [List.length_set]; exact HA.out
      have hpa : a < ps.length := (List.getElem?_eq_some_iff.1 HP.out).1
      have hpe : ps[a] = (pp, pc) := (List.getElem?_eq_some_iff.1 HP.out).2
      have hLe : (L.set a (addP x y r k))[a] = addP x y r k := by simp
      have c1 := (HG.out.rowCell a hla hpa).1
      rw [hpe, hLe] at c1
      unfold rowV at c1
      rw [addP_len x y r k HL.out] at c1
      have hrow := (HG.out.row a (pp, pc) (addP x y r k) HP.out (by rw [List.getElem?_eq_getElem hla, hLe])).2.2
      have d0 := hrow.cell k (by rw [addP_len x y r k HL.out]; exact hlt)
      rw [addP_at x y r k HL.out hlt] at d0
      have f0 := hrow.frozen k (by rw [addP_len x y r k HL.out]; exact hlt)
      have hrowc := (HG.out.row c (qp, qc) y HQ.out (by rw [List.getElem?_set, if_neg HAC.out]; exact HY.out)).2.2
      have d1 := hrowc.cell k hly
      have HST : Aside0 (∀ W : World, W.heap = wr.heap → GridAt (W.setCell ⟨pp, k, none⟩ (.int .u8 ((r[k] ^^^ gmul x y[k]).toNat : Int))) base (.slice (some ⟨g, 0, none⟩) n cap) ps (L.set a (addP x y r (k + 1))) ∧ FieldAt (W.setCell ⟨pp, k, none⟩ (.int .u8 ((r[k] ^^^ gmul x y[k]).toNat : Int))) f) := ⟨fun W hW => by
        have h1 := HG.out.rowPut a hla hpa k (by rw [hLe, addP_len x y r k HL.out]; exact hlt) (r[k] ^^^ gmul x y[k]) hW
        rw [hLe, addP_set x y r k HL.out hlt, set_again, hpe] at h1
        exact ⟨h1, Grd.FieldAt.rowPut HF.out hrow hW⟩⟩
      have HMU : Aside0 (∀ W : World, W.heap = wr.heap → Calls Tryd.prog 57 #[.pointer (some ⟨f, 0, none⟩), .int .u8 (x.toNat : Int), .int .u8 (y[k].toNat : Int)] W fun e w' => e = .returned (.int .u8 ((gmul x y[k]).toNat : Int)) ∧ Drawn0 W w') := ⟨fun W hW => mul_walk (by have := HF.out; unfold FieldAt at this ⊢; rw [hW]; exact this) x y[k]⟩
      have hxr := xor_u8 r[k].toNat (gmul x y[k]).toNat (b_lt _) (b_lt _)
      rw [← UInt8.toNat_xor] at hxr
      have hxb := b_lt x
      have hrb := b_lt r[k]
      have hyb := b_lt y[k]
      have hgb := b_lt (gmul x y[k])
      clear hla hpa hpe hLe hrow hrowc
      generalize (r[k] ^^^ gmul x y[k]).toNat = res at *
      generalize (gmul x y[k]).toNat = prod at *
      generalize r[k].toNat = old at *
      generalize y[k].toNat = yy at *
      generalize x.toNat = xx at *
      go_wp2_with fail
      go_region_law (first | (go_simp; go_at_call 57; refine (HMU.out _ (by rfl)).mono ?_; rintro e w6 ⟨rfl, ⟨nd, rfl⟩⟩))
      all_goals go_wp2
      all_goals go_roundw
      all_goals first
        | (case rel => exact ⟨k + 1, by omega, by go_num, ⟨(HST.out _ (by rfl)).1⟩, ⟨(HST.out _ (by rfl)).2⟩, ⟨World.grownBy.trans (by repeat (first | exact HB.out | apply grown_drewN | apply grown_drew)) (grown_set _ pp _ _)⟩⟩)
        | skip
      all_goals (case measure => simp [intOf]; omega)
    · have hkr : k = r.length := by omega
      subst hkr
      rw [addP_full x y r HL.out] at HG
      go_wp2
      refine bodyPost_end (results_none rfl _ _ _) rfl ?_
      exact ⟨rfl, HG.out, HF.out, HB.out⟩
end Go.Proofs.YtegmmefijihdeaaDoor.Grd
namespace Go.Proofs.YtegmmefijihdeaaDoor.Grd
open Go.RowKit Go.Proofs.YtegmmefijihdeaaDoorW.PrintWords Go.Proofs.YtegmmefijihdeaaDoorW.PrintLast Go.Proofs.YtegmmefijihdeaaDoorW.PrintMore Go.Proofs.YtegmmefijihdeaaDoor.Gf Go.Proofs.YtegmmefijihdeaaDoor.Rowb Go.Proofs.YtegmmefijihdeaaDoor.Fld
set_option linter.unusedVariables false
set_option linter.unusedSimpArgs false
theorem GridAt.grown {w w' : World} {base b : Nat} {v : Value} {ps : List (Nat × Nat)} {L : Grid} (h : GridAt w base v ps L) (hg : w.grownBy w' (some b)) (hv : v.ownBlock ≠ some b) (hp : ∀ p, p ∈ ps → p.1 ≠ b) : GridAt w' base v ps L :=
  ⟨own_other h.outer hg (.inr hv), h.len, fun i p l h1 h2 => ⟨(h.row i p l h1 h2).1, (h.row i p l h1 h2).2.1, (h.row i p l h1 h2).2.2.grown hg (fun e => hp p (List.mem_of_getElem? h1) (by injection e))⟩, h.nodup⟩
theorem GridAt.rowOf {w : World} {base : Nat} {v : Value} {ps : List (Nat × Nat)} {L : Grid} (h : GridAt w base v ps L) {p : Nat × Nat} (hp : p ∈ ps) : ∃ l, RowS w p.1 l ∧ base ≤ p.1 := by
  obtain ⟨i, hi, rfl⟩ := List.getElem_of_mem hp
  have := h.row i _ _ (List.getElem?_eq_getElem hi) (List.getElem?_eq_getElem (by rw [← h.len]; exact hi))
  exact ⟨_, this.2.2, this.1⟩
structure TwoAt (w : World) (base : Nat) (v : Value) (ps : List (Nat × Nat)) (L : Grid) (u : Value) (qs : List (Nat × Nat)) (R : Grid) (f : Nat) : Prop where
  gl : GridAt w base v ps L
  gr : GridAt w base u qs R
  sep : ∀ p, p ∈ ps → ∀ q, q ∈ qs → p.1 ≠ q.1
  own : v.ownBlock ≠ u.ownBlock
  field : FieldAt w f
theorem TwoAt.symm {w : World} {base f : Nat} {v u : Value} {ps qs : List (Nat × Nat)} {L R : Grid} (h : TwoAt w base v ps L u qs R f) : TwoAt w base u qs R v ps L f :=
  ⟨h.gr, h.gl, fun p hp q hq e => h.sep q hq p hp e.symm, fun e => h.own e.symm, h.field⟩
/-- A row of the one is written: the other stands. -/
theorem TwoAt.row {w w' : World} {base f : Nat} {v u : Value} {ps qs : List (Nat × Nat)} {L L' R : Grid} (h : TwoAt w base v ps L u qs R f) (hl : GridAt w' base v ps L') (hf : FieldAt w' f) {p : Nat × Nat} (hp : p ∈ ps) (hg : w.grownBy w' (some p.1)) : TwoAt w' base v ps L' u qs R f := by
  obtain ⟨l, hr, _⟩ := h.gl.rowOf hp
  exact ⟨hl, h.gr.grown hg (fun e => row_ne_own hr h.gr.outer e.symm) (fun q hq e => h.sep p hp q hq e.symm), h.sep, h.own, hf⟩
/-- The outer row of the one is written. -/
theorem TwoAt.outer {w w' : World} {base f g n cap : Nat} {u : Value} {ps ps' qs : List (Nat × Nat)} {L L' R : Grid} (h : TwoAt w base (.slice (some ⟨g, 0, none⟩) n cap) ps L u qs R f) (hl : GridAt w' base (.slice (some ⟨g, 0, none⟩) n cap) ps' L') (hn : 0 < L.length)
    (hm : ∀ p, p ∈ ps' → p ∈ ps) (hg : w.grownBy w' (some g)) : TwoAt w' base (.slice (some ⟨g, 0, none⟩) n cap) ps' L' u qs R f := by
  obtain ⟨_, _, cur, hh, _⟩ := h.gl.outerSet hn
  refine ⟨hl, h.gr.grown hg (fun e => h.own e.symm) (fun q hq e => ?_), fun p hp q hq => h.sep p (hm p hp) q hq, h.own, blk_grown h.field hg (fun e => ?_)⟩
  · obtain ⟨l, hr, _⟩ := h.gr.rowOf hq
    exact row_ne_own hr h.gl.outer (by rw [e]; rfl)
  · have hf := h.field
    unfold FieldAt at hf
    injection e with e
    rw [e, hh] at hf
    injection hf with hf
    injection hf with _ hf _
    exact absurd hf (by decide)
theorem mem_swapL {α : Type} (l : List α) (a b : Nat) (ha : a < l.length) (hb : b < l.length) {x : α} (h : x ∈ swapL l a b ha hb) : x ∈ l := by
  obtain ⟨i, hi⟩ := List.mem_iff_getElem?.1 h
  exact List.mem_of_getElem? (swapL_at l a b ha hb i x hi)
/-! A column cleared row by row. -/
def clearP (c : Nat) (L M : Grid) (i : Nat) : Grid := M.mapIdx (fun j r => if j < i ∧ j ≠ c then addR (at2 L j c) (Gf.rowAt M c) r else r)
theorem clearP_len (c : Nat) (L M : Grid) (i : Nat) : (clearP c L M i).length = M.length := by simp [clearP]
theorem clearP_get (c : Nat) (L M : Grid) (i j : Nat) (hj : j < M.length) : (clearP c L M i)[j]'(by rw [clearP_len]; exact hj) = if j < i ∧ j ≠ c then addR (at2 L j c) (Gf.rowAt M c) M[j] else M[j] := by simp [clearP]
theorem clearP_zero (c : Nat) (L M : Grid) : clearP c L M 0 = M := by
  apply List.ext_getElem
  · exact clearP_len _ _ _ _
  · intro j h1 h2
    rw [clearP_get _ _ _ _ _ h2, if_neg (by omega)]
theorem clearC_get (c : Nat) (L M : Grid) (j : Nat) (h : j < (clearC c L M).length) (hj : j < M.length) : (clearC c L M)[j] = if j = c then M[j] else addR (at2 L j c) (Gf.rowAt M c) M[j] := by simp [clearC]
theorem clearP_full (c : Nat) (L M : Grid) : clearP c L M M.length = clearC c L M := by
  apply List.ext_getElem
  · rw [clearP_len]; simp [clearC]
  · intro j h1 h2
    have hj : j < M.length := by rw [clearP_len] at h1; exact h1
    rw [clearP_get _ _ _ _ _ hj, clearC_get c L M j h2 hj]
    by_cases e : j = c
    · rw [if_neg (by omega), if_pos e]
    · rw [if_pos ⟨hj, e⟩, if_neg e]
theorem clearP_same (c : Nat) (L M : Grid) (i : Nat) (hi : i < M.length) (h : i = c ∨ addR (at2 L i c) (Gf.rowAt M c) M[i] = M[i]) : clearP c L M (i + 1) = clearP c L M i := by
  apply List.ext_getElem
  · rw [clearP_len, clearP_len]
  · intro j h1 h2
    have hj : j < M.length := by rw [clearP_len] at h1; exact h1
    rw [clearP_get _ _ _ _ _ hj, clearP_get _ _ _ _ _ hj]
    by_cases e : j = i
    · subst e
      rcases h with h | h
      · rw [if_neg (by omega), if_neg (by omega)]
      · by_cases ec : j = c
        · rw [if_neg (by omega), if_neg (by omega)]
        · rw [if_pos (by omega), if_neg (by omega), h]
    · by_cases e2 : j < i ∧ j ≠ c
      · rw [if_pos e2, if_pos (by omega)]
      · rw [if_neg e2, if_neg (by omega)]
theorem clearP_set (c : Nat) (L M : Grid) (i : Nat) (hi : i < M.length) (h : i ≠ c) : (clearP c L M i).set i (addR (at2 L i c) (Gf.rowAt M c) M[i]) = clearP c L M (i + 1) := by
  apply List.ext_getElem
  · rw [List.length_set, clearP_len, clearP_len]
  · intro j h1 h2
    have hj : j < M.length := by rw [clearP_len] at h2; exact h2
    rw [List.getElem_set, clearP_get _ _ _ _ _ hj, clearP_get _ _ _ _ _ hj]
    by_cases e : i = j
    · subst e
      rw [if_pos rfl, if_pos (by omega)]
    · rw [if_neg e]
      by_cases e2 : j < i ∧ j ≠ c
      · rw [if_pos e2, if_pos (by omega)]
      · rw [if_neg e2, if_neg (by omega)]
theorem add_none (f t : List UInt8) (h : f.length = t.length) : addR 0 f t = t := by
  unfold addR
  apply List.ext_getElem
  · simp; omega
  · intro i h1 h2
    rw [List.getElem_zipWith, zero_gmul]
    simp
end Go.Proofs.YtegmmefijihdeaaDoor.Grd
namespace Go.Proofs.YtegmmefijihdeaaDoor.Grd
open Go.RowKit Go.Proofs.YtegmmefijihdeaaDoorW.PrintWords Go.Proofs.YtegmmefijihdeaaDoorW.PrintLast Go.Proofs.YtegmmefijihdeaaDoorW.PrintMore Go.Proofs.YtegmmefijihdeaaDoor.Gf Go.Proofs.YtegmmefijihdeaaDoor.Rowb Go.Proofs.YtegmmefijihdeaaDoor.Fld
attribute [local go_sem] max2_int min2_int max_two min_two
set_option linter.unusedVariables false
set_option linter.unusedSimpArgs false
set_option maxRecDepth 100000 in
set_option maxHeartbeats 1000000 in
theorem check_walk (w : World) (r c : Nat) (s : List UInt8) (hr1 : 1 ≤ r) (hr2 : r ≤ 255) (hc1 : 1 ≤ c) (hc2 : c ≤ 255) (hs : s.length = r * c) :
    Calls Tryd.prog 86 #[matV r c s] w fun e w' => e = .returned (.int .i64 0) ∧ Below w.heap.size w w' := by
  unfold matV
  obtain ⟨t, ht⟩ : ∃ t : ByteArray, t = ⟨s.toArray⟩ := ⟨_, rfl⟩
  have hts : (t.size : Int) = (r : Int) * (c : Int) := by
    have : t.size = s.length := by rw [ht]; show (s.toArray).size = _; simp
    rw [this, hs]
    push_cast
    rfl
  rw [← ht]
  have hb : r * c ≤ 255 * 255 := Nat.mul_le_mul hr2 hc2
  have hbi : (r : Int) * (c : Int) = ((r * c : Nat) : Int) := by push_cast; rfl
  rw [hbi] at hts
  obtain ⟨z, hz⟩ : ∃ z, r * c = z := ⟨_, rfl⟩
  rw [hz] at hts hbi hb
  have c1 : decide ((r : Int) < 1) = false := by simp; omega
  have c2 : decide ((c : Int) < 1) = false := by simp; omega
  have c3 : decide ((255 : Int) < (r : Int)) = false := by simp; omega
  have c4 : decide ((255 : Int) < (c : Int)) = false := by simp; omega
  have d1 : ¬ r = 0 := by omega
  have d2 : ¬ c = 0 := by omega
  have d3 : ¬ (255 < r) := by omega
  have d4 : ¬ (255 < c) := by omega
  clear ht hz hs hr1 hc1
  go_enter Tryd.func86, Tryd.ntmps86
  have hbx : (w.alloc (.cells #[.int .i64 (r : Int), .int .i64 (c : Int), .string t] 74)).heap[w.heap.size]? = some (.cells #[.int .i64 (r : Int), .int .i64 (c : Int), .string t] 74 (0, 0)) := blk_new _ _
  have c5 := blk_cell hbx 0
  have c6 := blk_cell hbx 1
  have c7 := blk_cell hbx 2
  go_wp2
  all_goals first
    | (go_ret; exact ⟨rfl, (Below.refl _ _).alloc (Nat.le_refl _) _⟩)
    | (exfalso; omega)
end Go.Proofs.YtegmmefijihdeaaDoor.Grd
namespace Go.Proofs.YtegmmefijihdeaaDoor.Grd
open Go.RowKit Go.Proofs.YtegmmefijihdeaaDoorW.PrintWords Go.Proofs.YtegmmefijihdeaaDoorW.PrintLast Go.Proofs.YtegmmefijihdeaaDoorW.PrintMore Go.Proofs.YtegmmefijihdeaaDoor.Gf Go.Proofs.YtegmmefijihdeaaDoor.Rowb Go.Proofs.YtegmmefijihdeaaDoor.Fld
set_option linter.unusedVariables false
set_option linter.unusedSimpArgs false
def gridV (g n cap : Nat) : Value := .slice (some ⟨g, 0, none⟩) n cap
/-- What stands beside the grids. -/
structure Side (w : World) (b2 gs : Nat) (cs : Array Value) (W : World) : Prop where
  res : W.heap[b2]? = some (.cells #[.int .i64 0, .int .i64 0, .string ⟨#[]⟩] 74 (0, 0))
  swaps : W.heap[gs]? = some (.cells cs 121 (0, 0))
  bel : Below w.heap.size w W
theorem Side.grown {w W W' : World} {b2 gs b : Nat} {cs : Array Value} (h : Side w b2 gs cs W) (hg : W.grownBy W' (some b)) (hb : w.heap.size ≤ b) (h1 : b2 ≠ b) (h2 : gs ≠ b) : Side w b2 gs cs W' :=
  ⟨blk_grown h.res hg (fun e => h1 (by injection e)), blk_grown h.swaps hg (fun e => h2 (by injection e)), h.bel.trans (below_grown hg hb h.bel.size)⟩
theorem row_ne_blk {w : World} {g p : Nat} {l : List UInt8} {cs : Array Value} {t : TypeId} {fr : Nat × Nat} (h : RowS w p l) (hg : w.heap[g]? = some (.cells cs t fr)) (ht : 5 ≠ t) : g ≠ p := by
  obtain ⟨sp, fr, h, _⟩ := h
  intro e
  subst e
  rw [h] at hg
  injection hg with hg
  injection hg with _ hg _
  exact ht hg
theorem blk_ne_blk {w : World} {g p : Nat} {cs cs' : Array Value} {t t' : TypeId} {fr fr' : Nat × Nat} (h : w.heap[p]? = some (.cells cs' t' fr')) (hg : w.heap[g]? = some (.cells cs t fr)) (ht : t' ≠ t) : g ≠ p := by
  intro e
  subst e
  rw [h] at hg
  injection hg with hg
  injection hg with _ hg _
  exact ht hg
/-- The state: left grid L at gl, right grid R at gr. -/
def State (w : World) (b2 gs : Nat) (cs : Array Value) (f n : Nat) (vL vR : Nat × Nat) (W : World) (L R : Grid) : Prop :=
  ∃ ps qs, TwoAt W w.heap.size (gridV vL.1 n vL.2) ps L (gridV vR.1 n vR.2) qs R f ∧ Side w b2 gs cs W
section
variable {w : World} {b2 gs f n : Nat} {cs : Array Value} {vL vR : Nat × Nat} {W : World} {L R : Grid}
theorem State.symm (h : State w b2 gs cs f n vL vR W L R) : State w b2 gs cs f n vR vL W R L := by
  obtain ⟨ps, qs, h1, h2⟩ := h
  exact ⟨qs, ps, h1.symm, h2⟩
theorem State.heap {W' : World} (h : State w b2 gs cs f n vL vR W L R) (hb : Below W.heap.size W W') : State w b2 gs cs f n vL vR W' L R := by
  obtain ⟨ps, qs, h1, h2⟩ := h
  exact ⟨ps, qs, ⟨h1.gl.below hb, h1.gr.below hb, h1.sep, h1.own, h1.field.below hb⟩, ⟨blk_below h2.res hb, blk_below h2.swaps hb, h2.bel.trans (hb.mono h2.bel.size)⟩⟩
theorem State.row {W' : World} {ps qs : List (Nat × Nat)} {L' : Grid} (h : TwoAt W w.heap.size (gridV vL.1 n vL.2) ps L (gridV vR.1 n vR.2) qs R f) (hs : Side w b2 gs cs W) (hl : GridAt W' w.heap.size (gridV vL.1 n vL.2) ps L') (hf : FieldAt W' f) {p : Nat × Nat} (hp : p ∈ ps) (hg : W.grownBy W' (some p.1)) :
    State w b2 gs cs f n vL vR W' L' R := by
  obtain ⟨l, hr, hb⟩ := h.gl.rowOf hp
  exact ⟨ps, qs, h.row hl hf hp hg, hs.grown hg hb (row_ne_blk hr hs.res (by decide)) (row_ne_blk hr hs.swaps (by decide))⟩
/-- A row is scaled. -/
theorem State.scale (h : State w b2 gs cs f n vL vR W L R) (hL : Sq n L) (hn : n ≤ 255) (c : Nat) (hc : c < n) (x : UInt8) :
    Calls Tryd.prog 89 #[gridV vL.1 n vL.2, .pointer (some ⟨f, 0, none⟩), .int .i64 (c : Int), .int .u8 (x.toNat : Int)] W fun e W' => e = .returned (.tuple #[]) ∧ State w b2 gs cs f n vL vR W' (gjS c x L) R := by
  obtain ⟨ps, qs, h1, h2⟩ := h
  have hcl : c < L.length := by rw [hL.len]; exact hc
  have hrl : L[c].length = n := by have := hL.rows c hc; rwa [rowAt_lt hcl] at this
  refine (scale_walk h1.gl h1.field c hcl (by omega) x).mono fun e W' ⟨he, hg, hf, hgr⟩ => ⟨he, ?_⟩
  unfold gjS
  rw [rowAt_lt hcl]
  exact State.row h1 h2 hg hf (List.getElem_mem _) hgr
/-- A row, scaled, is added to another one. -/
theorem State.add (h : State w b2 gs cs f n vL vR W L R) (hl : L.length = n) (hn : n ≤ 255) (i c : Nat) (hi : i < n) (hc : c < n) (hic : i ≠ c) (hri : (L[i]'(by omega)).length = n) (hrc : (L[c]'(by omega)).length = n) (x : UInt8) :
    Calls Tryd.prog 90 #[gridV vL.1 n vL.2, .pointer (some ⟨f, 0, none⟩), .int .i64 (i : Int), .int .u8 (x.toNat : Int), .int .i64 (c : Int)] W fun e W' => e = .returned (.tuple #[]) ∧ State w b2 gs cs f n vL vR W' (L.set i (addR x (L[c]'(by omega)) (L[i]'(by omega)))) R := by
  obtain ⟨ps, qs, h1, h2⟩ := h
  refine (add_walk h1.gl h1.field i c (by omega) (by omega) hic (by omega) (by omega) x).mono fun e W' ⟨he, hg, hf, hgr⟩ => ⟨he, ?_⟩
  exact State.row h1 h2 hg hf (List.getElem_mem _) hgr
/-- Two rows change places. -/
theorem State.swap (h : State w b2 gs cs f n vL vR W L R) (hl : L.length = n) (a b : Nat) (ha : a < n) (hb : b < n) :
    Calls Tryd.prog 88 #[gridV vL.1 n vL.2, .int .i64 (a : Int), .int .i64 (b : Int)] W fun e W' => e = .returned (.tuple #[]) ∧ State w b2 gs cs f n vL vR W' (swapR L a b) R := by
  obtain ⟨ps, qs, h1, h2⟩ := h
  refine (swap_walk h1.gl a b (by omega) (by omega)).mono fun e W' ⟨he, hg, hgr⟩ => ⟨he, ?_⟩
  have hgr' : W.grownBy W' (some vL.1) := hgr
  obtain ⟨_, hbg, cur, hh, _⟩ := h1.gl.outerSet (by omega)
  exact ⟨_, qs, h1.outer hg (by omega) (fun p hp => mem_swapL _ _ _ _ _ hp) hgr', h2.grown hgr' hbg (blk_ne_blk hh h2.res (by decide)) (blk_ne_blk hh h2.swaps (by decide))⟩
theorem State.read (h : State w b2 gs cs f n vL vR W L R) (hL : L.length = n) (i j : Nat) (hi : i < n) (hj : j < (L[i]'(by omega)).length) :
    ∃ p : Nat × Nat, W.cell? ⟨vL.1, i, none⟩ = some (.slice (some ⟨p.1, 0, none⟩) (L[i]'(by omega)).length p.2) ∧ W.cell? ⟨p.1, j, none⟩ = some (.int .u8 (((L[i]'(by omega))[j]).toNat : Int)) := by
  obtain ⟨ps, qs, h1, h2⟩ := h
  have hp : i < ps.length := by rw [h1.gl.len]; omega
  refine ⟨ps[i], (h1.gl.rowCell i (by omega) hp).1, ?_⟩
  exact (h1.gl.row i _ _ (List.getElem?_eq_getElem hp) (List.getElem?_eq_getElem (by omega))).2.2.cell j hj
theorem State.field (h : State w b2 gs cs f n vL vR W L R) : FieldAt W f := by
  obtain ⟨ps, qs, h1, h2⟩ := h
  exact h1.field
theorem State.side (h : State w b2 gs cs f n vL vR W L R) : Side w b2 gs cs W := by
  obtain ⟨ps, qs, h1, h2⟩ := h
  exact h2
end
end Go.Proofs.YtegmmefijihdeaaDoor.Grd
namespace Go.Proofs.YtegmmefijihdeaaDoor.Grd
open Go.RowKit Go.Proofs.YtegmmefijihdeaaDoorW.PrintWords Go.Proofs.YtegmmefijihdeaaDoorW.PrintLast Go.Proofs.YtegmmefijihdeaaDoorW.PrintMore Go.Proofs.YtegmmefijihdeaaDoor.Gf Go.Proofs.YtegmmefijihdeaaDoor.Rowb Go.Proofs.YtegmmefijihdeaaDoor.Fld
set_option linter.unusedVariables false
set_option linter.unusedSimpArgs false
@[local go_sem] theorem run_makeFunc' (P : Program) (fn : Fn) (first cap : Array Value) (w : World) : (Instr.makeFunc fn first cap).run P w = .ok (.func fn first cap) w := rfl
@[local go_sem] theorem events_makeFunc' (P : Program) (fn : Fn) (first cap : Array Value) (w : World) (es : Array Event) : (Instr.makeFunc fn first cap).events P w es = es := rfl
theorem two_start {w w3 w4 : World} {B f : Nat} {vl vr : Value} {ps qs : List (Nat × Nat)} {M R : Grid} (hg : GridAt w3 B vl ps M) (hB : w.heap.size ≤ B) (hgr : GridAt w4 w3.heap.size vr qs R) (hw3 : w.heap.size ≤ w3.heap.size) (hb4 : Below w3.heap.size w3 w4) (hf : FieldAt w3 f) (hM : 0 < M.length) (hR : 0 < R.length) :
    ∃ (l r : Nat × Nat), vl = gridV l.1 M.length l.2 ∧ vr = gridV r.1 R.length r.2 ∧ TwoAt w4 w.heap.size vl ps M vr qs R f := by
  obtain ⟨gl, capl, curl, hvl, hgl, hhl, _, _⟩ := hg.form hM
  obtain ⟨gr, capr, curr, hvr, hgr2, hhr, _, _⟩ := hgr.form hR
  refine ⟨(gl, capl), (gr, capr), hvl, hvr, (hg.below hb4).lower hB, hgr.lower hw3, fun p hp q hq e => ?_, fun e => ?_, hf.below hb4⟩
  · obtain ⟨l, hr, _⟩ := hg.rowOf hp
    obtain ⟨l2, _, hq2⟩ := hgr.rowOf hq
    have := hr.lt
    omega
  · rw [hvl, hvr] at e
    have e' : gl = gr := by injection e
    have := blk_lt hhl
    omega
theorem step_facts {n c : Nat} {L Q R : Grid} (hL : Sq n L) (hc : c < n) (h : gj (n - c) c L Q = some R) :
    ∃ pv, pivot L c = pv ∧ c ≤ pv ∧ pv < n ∧ at2 L pv c ≠ 0 ∧ (∀ i, c ≤ i → i < pv → at2 L i c = 0) ∧ gj (n - (c + 1)) (c + 1) (stepL c L) (stepR c L Q) = some R := by
  obtain ⟨m, hm⟩ : ∃ m, n - c = m + 1 := ⟨n - c - 1, by omega⟩
  rw [hm] at h
  unfold gj at h
  by_cases e : pivot L c = L.length
  · rw [if_pos e] at h
    cases h
  · rw [if_neg e] at h
    have hle := pivotGo_le L c (L.length - c) c
    have hpv : pivot L c = pivotGo L c (L.length - c) c := rfl
    have hl := hL.len
    refine ⟨pivot L c, rfl, by omega, by omega, ?_, fun i h1 h2 => pivotGo_before L c (L.length - c) c i h1 (by omega), ?_⟩
    · rw [hpv]
      exact pivotGo_at L c _ c (by omega)
    · rw [show n - (c + 1) = m by omega]
      exact h
theorem at2_get {n : Nat} {L : Grid} (hL : Sq n L) (i j : Nat) (hi : i < n) (hj : j < n) : ∃ (h1 : i < L.length) (h2 : j < L[i].length), L[i][j] = at2 L i j := by
  have h1 : i < L.length := by rw [hL.len]; exact hi
  have hr := hL.rows i hi
  rw [rowAt_lt h1] at hr
  refine ⟨h1, by omega, ?_⟩
  unfold at2
  rw [rowAt_lt h1, List.getD_eq_getElem?_getD, List.getElem?_eq_getElem (by omega)]
  rfl
theorem State.peek {w : World} {b2 gs f n : Nat} {cs : Array Value} {vL vR : Nat × Nat} {W : World} {L R : Grid} (h : State w b2 gs cs f n vL vR W L R) (hL : Sq n L) (i j : Nat) (hi : i < n) (hj : j < n) :
    ∃ p : Nat × Nat, W.cell? ⟨vL.1, i, none⟩ = some (.slice (some ⟨p.1, 0, none⟩) n p.2) ∧ W.cell? ⟨p.1, j, none⟩ = some (.int .u8 ((at2 L i j).toNat : Int)) := by
  obtain ⟨h1, h2, e⟩ := at2_get hL i j hi hj
  obtain ⟨p, c1, c2⟩ := h.read hL.len i j hi h2
  have hr := hL.rows i hi
  rw [rowAt_lt h1] at hr
  rw [hr] at c1
  rw [e] at c2
  exact ⟨p, c1, c2⟩
theorem clear_read {w : World} {b2 gs f n : Nat} {cs : Array Value} {vL vR : Nat × Nat} {W : World} {L R : Grid} {i c : Nat} (h : State w b2 gs cs f n vL vR W (clearP c L L i) R) (hL : Sq n L) (hi : i < n) (hc : c < n) :
    ∃ p : Nat × Nat, W.cell? ⟨vL.1, i, none⟩ = some (.slice (some ⟨p.1, 0, none⟩) n p.2) ∧ W.cell? ⟨p.1, c, none⟩ = some (.int .u8 ((at2 L i c).toNat : Int)) := by
  obtain ⟨h1, h2, e⟩ := at2_get hL i c hi hc
  have hr := hL.rows i hi
  rw [rowAt_lt h1] at hr
  have eg : (clearP c L L i)[i]'(by rw [clearP_len]; exact h1) = L[i] := by rw [clearP_get _ _ _ _ _ h1, if_neg (by omega)]
  obtain ⟨p, c1, c2⟩ := h.read (by rw [clearP_len]; exact hL.len) i c hi (by rw [eg]; exact h2)
  have e3 : ((clearP c L L i)[i]'(by rw [clearP_len]; exact h1)).length = n := by rw [eg, hr]
  rw [e3] at c1
  refine ⟨p, c1, ?_⟩
  rw [c2]
  congr 3
  have : ((clearP c L L i)[i]'(by rw [clearP_len]; exact h1))[c]? = L[i][c]? := by rw [eg]
  rw [List.getElem?_eq_getElem (by rw [eg]; exact h2), List.getElem?_eq_getElem h2] at this
  injection this with this
  rw [this, e]
theorem State.clear {w : World} {b2 gs f n : Nat} {cs : Array Value} {vL vR : Nat × Nat} {W : World} {L M R : Grid} {i c : Nat} (h : State w b2 gs cs f n vL vR W (clearP c L M i) R) (hM : Sq n M) (hn : n ≤ 255) (hi : i < n) (hc : c < n) (hic : i ≠ c) :
    Calls Tryd.prog 90 #[gridV vL.1 n vL.2, .pointer (some ⟨f, 0, none⟩), .int .i64 (i : Int), .int .u8 ((at2 L i c).toNat : Int), .int .i64 (c : Int)] W fun e W' => e = .returned (.tuple #[]) ∧ State w b2 gs cs f n vL vR W' (clearP c L M (i + 1)) R := by
  have h1 : i < M.length := by rw [hM.len]; exact hi
  have h2 : c < M.length := by rw [hM.len]; exact hc
  have hri := hM.rows i hi
  have hrc := hM.rows c hc
  rw [rowAt_lt h1] at hri
  rw [rowAt_lt h2] at hrc
  have ei : (clearP c L M i)[i]'(by rw [clearP_len]; exact h1) = M[i] := by rw [clearP_get _ _ _ _ _ h1, if_neg (by omega)]
  have ec : (clearP c L M i)[c]'(by rw [clearP_len]; exact h2) = M[c] := by rw [clearP_get _ _ _ _ _ h2, if_neg (by omega)]
  have := h.add (by rw [clearP_len]; exact hM.len) hn i c hi hc hic (by rw [ei]; exact hri) (by rw [ec]; exact hrc) (at2 L i c)
  have e4 := clearP_set c L M i h1 hic
  rw [rowAt_lt h2] at e4
  have e5 : (clearP c L M i).set i (addR (at2 L i c) ((clearP c L M i)[c]'(by rw [clearP_len]; exact h2)) ((clearP c L M i)[i]'(by rw [clearP_len]; exact h1))) = clearP c L M (i + 1) := by
    rw [← e4]
    congr 1
    rw [ei, ec]
  rw [e5] at this
  exact this
theorem clear_keep {n i c : Nat} {L M : Grid} (hM : Sq n M) (hi : i < n) (hc : c < n) (h : i = c ∨ at2 L i c = 0) : clearP c L M (i + 1) = clearP c L M i := by
  have h1 : i < M.length := by rw [hM.len]; exact hi
  have hri := hM.rows i hi
  have hrc := hM.rows c hc
  rw [rowAt_lt h1] at hri
  refine clearP_same c L M i h1 (h.imp_right (fun e => ?_))
  rw [e]
  exact add_none _ _ (by rw [hrc, hri])
theorem clear_end {n c : Nat} {L M : Grid} (hM : Sq n M) : clearP c L M n = clearC c L M := by rw [← clearP_full, hM.len]
theorem TwoAt.alloc {w : World} {base f : Nat} {v u : Value} {ps qs : List (Nat × Nat)} {L R : Grid} (h : TwoAt w base v ps L u qs R f) (o : Obj) : TwoAt (w.alloc o) base v ps L u qs R f :=
  have hb : Below w.heap.size w (w.alloc o) := (Below.refl _ _).alloc (Nat.le_refl _) _
  ⟨h.gl.below hb, h.gr.below hb, h.sep, h.own, h.field.below hb⟩
theorem World.Below_trans_ {w w2 w3 : World} (h : Below w.heap.size w w2) (h3 : Below w2.heap.size w2 w3) : Below w.heap.size w w3 := h.trans (h3.mono h.size)
set_option maxRecDepth 100000 in
set_option maxHeartbeats 60000000 in
theorem inverse_walk (w : World) (n : Nat) (M R : Grid) (hM : Sq n M) (hn1 : 1 ≤ n) (hn2 : n ≤ 255) (hR : inverse M = some R) :
    Calls Tryd.prog 61 #[matV n n M.flatten] w fun e w' => e = .returned (.tuple #[matV n n R.flatten, .int .i64 0]) ∧ Below w.heap.size w w' := by
  have hrows : ∀ r, r ∈ M → r.length = n := fun r hr => by
    obtain ⟨i, hi, rfl⟩ := List.getElem_of_mem hr
    have := hM.rows i (by rw [← hM.len]; exact hi)
    rwa [rowAt_lt hi] at this
  have hfl : M.flatten.length = n * n := by rw [flat_len M hrows, hM.len]
  have HC : Aside0 (∀ W, Calls Tryd.prog 86 #[matV n n M.flatten] W fun e w' => e = .returned (.int .i64 0) ∧ Below W.heap.size W w') := ⟨fun W => check_walk W n n _ hn1 hn2 hn1 hn2 hfl⟩
  have HO : Aside0 (∀ W, Calls Tryd.prog 87 #[matV n n M.flatten] W (IsGrid M W)) := ⟨fun W => by
    have := of_walk W M n hrows (by rw [hM.len]; exact hn1) (by rw [hM.len]; exact hn2) hn2
    rw [hM.len] at this
    exact this⟩
  have H1 : Aside0 (∀ W, Calls Tryd.prog 80 #[.int .i64 (n : Int)] W (IsOne n W)) := ⟨fun W => one_walk W n hn2⟩
  have HN : Aside0 (∀ W, Calls Tryd.prog 56 #[] W (Made W)) := ⟨fun W => new_walk W⟩
  unfold matV at HC HO ⊢
  obtain ⟨t, ht⟩ : ∃ t : ByteArray, t = ⟨M.flatten.toArray⟩ := ⟨_, rfl⟩
  rw [← ht] at HC HO ⊢
  clear ht hfl hrows
  go_enter Tryd.func61, Tryd.ntmps61
  have hbx : (w.alloc (.cells #[.int .i64 (n : Int), .int .i64 (n : Int), .string t] 74)).heap[w.heap.size]? = some (.cells #[.int .i64 (n : Int), .int .i64 (n : Int), .string t] 74 (0, 0)) := blk_new _ _
  go_wp2_with fail
  refine (HC.out _).mono ?_
  rintro e w1 ⟨rfl, hb1⟩
  have hsz1 : w.heap.size + 2 ≤ w1.heap.size := by
    have := hb1.size
    simpa using this
  have X1 := Aside0.mk (blk_below (blk_alloc hbx (.cells #[.int .i64 0, .int .i64 0, .string ⟨#[]⟩] 74 (0, 0))) hb1)
  have R1 : Aside0 (w1.heap[w.heap.size + 1]? = some (.cells #[.int .i64 0, .int .i64 0, .string ⟨#[]⟩] 74 (0, 0))) := ⟨by
    have := blk_below (blk_new (w.alloc (.cells #[.int .i64 (n : Int), .int .i64 (n : Int), .string t] 74)) (.cells #[.int .i64 0, .int .i64 0, .string ⟨#[]⟩] 74 (0, 0))) hb1
    simpa using this⟩
  have B1 : Aside0 (Below w.heap.size w w1) := ⟨(((Below.refl _ _).alloc (Nat.le_refl _) _).alloc (by simp) _).trans (hb1.mono (by simp; omega))⟩
  clear hb1 hbx
  have c10 := blk_cell X1.out 0
  have c11 := blk_cell X1.out 1
  have c12 := blk_cell X1.out 2
  go_wp2_with fail
  refine (HN.out _).mono ?_
  rintro e w2 ⟨rfl, hf2, hb2⟩
  have X2 := Aside0.mk (blk_below X1.out hb2)
  have R2 := Aside0.mk (blk_below R1.out hb2)
  have B2 : Aside0 (Below w.heap.size w w2) := ⟨B1.out.trans (hb2.mono B1.out.size)⟩
  have F2 := Aside0.mk hf2
  have hfw : w.heap.size ≤ w1.heap.size := B1.out.size
  obtain ⟨f, hfe⟩ : ∃ f, w1.heap.size = f := ⟨_, rfl⟩
  rw [hfe] at F2 ⊢
  clear hb2 hf2 c10 c11 c12 X1 R1 B1 HN HC
  have c20 := blk_cell X2.out 0
  have c21 := blk_cell X2.out 1
  have c22 := blk_cell X2.out 2
  go_wp2_with fail
  go_region_law (first
    | (go_simp; go_at_call 87; refine (HO.out _).mono ?_; rintro e w3 ⟨vl, ps, rfl, hgl, hb3⟩; have X3 := Aside0.mk (blk_below (by exact X2.out) hb3); have R3 := Aside0.mk (blk_below (by exact R2.out) hb3); have F3 := Aside0.mk (Fld.FieldAt.below (by exact F2.out) hb3); have B3 : Aside0 (Below w.heap.size w w3) := ⟨World.Below_trans_ (by repeat (first | exact B2.out | apply below_drew1 | apply pw_below_drewN)) hb3⟩; have G3 := Aside0.mk hgl; have c30 := blk_cell X3.out 0; clear hb3 hgl)
    | (go_simp; go_at_call 80; refine (H1.out _).mono ?_; rintro e w4 ⟨vr, qs, rfl, hgr, _, hb4⟩; have HT := Aside0.mk (And.intro hgr hb4); clear hgr hb4))
  all_goals
    have hM0 : 0 < M.length := by rw [hM.len]; exact hn1
    have hol : (oneG n).length = n := by simp [oneG]
    obtain ⟨vL, vR, hvl, hvr, h2⟩ := two_start G3.out B2.out.size HT.out.1 B3.out.size (by exact HT.out.2) F3.out hM0 (by rw [hol]; exact hn1)
    rw [hM.len] at hvl
    rw [hol] at hvr
    have H2 := Aside0.mk h2
    have R4 := Aside0.mk (blk_below (by exact R3.out) (by exact HT.out.2))
    have B4 : Aside0 (Below w.heap.size w w4) := ⟨World.Below_trans_ (by exact B3.out) (by exact HT.out.2)⟩
    subst hvl hvr
    clear h2 HT G3 R3 B3 F3 X3 X2 R2 B2 F2 c30 c20 c21 c22 hM0 HO H1
    obtain ⟨gl, cl⟩ := vL
    obtain ⟨gr, cr⟩ := vR
    dsimp only [gridV]
    go_wp2_with fail
    have HS0 : Aside0 (State w (w.heap.size + 1) w4.heap.size #[.func (.func 88) #[.slice (some ⟨gl, 0, none⟩) n cl] #[], .func (.func 88) #[.slice (some ⟨gr, 0, none⟩) n cr] #[]] f n (gl, cl) (gr, cr) (w4.alloc (.cells #[.func (.func 88) #[.slice (some ⟨gl, 0, none⟩) n cl] #[], .func (.func 88) #[.slice (some ⟨gr, 0, none⟩) n cr] #[]] 121)) M (oneG n)) := ⟨ps, qs, H2.out.alloc _, blk_alloc R4.out _, blk_new _ _, B4.out.alloc B4.out.size _⟩
    have HJ0 : Aside0 (gj (n - 0) 0 M (oneG n) = some R ∧ Sq n M ∧ Sq n (oneG n)) := ⟨by have := hR; unfold inverse at this; rw [hM.len] at this; exact this, hM, one_sq n⟩
    obtain ⟨gs, hgs⟩ : ∃ gs, w4.heap.size = gs := ⟨_, rfl⟩
    rw [hgs] at HS0 ⊢
    have hgs2 : w.heap.size + 2 ≤ gs := by
      have := blk_lt R4.out
      omega
    clear hgs H2 R4 B4
    go_loopw [40] (fun i W => ∃ (c : Nat) (L Q : Grid), c ≤ n ∧ i = .int .i64 (c : Int) ∧ Aside0 (State w (w.heap.size + 1) gs #[.func (.func 88) #[.slice (some ⟨gl, 0, none⟩) n cl] #[], .func (.func 88) #[.slice (some ⟨gr, 0, none⟩) n cr] #[]] f n (gl, cl) (gr, cr) W L Q) ∧ Aside0 (gj (n - c) c L Q = some R ∧ Sq n L ∧ Sq n Q)) (fun i _ => n - (intOf i).toNat)
    case atStart => exact ⟨0, M, oneG n, by omega, rfl, HS0, HJ0⟩
    case round =>
      obtain ⟨c, L, Q, hcn, rfl, HS, HJ⟩ := hrel
      clear HS0 HJ0
      by_cases hlt : c < n
      · obtain ⟨pv, hpe, hcp, hpn, hpz, hpb, hgj⟩ := step_facts HJ.out.2.1 hlt HJ.out.1
        have HPB := Aside0.mk hpb
        have HPZ := Aside0.mk hpz
        have HPE := Aside0.mk hpe
        have HGJ := Aside0.mk hgj
        have HSL := Aside0.mk HJ.out.2.1
        have HSQ := Aside0.mk HJ.out.2.2
        clear hpb hpz hpe hgj HJ
        go_wp2_with fail
        go_loopw [9] (fun v W => ∃ a : Nat, c ≤ a ∧ a ≤ pv ∧ v = .int .i64 (a : Int) ∧ Aside0 (State w (w.heap.size + 1) gs #[.func (.func 88) #[.slice (some ⟨gl, 0, none⟩) n cl] #[], .func (.func 88) #[.slice (some ⟨gr, 0, none⟩) n cr] #[]] f n (gl, cl) (gr, cr) W L Q)) (fun v _ => n - (intOf v).toNat)
        case atStart => exact ⟨c, by omega, hcp, rfl, HS⟩
        case round =>
          obtain ⟨a, hca, hap, rfl, HS1⟩ := hrel
          clear HS
          obtain ⟨q, k1, k2⟩ := HS1.out.peek HSL.out a c (by omega) hlt
          obtain ⟨q1, q2⟩ := q
          have han : a < n := by omega
          by_cases hav : a = pv
          · subst hav
            obtain ⟨z, hz⟩ : ∃ z, (at2 L a c).toNat = z := ⟨_, rfl⟩
            have hz0 : ¬ z = 0 := fun e => HPZ.out (b_ext (by rw [hz, e]; rfl))
            rw [hz] at k2
            have hzl : z < 256 := by rw [← hz]; exact b_lt _
            clear hz
            go_wp2_with fail
            clear k1 k2 hz0 hzl
            go_loopw [67] (fun v W => ∃ k : Nat, k ≤ 2 ∧ v = .int .i64 (k : Int) ∧ Aside0 (State w (w.heap.size + 1) gs #[.func (.func 88) #[.slice (some ⟨gl, 0, none⟩) n cl] #[], .func (.func 88) #[.slice (some ⟨gr, 0, none⟩) n cr] #[]] f n (gl, cl) (gr, cr) W (if 1 ≤ k then swapR L c a else L) (if 2 ≤ k then swapR Q c a else Q))) (fun v _ => 2 - (intOf v).toNat)
            case atStart => exact ⟨0, by omega, rfl, HS1⟩
            case round =>
              obtain ⟨k, hk2, rfl, HS2⟩ := hrel
              clear HS1
              have hk3 : k = 0 ∨ k = 1 ∨ k = 2 := by omega
              rcases hk3 with rfl | rfl | rfl
              · rw [if_neg (by omega), if_neg (by omega)] at HS2
                have s0 := blk_cell HS2.out.side.swaps 0
                go_wp2_with fail
                refine (HS2.out.swap HSL.out.len c a hlt han).mono ?_
                rintro e w5 ⟨rfl, hs5⟩
                have HS5 := Aside0.mk hs5
                clear hs5 HS2 s0
                go_wp2_with fail
                go_roundw
                case rel => exact ⟨1, by omega, by go_num, HS5⟩
                case measure => simp [intOf]
              · rw [if_pos (by omega), if_neg (by omega)] at HS2
                have s1 := blk_cell HS2.out.side.swaps 1
                go_wp2_with fail
                refine (HS2.out.symm.swap HSQ.out.len c a hlt han).mono ?_
                rintro e w5 ⟨rfl, hs5⟩
                have HS5 := Aside0.mk hs5.symm
                clear hs5 HS2 s1
                go_wp2_with fail
                go_roundw
                case rel => exact ⟨2, by omega, by go_num, HS5⟩
                case measure => simp [intOf]
              · rw [if_pos (by omega), if_pos (by omega)] at HS2
                have hL1 : Sq n (swapR L c a) := sq_swap HSL.out hlt han
                have hQ1 : Sq n (swapR Q c a) := sq_swap HSQ.out hlt han
                have hat : at2 (swapR L c a) c c ≠ 0 := by
                  rw [at2_swap HSL.out hlt han]
                  by_cases e : c = a
                  · rw [if_pos e]
                    have := HPZ.out
                    rw [← e] at this
                    exact this
                  · rw [if_neg e, if_pos rfl]
                    exact HPZ.out
                obtain ⟨L1, hL1e⟩ : ∃ L1, L1 = swapR L c a := ⟨_, rfl⟩
                obtain ⟨Q1, hQ1e⟩ : ∃ Q1, Q1 = swapR Q c a := ⟨_, rfl⟩
                rw [← hL1e] at HS2 hL1 hat
                rw [← hQ1e] at HS2 hQ1
                obtain ⟨q, k1, k2⟩ := HS2.out.peek hL1 c c hlt hlt
                obtain ⟨q1, q2⟩ := q
                have HI : Aside0 (∀ W : World, W.heap = wr.heap → Calls Tryd.prog 81 #[.pointer (some ⟨f, 0, none⟩), .int .u8 ((at2 L1 c c).toNat : Int)] W fun e w' => e = .returned (.tuple #[.int .u8 ((ginv (at2 L1 c c)).toNat : Int), .int .i64 0]) ∧ Drawn0 W w') := ⟨fun W hW => inv_walk (by have := HS2.out.field; unfold FieldAt at this ⊢; rw [hW]; exact this) _ hat⟩
                have HX : Aside0 (gjBy c L = ginv (at2 L1 c c) ∧ gjL c L = L1 ∧ swapR Q c (pivot L c) = Q1) := ⟨by
                  have e1 : gjL c L = L1 := by unfold gjL; rw [HPE.out, hL1e]
                  refine ⟨by unfold gjBy; rw [e1], e1, by rw [HPE.out, hQ1e]⟩⟩
                clear hL1e hQ1e hat
                have HL1 := Aside0.mk hL1
                have HQ1 := Aside0.mk hQ1
                clear hL1 hQ1
                obtain ⟨y, hy⟩ : ∃ y, ginv (at2 L1 c c) = y := ⟨_, rfl⟩
                rw [hy] at HX HI
                obtain ⟨yo, hyo⟩ : ∃ yo, (at2 L1 c c).toNat = yo := ⟨_, rfl⟩
                have hyob : yo < 256 := by rw [← hyo]; exact b_lt _
                rw [hyo] at k2 HI
                have hyb := b_lt y
                clear hy hyo
                go_wp2_with fail
                refine (HI.out _ (by rfl)).mono ?_
                rintro e w6 ⟨rfl, ⟨nd, rfl⟩⟩
                have HS6 := Aside0.mk (HS2.out.heap (pw_below_drewN (Below.refl _ _) nd))
                clear HS2 HI k1 k2
                go_wp2_with fail
                refine (HS6.out.scale HL1.out hn2 c hlt y).mono ?_
                rintro e w7 ⟨rfl, hs7⟩
                have HS7 := Aside0.mk hs7
                clear hs7 HS6
                go_wp2_with fail
                refine (HS7.out.symm.scale HQ1.out hn2 c hlt y).mono ?_
                rintro e w8 ⟨rfl, hs8⟩
                have HS8 := Aside0.mk hs8.symm
                have hL2 : Sq n (gjS c y L1) := sq_scale HL1.out hlt y
                have hQ2 : Sq n (gjS c y Q1) := sq_scale HQ1.out hlt y
                have HST : Aside0 (clearC c (gjS c y L1) (gjS c y L1) = stepL c L ∧ clearC c (gjS c y L1) (gjS c y Q1) = stepR c L Q) := ⟨by
                  unfold stepL stepR
                  rw [HX.out.2.2, HX.out.1, HX.out.2.1]
                  obtain ⟨h1, h2, h3⟩ := HX.out
                  exact ⟨rfl, rfl⟩⟩
                obtain ⟨L2, hL2e⟩ : ∃ L2, gjS c y L1 = L2 := ⟨_, rfl⟩
                obtain ⟨Q2, hQ2e⟩ : ∃ Q2, gjS c y Q1 = Q2 := ⟨_, rfl⟩
                rw [hL2e] at HS8 hL2 HST
                rw [hQ2e] at HS8 hQ2 HST
                have HL2 := Aside0.mk hL2
                have HQ2 := Aside0.mk hQ2
                have HS9 : Aside0 (State w (w.heap.size + 1) gs #[.func (.func 88) #[.slice (some ⟨gl, 0, none⟩) n cl] #[], .func (.func 88) #[.slice (some ⟨gr, 0, none⟩) n cr] #[]] f n (gl, cl) (gr, cr) w8 (clearP c L2 L2 0) (clearP c L2 Q2 0)) := ⟨by rw [clearP_zero, clearP_zero]; exact HS8.out⟩
                clear hs8 HS7 HS8 hL2e hQ2e hL2 hQ2 HL1 HQ1 HX
                go_wp2_with fail
                go_loopw [100] (fun v W => ∃ i : Nat, i ≤ n ∧ v = .int .i64 (i : Int) ∧ Aside0 (State w (w.heap.size + 1) gs #[.func (.func 88) #[.slice (some ⟨gl, 0, none⟩) n cl] #[], .func (.func 88) #[.slice (some ⟨gr, 0, none⟩) n cr] #[]] f n (gl, cl) (gr, cr) W (clearP c L2 L2 i) (clearP c L2 Q2 i))) (fun v _ => n - (intOf v).toNat)
                case atStart => exact ⟨0, by omega, rfl, HS9⟩
                case round =>
                  obtain ⟨i, hin, rfl, HS10⟩ := hrel
                  clear HS9
                  by_cases hil : i < n
                  · obtain ⟨q, k1, k2⟩ := clear_read HS10.out HL2.out hil hlt
                    obtain ⟨q1, q2⟩ := q
                    by_cases hic : i = c
                    · have HK : Aside0 (clearP c L2 L2 (i + 1) = clearP c L2 L2 i ∧ clearP c L2 Q2 (i + 1) = clearP c L2 Q2 i) := ⟨clear_keep HL2.out hil hlt (.inl hic), clear_keep HQ2.out hil hlt (.inl hic)⟩
                      have HS11 : Aside0 (State w (w.heap.size + 1) gs #[.func (.func 88) #[.slice (some ⟨gl, 0, none⟩) n cl] #[], .func (.func 88) #[.slice (some ⟨gr, 0, none⟩) n cr] #[]] f n (gl, cl) (gr, cr) wr (clearP c L2 L2 (i + 1)) (clearP c L2 Q2 (i + 1))) := ⟨by rw [HK.out.1, HK.out.2]; exact HS10.out⟩
                      have hbc : ((i : Int) != (c : Int)) = false := by simp [hic]
                      have hic2 : (i : Int) = (c : Int) := by omega
                      have hyb2 := b_lt (at2 L2 i c)
                      generalize (at2 L2 i c).toNat = z at *
                      subst hic
                      go_wp2_with fail
                      go_roundw
                      case rel => exact ⟨i + 1, by omega, by go_num, HS11⟩
                      case measure => simp [intOf]; omega
                    · by_cases hz : at2 L2 i c = 0
                      · have HK : Aside0 (clearP c L2 L2 (i + 1) = clearP c L2 L2 i ∧ clearP c L2 Q2 (i + 1) = clearP c L2 Q2 i) := ⟨clear_keep HL2.out hil hlt (.inr hz), clear_keep HQ2.out hil hlt (.inr hz)⟩
                        have HS11 : Aside0 (State w (w.heap.size + 1) gs #[.func (.func 88) #[.slice (some ⟨gl, 0, none⟩) n cl] #[], .func (.func 88) #[.slice (some ⟨gr, 0, none⟩) n cr] #[]] f n (gl, cl) (gr, cr) wr (clearP c L2 L2 (i + 1)) (clearP c L2 Q2 (i + 1))) := ⟨by rw [HK.out.1, HK.out.2]; exact HS10.out⟩
                        rw [hz] at k2
                        have k3 : ((0 : UInt8).toNat : Int) = 0 := rfl
                        rw [k3] at k2
                        clear hz
                        go_wp2_with fail
                        go_roundw
                        case rel => exact ⟨i + 1, by omega, by go_num, HS11⟩
                        case measure => simp [intOf]; omega
                      · have HA1 : Aside0 (∀ W R', State w (w.heap.size + 1) gs #[.func (.func 88) #[.slice (some ⟨gl, 0, none⟩) n cl] #[], .func (.func 88) #[.slice (some ⟨gr, 0, none⟩) n cr] #[]] f n (gl, cl) (gr, cr) W (clearP c L2 L2 i) R' → Calls Tryd.prog 90 #[.slice (some ⟨gl, 0, none⟩) n cl, .pointer (some ⟨f, 0, none⟩), .int .i64 (i : Int), .int .u8 ((at2 L2 i c).toNat : Int), .int .i64 (c : Int)] W fun e W' => e = .returned (.tuple #[]) ∧ State w (w.heap.size + 1) gs #[.func (.func 88) #[.slice (some ⟨gl, 0, none⟩) n cl] #[], .func (.func 88) #[.slice (some ⟨gr, 0, none⟩) n cr] #[]] f n (gl, cl) (gr, cr) W' (clearP c L2 L2 (i + 1)) R') := ⟨fun W R' h => h.clear HL2.out hn2 hil hlt hic⟩
                        have HA2 : Aside0 (∀ W L', State w (w.heap.size + 1) gs #[.func (.func 88) #[.slice (some ⟨gl, 0, none⟩) n cl] #[], .func (.func 88) #[.slice (some ⟨gr, 0, none⟩) n cr] #[]] f n (gl, cl) (gr, cr) W L' (clearP c L2 Q2 i) → Calls Tryd.prog 90 #[.slice (some ⟨gr, 0, none⟩) n cr, .pointer (some ⟨f, 0, none⟩), .int .i64 (i : Int), .int .u8 ((at2 L2 i c).toNat : Int), .int .i64 (c : Int)] W fun e W' => e = .returned (.tuple #[]) ∧ State w (w.heap.size + 1) gs #[.func (.func 88) #[.slice (some ⟨gl, 0, none⟩) n cl] #[], .func (.func 88) #[.slice (some ⟨gr, 0, none⟩) n cr] #[]] f n (gl, cl) (gr, cr) W' L' (clearP c L2 Q2 (i + 1))) := ⟨fun W L' h => (h.symm.clear HQ2.out hn2 hil hlt hic).mono fun e W' h2 => ⟨h2.1, h2.2.symm⟩⟩
                        have hz0 : ¬ (at2 L2 i c).toNat = 0 := fun e => hz (b_ext (e.trans rfl))
                        have hzb := b_lt (at2 L2 i c)
                        clear hz
                        generalize (at2 L2 i c).toNat = z at *
                        go_wp2_with fail
                        refine (HA1.out _ _ HS10.out).mono ?_
                        rintro e w9 ⟨rfl, hs9⟩
                        have HS11 := Aside0.mk hs9
                        clear hs9 HS10 k1 k2
                        go_wp2_with fail
                        refine (HA2.out _ _ HS11.out).mono ?_
                        rintro e w10 ⟨rfl, hs10⟩
                        have HS12 := Aside0.mk hs10
                        clear hs10 HS11
                        go_wp2_with fail
                        go_roundw
                        case rel => exact ⟨i + 1, by omega, by go_num, HS12⟩
                        case measure => simp [intOf]; omega
                        all_goals (rename_i hh; exfalso; first | omega | exact hz0 hh | (simp at hh; omega))
                  · have hie : i = n := by omega
                    rw [hie, clear_end HL2.out, clear_end HQ2.out, HST.out.1, HST.out.2] at HS10
                    have HJ2 : Aside0 (gj (n - (c + 1)) (c + 1) (stepL c L) (stepR c L Q) = some R ∧ Sq n (stepL c L) ∧ Sq n (stepR c L Q)) := ⟨HGJ.out, by rw [← HST.out.1]; exact sq_clear HL2.out hlt, by rw [← HST.out.2]; exact sq_clear HQ2.out hlt⟩
                    clear HST
                    go_wp2_with fail
                    go_roundw
                    case rel => exact ⟨c + 1, stepL c L, stepR c L Q, by omega, by go_num, HS10, HJ2⟩
                    case measure => simp [intOf]; omega
          · have hz := HPB.out a hca (by omega)
            rw [hz] at k2
            have k3 : ((0 : UInt8).toNat : Int) = 0 := rfl
            rw [k3] at k2
            go_wp2_with fail
            go_roundw
            case rel => exact ⟨a + 1, by omega, by omega, by go_num, HS1⟩
            case measure => simp [intOf]; omega
      · have hce : c = n := by omega
        have hQR : Q = R := by
          have := HJ.out.1
          rw [hce, Nat.sub_self] at this
          unfold gj at this
          injection this
        obtain ⟨ps2, qs2, ht2, hsd⟩ := HS.out
        have hQl := HJ.out.2.2.len
        have hrq : ∀ r, r ∈ Q → r.length = n := fun r hr => by
          obtain ⟨i, hi, rfl⟩ := List.getElem_of_mem hr
          have := HJ.out.2.2.rows i (by rw [← hQl]; exact hi)
          rwa [rowAt_lt hi] at this
        have hm := matrix_walk ht2.gr hrq (by omega) hn2 (by omega) (by omega)
        rw [hQl, hQR] at hm
        have HM := Aside0.mk hm
        have HRS := Aside0.mk hsd.res
        have HB := Aside0.mk hsd.bel
        clear hm hsd ht2 hrq HJ hQR HS
        go_wp2_with fail
        refine HM.out.mono ?_
        rintro e w6 ⟨rfl, hb6⟩
        have HB6 : Aside0 (Below w.heap.size w w6) := ⟨HB.out.trans (hb6.mono HB.out.size)⟩
        have HC1 := Aside0.mk (blk_below HRS.out hb6)
        have s0 := blk_cell HC1.out 0
        have s1 := blk_cell HC1.out 1
        have s2 := blk_cell HC1.out 2
        have f0 := blk_frozen HC1.out 0
        have f1 := blk_frozen HC1.out 1
        have f2 := blk_frozen HC1.out 2
        clear hb6 HB HRS
        unfold matV
        go_wp2
        refine bodyPost_ret (results_list (rs := [.cell 2 74, .tmp 3]) rfl (by simp) (Vals.cell (w.heap.size + 1) 74 _ (0, 0) _ rfl (blk_put (blk_put (blk_put HC1.out 0 _ rfl) 1 _ rfl) 2 _ rfl) Tryd.underlying74 rfl (by kernel_rfl) (Vals.tmp Vals.nil))) rfl ?_
        exact ⟨rfl, ((HB6.out.setCell (Nat.le_succ _) _).setCell (Nat.le_succ _) _).setCell (Nat.le_succ _) _⟩
end Go.Proofs.YtegmmefijihdeaaDoor.Grd
namespace Go.Proofs.YtegmmefijihdeaaDoor.Grd
open Go.RowKit Go.Proofs.YtegmmefijihdeaaDoorW.PrintWords Go.Proofs.YtegmmefijihdeaaDoorW.PrintLast Go.Proofs.YtegmmefijihdeaaDoorW.PrintMore Go.Proofs.YtegmmefijihdeaaDoor.Gf Go.Proofs.YtegmmefijihdeaaDoor.Rowb Go.Proofs.YtegmmefijihdeaaDoor.Fld
set_option linter.unusedVariables false
set_option linter.unusedSimpArgs false
def pickG (M : Grid) (rs : List Nat) : Grid := rs.map (Gf.rowAt M)
def pickP (ps : List (Nat × Nat)) (rs : List Nat) : List (Nat × Nat) := rs.map fun r => ps.getD r (0, 0)
theorem pickG_len (M : Grid) (rs : List Nat) : (pickG M rs).length = rs.length := by simp [pickG]
theorem pickG_rows {M : Grid} {c : Nat} (h : ∀ r, r ∈ M → r.length = c) (rs : List Nat) (hr : ∀ r, r ∈ rs → r < M.length) : ∀ r, r ∈ pickG M rs → r.length = c := fun r hm => by
  obtain ⟨x, hx, rfl⟩ := List.mem_map.1 hm
  rw [rowAt_lt (hr x hx)]
  exact h _ (List.getElem_mem _)
theorem pickG_snoc (M : Grid) (rs : List Nat) (r : Nat) : pickG M (rs ++ [r]) = pickG M rs ++ [Gf.rowAt M r] := by simp [pickG]
theorem pickP_snoc (ps : List (Nat × Nat)) (rs : List Nat) (r : Nat) : pickP ps (rs ++ [r]) = pickP ps rs ++ [ps.getD r (0, 0)] := by simp [pickP]
/-- The rows picked so far (v), and those of which they are picked. -/
structure PickAt (w : World) (b2 : Nat) (vf : Value) (psf : List (Nat × Nat)) (M : Grid) (v : Value) (rs : List Nat) (W : World) : Prop where
  src : GridAt W w.heap.size vf psf M
  out : GridAt W w.heap.size v (pickP psf rs) (pickG M rs)
  ne : ∀ g, vf.ownBlock = some g → v.ownBlock ≠ some g
  res : W.heap[b2]? = some (.cells #[.int .i64 0, .int .i64 0, .string ⟨#[]⟩] 74 (0, 0))
  bel : Below w.heap.size w W
theorem getD_lt {α : Type} (l : List α) (i : Nat) (d : α) (h : i < l.length) : l.getD i d = l[i] := by
  rw [List.getD_eq_getElem?_getD, List.getElem?_eq_getElem h]
  rfl
theorem pick_new {psf : List (Nat × Nat)} (hn : (psf.map (·.1)).Nodup) {rs : List Nat} {r : Nat} (hr : ∀ x, x ∈ rs → x < psf.length) (hlt : r < psf.length) (hnew : r ∉ rs) : ∀ p : Nat × Nat, p ∈ pickP psf rs → p.1 ≠ (psf.getD r (0, 0)).1 := fun p hp e => by
  obtain ⟨x, hx, rfl⟩ := List.mem_map.1 hp
  have hxl := hr x hx
  rw [getD_lt _ _ _ hxl, getD_lt _ _ _ hlt] at e
  have h1 : (psf.map (·.1))[x]'(by simpa using hxl) = (psf.map (·.1))[r]'(by simpa using hlt) := by simpa using e
  have := (List.getElem_inj hn).1 h1
  subst this
  exact hnew hx
theorem GridAt.apart {w w' : World} {base : Nat} {v : Value} {ps : List (Nat × Nat)} {L : Grid} {u : Value} (h : GridAt w base v ps L) {xs : List Value} {n : Nat} (hu : w.ownsRow base 60 1 u n xs) (hg : w.grownBy w' u.ownBlock) (hv : ∀ g, v.ownBlock = some g → u.ownBlock ≠ some g) : GridAt w' base v ps L := by
  cases hb : u.ownBlock with
  | none =>
    rw [hb] at hg
    exact ⟨own_other h.outer hg (by
      cases hq : v.ownBlock with
      | none => exact .inl rfl
      | some q => exact .inr (by simp)), h.len, fun i p l h1 h2 => ⟨(h.row i p l h1 h2).1, (h.row i p l h1 h2).2.1, (h.row i p l h1 h2).2.2.grown hg (by simp)⟩, h.nodup⟩
  | some b =>
    rw [hb] at hg
    refine h.grown hg (fun e => hv b e hb) (fun p hp e => ?_)
    obtain ⟨l, hrow, _⟩ := h.rowOf hp
    exact row_ne_own hrow hu (by rw [hb, e])
theorem PickAt.start {w W : World} {b2 : Nat} {vf v : Value} {psf : List (Nat × Nat)} {M : Grid} (h : GridAt W w.heap.size vf psf M) (hv : W.ownsRow w.heap.size 60 1 v 0 []) (hne : ∀ g, vf.ownBlock = some g → v.ownBlock ≠ some g) (hr : W.heap[b2]? = some (.cells #[.int .i64 0, .int .i64 0, .string ⟨#[]⟩] 74 (0, 0))) (hb : Below w.heap.size w W) : PickAt w b2 vf psf M v [] W :=
  ⟨h, ⟨hv, rfl, fun i p l h1 _ => by simp [pickP] at h1, List.nodup_nil⟩, hne, hr, hb⟩
theorem PickAt.step {w W W' : World} {b2 : Nat} {vf v v1 : Value} {psf : List (Nat × Nat)} {M : Grid} {rs : List Nat} {r : Nat} (h : PickAt w b2 vf psf M v rs W) (hr : ∀ x, x ∈ rs → x < M.length) (hlt : r < M.length) (hnew : r ∉ rs)
    (ho : W'.ownsRow w.heap.size 60 1 v1 (rs.length + 1) (List.zipWith rowV (pickP psf rs) (pickG M rs) ++ [rowV (psf.getD r (0, 0)) (Gf.rowAt M r)])) (hb : Below w.heap.size w W') (hg : W.grownBy W' v.ownBlock) (hat : v1.ownBlock = v.ownBlock ∨ ∃ b, v1.ownBlock = some b ∧ W.heap.size ≤ b) :
    PickAt w b2 vf psf M v1 (rs ++ [r]) W' := by
  have hpl : r < psf.length := by rw [h.src.len]; exact hlt
  have hrow := h.src.row r _ _ (List.getElem?_eq_getElem hpl) (List.getElem?_eq_getElem hlt)
  have hsnoc := h.out.snoc hrow.1 hrow.2.1 hrow.2.2 (fun p hp => by
    have := pick_new h.src.nodup (fun x hx => by rw [h.src.len]; exact hr x hx) hpl hnew p hp
    rwa [getD_lt _ _ _ hpl] at this) (by rw [pickG_len, ← getD_lt psf r (0, 0) hpl, ← rowAt_lt hlt]; exact ho) hg
  refine ⟨h.src.apart h.out.outer hg h.ne, ?_, fun g hvf => ?_, blk_grown h.res hg (own_ne h.out.outer h.res (by decide)), hb⟩
  · rw [pickG_snoc, pickP_snoc, getD_lt _ _ _ hpl, rowAt_lt hlt]
    exact hsnoc
  · rcases hat with e | ⟨b, e, hge⟩
    · rw [e]; exact h.ne g hvf
    · rw [e]
      intro e2
      have e3 : b = g := by injection e2
      subst e3
      have := own_lt h.src.outer _ hvf
      omega
theorem PickAt.read {w W : World} {b2 : Nat} {vf v : Value} {psf : List (Nat × Nat)} {M : Grid} {rs : List Nat} (h : PickAt w b2 vf psf M v rs W) (g n cap : Nat) (hvf : vf = .slice (some ⟨g, 0, none⟩) n cap) (r : Nat) (hlt : r < M.length) : W.cell? ⟨g, r, none⟩ = some (rowV (psf.getD r (0, 0)) (Gf.rowAt M r)) := by
  obtain ⟨g', cap', cur, hv, _, _, _, hcell⟩ := h.src.form (by omega)
  rw [hvf] at hv
  injection hv with hv1 _ _
  injection hv1 with hv1
  injection hv1 with hv1
  subst hv1
  have := hcell r hlt
  rw [this, getD_lt _ _ _ (by rw [h.src.len]; exact hlt), rowAt_lt hlt]
theorem rd_cast (rs : List Nat) (i : Nat) (hi : i < rs.length) : rd (rs.map fun n : Nat => (n : Int)) (i : Int) = ((rs[i] : Nat) : Int) := by
  unfold rd
  rw [Int.toNat_natCast, getD_lt _ _ _ (by simpa using hi), List.getElem_map]
section
variable (w : World) (M : Grid) (c : Nat) (hr : ∀ r, r ∈ M → r.length = c) (h1 : 1 ≤ M.length) (h2 : M.length ≤ 255) (hc1 : 1 ≤ c) (hc : c ≤ 255) (rs : List Nat) (A1 : Option Addr) (c1 : Nat)
variable (hrd : Kd.C (Kd.int .i64) w A1 rs.length (rs.map fun n : Nat => (n : Int))) (hcap : rs.length ≤ c1) (hrs : ∀ r, r ∈ rs → r < M.length) (hn : rs.Nodup) (hl1 : 1 ≤ rs.length) (hl2 : rs.length ≤ 255)
include hr h1 h2 hc1 hc hrd hcap hrs hn hl1 hl2
set_option maxRecDepth 100000 in
set_option maxHeartbeats 4000000 in
theorem pick_walk : Calls Tryd.prog 60 #[matV M.length c M.flatten, .slice A1 rs.length c1] w fun e w' => e = .returned (.tuple #[matV rs.length c (pickG M rs).flatten, .int .i64 0]) ∧ Below w.heap.size w w' := by
  have HC : Aside0 (∀ W, Calls Tryd.prog 86 #[matV M.length c M.flatten] W fun e w' => e = .returned (.int .i64 0) ∧ Below W.heap.size W w') := ⟨fun W => check_walk W M.length c _ h1 h2 hc1 hc (flat_len M hr)⟩
  have HO : Aside0 (∀ W, Calls Tryd.prog 87 #[matV M.length c M.flatten] W (IsGrid M W)) := ⟨fun W => of_walk W M c hr h1 h2 hc⟩
  have HMX : Aside0 (∀ (W : World) (base : Nat) (v : Value) (ps : List (Nat × Nat)), GridAt W base v ps (pickG M rs) → Calls Tryd.prog 82 #[v] W fun e w' => e = .returned (matV rs.length c (pickG M rs).flatten) ∧ Below W.heap.size W w') := ⟨fun W base v ps hg => by
    have := matrix_walk (c := c) hg (pickG_rows hr rs hrs) (by omega) hc (by rw [pickG_len]; exact hl1) (by rw [pickG_len]; exact hl2)
    rwa [pickG_len] at this⟩
  have HRD : Aside0 (∀ W, Below w.heap.size w W → ∀ i (hi : i < rs.length), ∃ ad, A1 = some ad ∧ W.cell? (ad.add i) = some (.int .i64 ((rs[i] : Nat) : Int))) := ⟨fun W hb i hi => by
    have h := Kd.C_below (by simpa using hrd : Kd.C (Kd.int .i64) w A1 rs.length (rs.map fun n : Nat => (n : Int))) hb
    obtain ⟨ad, hA, hx⟩ := Kd.at_int h (i : Int) (by omega) (by omega)
    rw [rd_cast rs i hi, Int.toNat_natCast] at hx
    exact ⟨ad, hA, hx⟩⟩
  have HRS : Aside0 (∀ i (hi : i < rs.length), rs[i] < M.length) := ⟨fun i hi => hrs _ (List.getElem_mem hi)⟩
  have HTK : Aside0 (∀ i (hi : i < rs.length), (rs.take i ++ [rs[i]] = rs.take (i + 1)) ∧ rs[i] ∉ rs.take i ∧ (∀ x, x ∈ rs.take i → x < M.length) ∧ (rs.take i).length = i) := ⟨fun i hi => by
    refine ⟨(List.take_succ_eq_append_getElem hi).symm, fun hm => ?_, fun x hx => hrs x (List.mem_of_mem_take hx), by rw [List.length_take]; omega⟩
    obtain ⟨j, hj, e⟩ := List.getElem_of_mem hm
    rw [List.length_take] at hj
    rw [List.getElem_take] at e
    have := (List.getElem_inj hn).1 e
    omega⟩
  have HFU : Aside0 (rs.take rs.length = rs) := ⟨List.take_length⟩
  have HML : Aside0 (M.length ≤ 255) := ⟨h2⟩
  unfold matV at HC HO ⊢
  unfold matV at HMX
  obtain ⟨t, ht⟩ : ∃ t : ByteArray, t = ⟨M.flatten.toArray⟩ := ⟨_, rfl⟩
  rw [← ht] at HC HO ⊢
  have hl0 : decide ((255 : Int) < (rs.length : Int)) = false := by simp; omega
  have hl3 : ((rs.length : Int) == 0) = false := by simp; intro e; subst e; simp at hl1
  clear ht hr hrd hrs hn
  go_enter Tryd.func60, Tryd.ntmps60
  have hbx : (w.alloc (.cells #[.int .i64 (M.length : Int), .int .i64 (c : Int), .string t] 74)).heap[w.heap.size]? = some (.cells #[.int .i64 (M.length : Int), .int .i64 (c : Int), .string t] 74 (0, 0)) := blk_new _ _
  go_wp2_with fail
  refine (HC.out _).mono ?_
  rintro e w1 ⟨rfl, hb1⟩
  have hsz1 : w.heap.size + 2 ≤ w1.heap.size := by
    have := hb1.size
    simpa using this
  have X1 := Aside0.mk (blk_below (blk_alloc hbx (.cells #[.int .i64 0, .int .i64 0, .string ⟨#[]⟩] 74 (0, 0))) hb1)
  have R1 : Aside0 (w1.heap[w.heap.size + 1]? = some (.cells #[.int .i64 0, .int .i64 0, .string ⟨#[]⟩] 74 (0, 0))) := ⟨by
    have := blk_below (blk_new (w.alloc (.cells #[.int .i64 (M.length : Int), .int .i64 (c : Int), .string t] 74)) (.cells #[.int .i64 0, .int .i64 0, .string ⟨#[]⟩] 74 (0, 0))) hb1
    simpa using this⟩
  have B1 : Aside0 (Below w.heap.size w w1) := ⟨(((Below.refl _ _).alloc (Nat.le_refl _) _).alloc (by simp) _).trans (hb1.mono (by simp; omega))⟩
  clear hb1 hbx
  have c10 := blk_cell X1.out 0
  have c11 := blk_cell X1.out 1
  have c12 := blk_cell X1.out 2
  go_wp2
  go_loop [18] (fun v => ∃ i : Nat, i ≤ rs.length ∧ v = .int .i64 (i : Int)) (fun v => rs.length - (intOf v).toNat)
  case atStart => exact ⟨0, by omega, rfl⟩
  case round =>
    obtain ⟨i, hi, rfl⟩ := hrel
    by_cases hlt : i < rs.length
    · obtain ⟨ad, hA, hx⟩ := HRD.out _ B1.out i hlt
      subst hA
      have hxl := HRS.out i hlt
      generalize rs[i] = x at *
      have e1 : decide ((x : Int) < 0) = false := by simp
      have e2 : decide ((M.length : Int) ≤ (x : Int)) = false := by simp; omega
      go_wp2
      go_round
      case rel => exact ⟨i + 1, by omega, by go_num⟩
      case measure => simp [intOf]; omega
    · obtain rfl : i = rs.length := by omega
      have e1 : decide ((rs.length : Int) < (rs.length : Int)) = false := by simp
      go_wp2_with fail
      refine (HO.out _).mono ?_
      rintro e w2 ⟨vf, psf, rfl, hg2, hb2⟩
      obtain ⟨gf, cf, curf, hvf, hgf, hhf, hq1, hq2⟩ := hg2.form h1
      clear hq1 hq2
      have R2 := Aside0.mk (blk_below R1.out hb2)
      have B2 : Aside0 (Below w.heap.size w w2) := ⟨B1.out.trans (hb2.mono B1.out.size)⟩
      have G2 := Aside0.mk (hg2.lower B1.out.size)
      have V2 := Aside0.mk hvf
      have hgl := blk_lt hhf
      clear hg2 hb2 hhf hgf R1 B1 X1 c10 c11 c12
      subst hvf
      go_wp2_with fail
      have P0 : Aside0 (PickAt w (w.heap.size + 1) (.slice (some ⟨gf, 0, none⟩) M.length cf) psf M (.slice (some ⟨w2.heap.size, 0, none⟩) 0 0) [] (w2.alloc (.cells #[] 60))) := ⟨PickAt.start (G2.out.below (below_alloc (Below.refl _ _) _)) ⟨rfl, .inr ⟨w2.heap.size, 0, #[], rfl, B2.out.size, blk_new _ _, Nat.le_refl _, Nat.zero_le _, rfl, rfl⟩⟩ (fun g hg e => by
        have e1 : gf = g := by simpa [Value.ownBlock] using hg
        have e2 : w2.heap.size = g := by simpa [Value.ownBlock] using e
        omega) (blk_alloc R2.out _) (B2.out.alloc B2.out.size _)⟩
      clear G2 R2 B2 V2 hgl
      go_loopw [9, 47] (fun v i W => ∃ k : Nat, k ≤ rs.length ∧ i = .int .i64 (k : Int) ∧ Aside0 (PickAt w (w.heap.size + 1) (.slice (some ⟨gf, 0, none⟩) M.length cf) psf M v (rs.take k) W)) (fun _ i _ => rs.length - (intOf i).toNat)
      case atStart => exact ⟨0, by omega, rfl, P0⟩
      case round =>
        obtain ⟨k, hk, rfl, HP⟩ := hrel
        clear P0
        generalize u9 = v at *
        by_cases hlt2 : k < rs.length
        · obtain ⟨ad, hA, hx⟩ := HRD.out wr HP.out.bel k hlt2
          subst hA
          obtain ⟨hk1, hk2, hk3, hk4⟩ := HTK.out k hlt2
          have hxl := HRS.out k hlt2
          have HST := Aside0.mk (And.intro hk1 (And.intro hk2 hk3))
          have HLN := Aside0.mk hk4
          generalize rs[k] = x at *
          clear hk1 hk2 hk3 hk4
          have y0 := HP.out.read gf M.length cf rfl x hxl
          have HRV : Aside0 (rowV (psf.getD x (0, 0)) (Gf.rowAt M x) = rowV (psf.getD x (0, 0)) (Gf.rowAt M x)) := ⟨rfl⟩
          obtain ⟨rv, hrv⟩ : ∃ rv, rv = rowV (psf.getD x (0, 0)) (Gf.rowAt M x) := ⟨_, rfl⟩
          have HRW : Aside0 (∃ (a : Addr) (n c : Nat), rv = .slice (some a) n c) := ⟨⟨_, _, _, hrv⟩⟩
          rw [← hrv] at y0
          have HRE := Aside0.mk hrv
          obtain ⟨⟨a1, n1, c1', hrs⟩⟩ := HRW
          subst hrs
          clear hrv HRV
          have hlb : (rs.take k).length ≤ 255 := by rw [HLN.out]; omega
          have x1 : decide ((k : Int) < (rs.length : Int)) = true := decide_eq_true (by omega)
          have x2 : (x : Int) < (M.length : Int) := by omega
          go_wp2_with (first | ((with_reducible refine gate_builtin (b := .append) (xs := #[.tmp 51, .tmp 56]) rfl ?_); at_builtin; refine print_append_cells w.heap.size rfl (.tmp 51) (.tmp 56) 108 60 (.slice none 0 0) 1 24 rfl Tryd.underlying108 info_row rfl (by decide) (by decide) v (pickG M (rs.take k)).length (List.zipWith rowV (pickP psf (rs.take k)) (pickG M (rs.take k))) [.slice (some a1) n1 c1'] rfl rfl rfl (by simp [Value.oneCell']) HP.out.out.outer HP.out.bel HP.out.bel.size (by rw [pickG_len]; omega) ?_; intro v1 w5 ho5 hb5 hg5 hat5; have HP5 := Aside0.mk (HP.out.step HST.out.2.2 hxl HST.out.2.1 (by rw [pickG_len] at ho5; rw [← HRE.out]; exact ho5) hb5 hg5 hat5); clear ho5 hb5 hg5 hat5))
          go_roundw
          case rel => exact ⟨k + 1, by omega, by go_num, ⟨by rw [← HST.out.1]; exact HP5.out⟩⟩
          case measure => simp [intOf]; omega
        · obtain rfl : k = rs.length := by omega
          rw [HFU.out] at HP
          have HM := Aside0.mk (HMX.out _ _ _ _ HP.out.out)
          have x1 : decide ((rs.length : Int) < (rs.length : Int)) = false := by simp
          go_wp2_with fail
          refine HM.out.mono ?_
          rintro e w6 ⟨rfl, hb6⟩
          have HB6 : Aside0 (Below w.heap.size w w6) := ⟨HP.out.bel.trans (hb6.mono HP.out.bel.size)⟩
          have HC1 := Aside0.mk (blk_below HP.out.res hb6)
          have s0 := blk_cell HC1.out 0
          have s1 := blk_cell HC1.out 1
          have s2 := blk_cell HC1.out 2
          have f0 := blk_frozen HC1.out 0
          have f1 := blk_frozen HC1.out 1
          have f2 := blk_frozen HC1.out 2
          clear hb6
          go_wp2
          refine bodyPost_ret (results_list (rs := [.cell 4 74, .tmp 5]) rfl (by simp) (Vals.cell (w.heap.size + 1) 74 _ (0, 0) _ rfl (blk_put (blk_put (blk_put HC1.out 0 _ rfl) 1 _ rfl) 2 _ rfl) Tryd.underlying74 rfl (by kernel_rfl) (Vals.tmp Vals.nil))) rfl ?_
          exact ⟨rfl, ((HB6.out.setCell (Nat.le_succ _) _).setCell (Nat.le_succ _) _).setCell (Nat.le_succ _) _⟩
end
end Go.Proofs.YtegmmefijihdeaaDoor.Grd
namespace Go.Proofs.YtegmmefijihdeaaDoor.PS
open Go.RowKit Go.Proofs.YtegmmefijihdeaaDoorW.PrintWords Go.Proofs.YtegmmefijihdeaaDoorW.PrintLast Go.Proofs.YtegmmefijihdeaaDoorW.PrintMore Go.Proofs.YtegmmefijihdeaaDoor.Gf Go.Proofs.YtegmmefijihdeaaDoor.Grd Go.Proofs.YtegmmefijihdeaaDoor.Rowb Go.Proofs.YtegmmefijihdeaaDoor.Fld
set_option linter.unusedVariables false
set_option linter.unusedSimpArgs false
/-- The rows of a text of r rows of c bytes. -/
def gridOf (r c : Nat) (s : ByteArray) : Grid := (List.range r).map fun i => (s.data.toList.drop (i * c)).take c
theorem gridOf_len (r c : Nat) (s : ByteArray) : (gridOf r c s).length = r := by simp [gridOf]
theorem gridOf_flat_from (c : Nat) (l : List UInt8) : ∀ r, ((List.range r).map fun i => (l.drop (i * c)).take c).flatten = l.take (r * c)
  | 0 => by simp
  | r + 1 => by
    rw [List.range_succ, List.map_append, List.flatten_append, gridOf_flat_from c l r]
    simp only [List.map_cons, List.map_nil, List.flatten_cons, List.flatten_nil, List.append_nil]
    rw [Nat.succ_mul, List.take_add]
theorem gridOf_flat (r c : Nat) (s : ByteArray) (h : s.size = r * c) : (gridOf r c s).flatten = s.data.toList := by
  unfold gridOf
  rw [gridOf_flat_from, ← h, List.take_of_length_le (by rw [Array.length_toList]; exact Nat.le_refl _)]
theorem gridOf_rows (r c : Nat) (s : ByteArray) (h : s.size = r * c) : ∀ x, x ∈ gridOf r c s → x.length = c := fun x hx => by
  obtain ⟨i, hi, rfl⟩ := List.mem_map.1 hx
  have hi := List.mem_range.1 hi
  have hl : s.data.toList.length = r * c := by rw [Array.length_toList]; exact h
  have : (i + 1) * c ≤ r * c := Nat.mul_le_mul_right _ (by omega)
  rw [Nat.succ_mul] at this
  rw [List.length_take, List.length_drop]
  omega
theorem gridOf_txt (r c : Nat) (L : Grid) (hl : L.length = r) (hr : ∀ x, x ∈ L → x.length = c) : gridOf r c (txt L.flatten) = L := by
  unfold gridOf
  apply List.ext_getElem
  · simp [hl]
  · intro i h1 h2
    simp only [List.getElem_map, List.getElem_range]
    rw [txt_list]
    exact flat_row L i h2 hr
theorem txt_eq (s : ByteArray) : txt s.data.toList = s := by
  apply ByteArray.ext
  apply Array.ext'
  rfl
theorem gridOf_back (r c : Nat) (s : ByteArray) (h : s.size = r * c) : txt (gridOf r c s).flatten = s := by rw [gridOf_flat r c s h, txt_eq]
theorem matV_txt (r c : Nat) (l : List UInt8) : matV r c l = .agg #[.int .i64 (r : Int), .int .i64 (c : Int), .string (txt l)] := rfl
theorem matV_of (r c : Nat) (s : ByteArray) (h : s.size = r * c) : Value.agg #[.int .i64 (r : Int), .int .i64 (c : Int), .string s] = matV r c (gridOf r c s).flatten := by rw [matV_txt, gridOf_back r c s h]
theorem sq_of {n : Nat} {L : Grid} (hl : L.length = n) (hr : ∀ x, x ∈ L → x.length = n) : Sq n L := ⟨hl, fun i hi => by rw [rowAt_lt (by omega)]; exact hr _ (List.getElem_mem _)⟩
/-! The generator. -/
def matrix_Generator.f (a0 : Int) (a1 : Int) : Option (Int × Int × ByteArray × Int) := if codeB a0 a1 = true then some (a0 + a1, a0, txt (genG a0.toNat a1.toNat).flatten, 0) else none
theorem matrix_Generator.calls (a0 : Int) (a1 : Int) (r1 : Int) (r2 : Int) (r3 : ByteArray) (r4 : Int) (w : World) (h : matrix_Generator.f a0 a1 = some (r1, r2, r3, r4)) :
    Calls Tryd.prog 55 #[.int .i64 a0, .int .i64 a1] w fun e w' => e = .returned (.tuple #[.agg #[.int .i64 r1, .int .i64 r2, .string r3], .int .i64 r4]) ∧ Below w.heap.size w w' := by
  unfold matrix_Generator.f at h
  split at h
  · rename_i hc
    obtain ⟨K, M, rfl, rfl, h1, h2⟩ := codeB_nat hc
    simp only [Int.toNat_natCast, Option.some.injEq, Prod.mk.injEq] at h
    obtain ⟨rfl, rfl, rfl, rfl⟩ := h
    refine (gen_walk w K M h1 h2).mono fun e w' ⟨he, hb⟩ => ⟨he.trans ?_, hb⟩
    rw [matV_txt]
    push_cast
    rfl
  · cases h
/-! Picked rows. -/
def pickOk (r : Nat) (l : List Int) : Bool := l.all (fun x => decide (0 ≤ x ∧ x < (r : Int))) && decide l.Nodup && decide (1 ≤ l.length ∧ l.length ≤ 255)
def shapeB (r c : Int) (s : ByteArray) : Bool := decide (1 ≤ r ∧ r ≤ 255 ∧ 1 ≤ c ∧ c ≤ 255 ∧ s.size = r.toNat * c.toNat)
theorem shapeB_nat {r c : Int} {s : ByteArray} (h : shapeB r c s = true) : ∃ R C : Nat, r = (R : Int) ∧ c = (C : Int) ∧ 1 ≤ R ∧ R ≤ 255 ∧ 1 ≤ C ∧ C ≤ 255 ∧ s.size = R * C := by
  unfold shapeB at h
  have := of_decide_eq_true h
  exact ⟨r.toNat, c.toNat, by omega, by omega, by omega, by omega, by omega, by omega, this.2.2.2.2⟩
def matrix_Pick.f (a0_0 : Int) (a0_1 : Int) (a0_2 : ByteArray) (l1 : List Int) : Option (Int × Int × ByteArray × Int) :=
  if shapeB a0_0 a0_1 a0_2 = true ∧ pickOk a0_0.toNat l1 = true then some ((l1.length : Int), a0_1, txt (pickG (gridOf a0_0.toNat a0_1.toNat a0_2) (l1.map Int.toNat)).flatten, 0) else none
theorem matrix_Pick.calls (a0_0 : Int) (a0_1 : Int) (a0_2 : ByteArray) (A1 : Option Addr) (c1 : Nat) (l1 : List Int) (r1 : Int) (r2 : Int) (r3 : ByteArray) (r4 : Int) (w : World) (hr1 : Kd.C (Kd.int .i64) w A1 l1.length l1) (hc1 : l1.length ≤ c1) (h : matrix_Pick.f a0_0 a0_1 a0_2 l1 = some (r1, r2, r3, r4)) :
    Calls Tryd.prog 60 #[.agg #[.int .i64 a0_0, .int .i64 a0_1, .string a0_2], .slice A1 l1.length c1] w fun e w' => e = .returned (.tuple #[.agg #[.int .i64 r1, .int .i64 r2, .string r3], .int .i64 r4]) ∧ Below w.heap.size w w' := by
  unfold matrix_Pick.f at h
  split at h
  · rename_i hp
    obtain ⟨R, C, rfl, rfl, h1, h2, h3, h4, h5⟩ := shapeB_nat hp.1
    have hq := hp.2
    unfold pickOk at hq
    rw [Bool.and_eq_true, Bool.and_eq_true] at hq
    obtain ⟨⟨q1, q2⟩, q3⟩ := hq
    have q2 := of_decide_eq_true q2
    have q3 := of_decide_eq_true q3
    rw [Int.toNat_natCast] at q1
    have q1' : ∀ x, x ∈ l1 → 0 ≤ x ∧ x < (R : Int) := fun x hx => of_decide_eq_true (List.all_eq_true.1 q1 x hx)
    simp only [Int.toNat_natCast, Option.some.injEq, Prod.mk.injEq] at h
    obtain ⟨rfl, rfl, rfl, rfl⟩ := h
    have hback : (l1.map Int.toNat).map (fun n : Nat => (n : Int)) = l1 := by
      rw [List.map_map]
      refine (List.map_congr_left (fun x hx => ?_)).trans (List.map_id l1)
      have := q1' x hx
      show ((x.toNat : Nat) : Int) = x
      omega
    have hnd : (l1.map Int.toNat).Nodup := nodup_map_of (fun a ha b hb e => by
      have := q1' a ha
      have := q1' b hb
      omega) q2
    have := pick_walk w (gridOf R C a0_2) C (gridOf_rows R C a0_2 h5) (by rw [gridOf_len]; exact h1) (by rw [gridOf_len]; exact h2) h3 h4 (l1.map Int.toNat) A1 c1 (by rw [hback, List.length_map]; exact hr1) (by rw [List.length_map]; exact hc1) (fun r hr => by
      obtain ⟨x, hx, rfl⟩ := List.mem_map.1 hr
      have := q1' x hx
      rw [gridOf_len]
      omega) hnd (by rw [List.length_map]; exact q3.1) (by rw [List.length_map]; exact q3.2)
    rw [gridOf_len, List.length_map, ← matV_of R C a0_2 h5] at this
    exact this
  · cases h
/-! An inverse. -/
def invF (a0_0 : Int) (a0_1 : Int) (a0_2 : ByteArray) : Option (Int × Int × ByteArray × Int) :=
  if shapeB a0_0 a0_1 a0_2 = true ∧ a0_0 = a0_1 then (inverse (gridOf a0_0.toNat a0_0.toNat a0_2)).map fun R => (a0_0, a0_0, txt R.flatten, 0) else none
theorem invF_nat {a0_0 a0_1 : Int} {a0_2 : ByteArray} {r1 r2 r4 : Int} {r3 : ByteArray} (h : invF a0_0 a0_1 a0_2 = some (r1, r2, r3, r4)) :
    ∃ (n : Nat) (M R : Grid), a0_0 = (n : Int) ∧ a0_1 = (n : Int) ∧ a0_2 = txt M.flatten ∧ Sq n M ∧ 1 ≤ n ∧ n ≤ 255 ∧ inverse M = some R ∧ r1 = (n : Int) ∧ r2 = (n : Int) ∧ r3 = txt R.flatten ∧ r4 = 0 := by
  unfold invF at h
  split at h
  · rename_i hp
    obtain ⟨n, C, rfl, rfl, h1, h2, h3, h4, h5⟩ := shapeB_nat hp.1
    have e : C = n := by have := hp.2; omega
    subst e
    obtain ⟨R, hR, e⟩ := Option.map_eq_some_iff.1 h
    simp only [Int.toNat_natCast, Prod.mk.injEq] at e hR
    obtain ⟨rfl, rfl, rfl, rfl⟩ := e
    exact ⟨C, gridOf C C a0_2, R, rfl, rfl, (gridOf_back C C a0_2 h5).symm, sq_of (gridOf_len _ _ _) (gridOf_rows C C a0_2 h5), h1, h2, hR, rfl, rfl, rfl, rfl⟩
  · cases h
def matrix_Inverse.f (a0_0 : Int) (a0_1 : Int) (a0_2 : ByteArray) : Option (Int × Int × ByteArray × Int) := invF a0_0 a0_1 a0_2
theorem matrix_Inverse.calls (a0_0 : Int) (a0_1 : Int) (a0_2 : ByteArray) (r1 : Int) (r2 : Int) (r3 : ByteArray) (r4 : Int) (w : World) (h : matrix_Inverse.f a0_0 a0_1 a0_2 = some (r1, r2, r3, r4)) :
    Calls Tryd.prog 61 #[.agg #[.int .i64 a0_0, .int .i64 a0_1, .string a0_2]] w fun e w' => e = .returned (.tuple #[.agg #[.int .i64 r1, .int .i64 r2, .string r3], .int .i64 r4]) ∧ Below w.heap.size w w' := by
  obtain ⟨n, M, R, rfl, rfl, rfl, hM, h1, h2, hR, rfl, rfl, rfl, rfl⟩ := invF_nat h
  exact inverse_walk w n M R hM h1 h2 hR
end Go.Proofs.YtegmmefijihdeaaDoor.PS
namespace Go.Proofs.YtegmmefijihdeaaDoor.PS
open Go.RowKit Go.Proofs.YtegmmefijihdeaaDoorW.PrintWords Go.Proofs.YtegmmefijihdeaaDoorW.PrintLast Go.Proofs.YtegmmefijihdeaaDoorW.PrintMore Go.Proofs.YtegmmefijihdeaaDoor.Gf Go.Proofs.YtegmmefijihdeaaDoor.Fld Go.Proofs.YtegmmefijihdeaaDoor.Grd Go.Proofs.YtegmmefijihdeaaDoor.Rowb
set_option linter.unusedVariables false
set_option linter.unusedSimpArgs false
def accC (c : Nat → UInt8) (n : Nat) (data : List ByteArray) (q : Nat) : List UInt8 := (List.range n).map fun at_ => xs (List.range q) fun j => gmul (c j) (dAt data j at_)
def mixC (c : Nat → UInt8) (n : Nat) (data : List ByteArray) (q t : Nat) : List UInt8 := (List.range n).map fun at_ => xs (List.range (if at_ < t then q + 1 else q)) fun j => gmul (c j) (dAt data j at_)
theorem accC_gen (k r n : Nat) (data : List ByteArray) (q : Nat) : accC (genAt k r) n data q = accRow k r n data q := rfl
theorem accC_len (c : Nat → UInt8) (n : Nat) (data : List ByteArray) (q : Nat) : (accC c n data q).length = n := by simp [accC]
theorem mixC_len (c : Nat → UInt8) (n : Nat) (data : List ByteArray) (q t : Nat) : (mixC c n data q t).length = n := by simp [mixC]
theorem mixC_get (c : Nat → UInt8) (n : Nat) (data : List ByteArray) (q t i : Nat) (h : i < (mixC c n data q t).length) : (mixC c n data q t)[i] = xs (List.range (if i < t then q + 1 else q)) fun j => gmul (c j) (dAt data j i) := by simp [mixC]
theorem mixC_set (c : Nat → UInt8) (n : Nat) (data : List ByteArray) (q t : Nat) (h : t < n) : (mixC c n data q t).set t ((xs (List.range q) fun j => gmul (c j) (dAt data j t)) ^^^ gmul (c q) (dAt data q t)) = mixC c n data q (t + 1) := by
  apply List.ext_getElem
  · rw [List.length_set, mixC_len, mixC_len]
  · intro i h1 h2
    rw [List.getElem_set, mixC_get, mixC_get]
    by_cases e : t = i
    · subst e
      rw [if_pos rfl, if_pos (by omega), xs_succ]
    · rw [if_neg e]
      by_cases h3 : i < t
      · rw [if_pos h3, if_pos (by omega)]
      · rw [if_neg h3, if_neg (by omega)]
theorem mixC_zero (c : Nat → UInt8) (n : Nat) (data : List ByteArray) (q : Nat) : mixC c n data q 0 = accC c n data q := by simp [mixC, accC]
theorem mixC_full (c : Nat → UInt8) (n : Nat) (data : List ByteArray) (q : Nat) : mixC c n data q n = accC c n data (q + 1) := by
  unfold mixC accC
  refine List.map_congr_left (fun i hi => ?_)
  rw [if_pos (List.mem_range.1 hi)]
end Go.Proofs.YtegmmefijihdeaaDoor.PS
namespace Go.Proofs.YtegmmefijihdeaaDoor.PS
open Go.RowKit Go.Proofs.YtegmmefijihdeaaDoorW.PrintWords Go.Proofs.YtegmmefijihdeaaDoorW.PrintLast Go.Proofs.YtegmmefijihdeaaDoorW.PrintMore Go.Proofs.YtegmmefijihdeaaDoor.Gf Go.Proofs.YtegmmefijihdeaaDoor.Grd Go.Proofs.YtegmmefijihdeaaDoor.Rowb Go.Proofs.YtegmmefijihdeaaDoor.Fld
open Go.Lib (byteCells byteCells_length)
set_option linter.unusedVariables false
set_option linter.unusedSimpArgs false
/-- Shards behind i rounds. -/
def undP (c : Nat → Nat → UInt8) (R C n : Nat) (data : List ByteArray) (i : Nat) : List ByteArray := (List.range R).map fun r => if r < i then txt (accC (c r) n data C) else ⟨#[]⟩
def undL (c : Nat → Nat → UInt8) (R C n : Nat) (data : List ByteArray) : List ByteArray := (List.range R).map fun r => txt (accC (c r) n data C)
theorem undP_len (c : Nat → Nat → UInt8) (R C n : Nat) (data : List ByteArray) (i : Nat) : (undP c R C n data i).length = R := by simp [undP]
theorem undP_zero (c : Nat → Nat → UInt8) (R C n : Nat) (data : List ByteArray) : undP c R C n data 0 = List.replicate R ⟨#[]⟩ := by
  unfold undP
  apply List.ext_getElem
  · simp
  · intro j h1 h2
    simp
theorem undP_full (c : Nat → Nat → UInt8) (R C n : Nat) (data : List ByteArray) : undP c R C n data R = undL c R C n data := by
  unfold undP undL
  refine List.map_congr_left (fun j hj => ?_)
  rw [if_pos (List.mem_range.1 hj)]
theorem undP_set (c : Nat → Nat → UInt8) (R C n : Nat) (data : List ByteArray) (i : Nat) (h : i < R) : (undP c R C n data i).set i (txt (accC (c i) n data C)) = undP c R C n data (i + 1) := by
  unfold undP
  apply List.ext_getElem
  · simp
  · intro j h1 h2
    rw [List.getElem_set]
    simp only [List.getElem_map, List.getElem_range]
    by_cases e : i = j
    · subst e
      rw [if_pos rfl, if_pos (by omega)]
    · rw [if_neg e]
      by_cases h3 : j < i
      · rw [if_pos h3, if_pos (by omega)]
      · rw [if_neg h3, if_neg (by omega)]
/-- The matrix's entries. -/
def coef (s : ByteArray) (C r j : Nat) : UInt8 := s.data.toList.getD (r * C + j) 0
theorem accC_z (c : Nat → UInt8) (n : Nat) (data : List ByteArray) : accC c n data 0 = zeros n := by
  unfold accC zeros
  apply List.ext_getElem
  · simp
  · intro i h1 h2
    simp [xs]
theorem blk_row_ne {w : World} {g p : Nat} {l : List UInt8} {cs : Array Value} {t : TypeId} (h : RowB w p l) (hg : w.heap[g]? = some (.cells cs t (0, 0))) (ht : 5 ≠ t) : g ≠ p := by
  intro e
  subst e
  unfold RowB at h
  rw [h] at hg
  injection hg with hg
  injection hg with _ hg _
  exact ht hg
def UndIs (l : List ByteArray) (w : World) (e : Ending) (w' : World) : Prop := ∃ v0_ : Value, e = .returned v0_ ∧ Kd.R Kd.string 9 w' w.heap.size (fun _ => True) v0_ l ∧ Below w.heap.size w w'
section
variable (R C : Nat) (hR1 : 1 ≤ R) (hR : R ≤ 255) (hC1 : 1 ≤ C) (hC : C ≤ 255) (S : ByteArray) (hS : S.size = R * C) (A1 : Option Addr) (c1 : Nat) (data : List ByteArray) (w : World)
variable (hrd : Kd.C Kd.string w A1 data.length data) (hcap : data.length ≤ c1) (hl : data.length = C) (he : evenB data = true) (hn : (rdOf ByteArray.empty data 0).size ≤ 2052)
include hR1 hR hC1 hC hS hrd hcap hl he hn
set_option maxRecDepth 100000 in
set_option maxHeartbeats 4000000 in
theorem und_walk : Calls Tryd.prog 62 #[.agg #[.int .i64 (R : Int), .int .i64 (C : Int), .string S], .slice A1 data.length c1] w (UndIs (undL (coef S C) R C (rdOf ByteArray.empty data 0).size data) w) := by
  have HE0 := Aside0.mk he
  have HS0 : Aside0 (∃ s0, rdOf ByteArray.empty data 0 = s0) := ⟨_, rfl⟩
  obtain ⟨⟨s0, hs0⟩⟩ := HS0
  have HS0 := Aside0.mk hs0
  rw [hs0] at hn ⊢
  have HR := Aside0.mk (And.intro hrd hcap)
  have HX0 : Aside0 (∃ ad, A1 = some ad ∧ ∀ W, Below w.heap.size w W → W.cell? ad = some (.string s0)) := ⟨by
    obtain ⟨ad, hA, hx0⟩ := Kd.at_string hrd 0 (by omega) (by omega)
    rw [show ((0 : Int)).toNat = 0 from rfl, Addr.add_zero', hs0] at hx0
    exact ⟨ad, hA, fun W hb => pw_cell_below hb hx0⟩⟩
  obtain ⟨⟨ad, hA, hx0⟩⟩ := HX0
  subst hA
  have HX0 := Aside0.mk hx0
  have HL := Aside0.mk hl
  have HN : Aside0 (∀ W, Calls Tryd.prog 56 #[] W (Made W)) := ⟨fun W => new_walk W⟩
  have HCS : Aside0 (∀ r j, r < R → j < C → ∀ h : r * C + j < S.size, S[r * C + j] = coef S C r j) := ⟨fun r j hr hj h => by
    unfold coef
    rw [List.getD_eq_getElem?_getD, List.getElem?_eq_getElem (by rw [Array.length_toList]; exact h)]
    rfl⟩
  have HSS := Aside0.mk hS
  have hmk := run_make_strs R (by omega)
  have HU0 := Aside0.mk (undP_zero (coef S C) R C s0.size data)
  have HUF := Aside0.mk (undP_full (coef S C) R C s0.size data)
  have HUL := Aside0.mk (undP_len (coef S C) R C s0.size data)
  have HUS := Aside0.mk (fun i hi => undP_set (coef S C) R C s0.size data i hi)
  generalize coef S C = cf at *
  generalize undL cf R C s0.size data = fin at *
  clear hrd hcap hx0 he hs0 hS
  go_enter Tryd.func62, Tryd.ntmps62
  have hbx : (w.alloc (.cells #[.int .i64 (R : Int), .int .i64 (C : Int), .string S] 74)).heap[w.heap.size]? = some (.cells #[.int .i64 (R : Int), .int .i64 (C : Int), .string S] 74 (0, 0)) := blk_new _ _
  have hB0 : Below w.heap.size w (w.alloc (.cells #[.int .i64 (R : Int), .int .i64 (C : Int), .string S] 74)) := (Below.refl _ _).alloc (Nat.le_refl _) _
  go_wp2_with fail
  refine (HN.out _).mono ?_
  rintro e w1 ⟨rfl, hf1, hb1⟩
  have X1 := Aside0.mk (blk_below hbx hb1)
  have B1 : Aside0 (Below w.heap.size w w1) := ⟨hB0.trans (hb1.mono (by simp))⟩
  have F1 := Aside0.mk hf1
  generalize (w.alloc (.cells #[.int .i64 (R : Int), .int .i64 (C : Int), .string S] 74)).heap.size = p at *
  clear hb1 hf1 hbx hB0
  have c10 := blk_cell X1.out 0
  obtain ⟨W2, hW2⟩ : ∃ W2, W2 = w1.alloc (.cells (strRow (List.replicate R ⟨#[]⟩)) 9) := ⟨_, rfl⟩
  obtain ⟨go_, hgo⟩ : ∃ g, w1.heap.size = g := ⟨_, rfl⟩
  have hmk1 : (Instr.makeSlice 25 (.int .i64 (R : Int)) (.int .i64 (R : Int))).run Tryd.prog w1 = .ok (.slice (some ⟨go_, 0, none⟩) R R) W2 := by rw [hmk, hW2, hgo]
  have X2 : Aside0 (W2.heap[w.heap.size]? = some (.cells #[.int .i64 (R : Int), .int .i64 (C : Int), .string S] 74 (0, 0))) := ⟨by rw [hW2]; exact blk_alloc X1.out _⟩
  have B2 : Aside0 (Below w.heap.size w W2) := ⟨by rw [hW2]; exact B1.out.alloc B1.out.size _⟩
  have F2 : Aside0 (FieldAt W2 p) := ⟨by rw [hW2]; exact blk_alloc F1.out _⟩
  have O2 : Aside0 (W2.heap[go_]? = some (.cells (strRow (undP cf R C s0.size data 0)) 9 (0, 0))) := ⟨by rw [hW2, HU0.out, ← hgo]; exact blk_new _ _⟩
  have hgo2 : w.heap.size ≤ go_ := by rw [← hgo]; exact B1.out.size
  clear hW2 hgo hmk X1 B1 F1
  go_wp2
  have hmb := run_make_bytes s0.size (by omega)
  go_loopw [19] (fun v W => ∃ i : Nat, i ≤ R ∧ v = .int .i64 (i : Int) ∧ Aside0 (W.heap[go_]? = some (.cells (strRow (undP cf R C s0.size data i)) 9 (0, 0))) ∧ Aside0 (Below w.heap.size w W) ∧ Aside0 (FieldAt W p) ∧ Aside0 (W.heap[w.heap.size]? = some (.cells #[.int .i64 (R : Int), .int .i64 (C : Int), .string S] 74 (0, 0)))) (fun v _ => R - (intOf v).toNat)
  case atStart => exact ⟨0, by omega, rfl, O2, B2, F2, X2⟩
  case round =>
    obtain ⟨i, hiR, rfl, HO, HB, HF, HGB⟩ := hrel
    clear O2 B2 F2 X2 c10 hmk1
    generalize wr = wo at *
    by_cases hlt : i < R
    · obtain ⟨W1, hW1⟩ : ∃ W1, W1 = wo.alloc (.cells (byteCells (zeros s0.size)).toArray 5) := ⟨_, rfl⟩
      obtain ⟨b, hbd⟩ : ∃ b, wo.heap.size = b := ⟨_, rfl⟩
      have hmk1 : (Instr.makeSlice 60 (.int .i64 (s0.size : Int)) (.int .i64 (s0.size : Int))).run Tryd.prog wo = .ok (.slice (some ⟨b, 0, none⟩) s0.size s0.size) W1 := by rw [hmb, hW1, hbd]
      have HN1 : Aside0 (RowB W1 b (accC (cf i) s0.size data 0)) := ⟨by rw [accC_z, hW1, ← hbd]; exact blk_new _ _⟩
      have HW1 : Aside0 (Below wo.heap.size wo W1) := ⟨by rw [hW1]; exact below_alloc (Below.refl _ _) _⟩
      have HBD := Aside0.mk hbd
      have c0 := HX0.out wo HB.out
      have i0 : (0 : Int) < (data.length : Int) := by omega
      have i1 : 0 < data.length := by omega
      clear hW1 hmb hbd
      go_wp2
      go_loopw [29] (fun j W => ∃ q : Nat, q ≤ C ∧ j = .int .i64 (q : Int) ∧ Aside0 (RowB W b (accC (cf i) s0.size data q)) ∧ Aside0 (Below wo.heap.size wo W)) (fun j _ => C - (intOf j).toNat)
      case atStart => exact ⟨0, by omega, rfl, HN1, HW1⟩
      case round =>
        obtain ⟨q, hq, rfl, HP, HW⟩ := hrel
        generalize wr = w4 at *
        by_cases hlq : q < C
        · have hB4 : Below w.heap.size w w4 := HB.out.trans (HW.out.mono HB.out.size)
          obtain ⟨sq, hq0, hsz, hdt⟩ : ∃ sq : ByteArray, w4.cell? (ad.add q) = some (.string sq) ∧ sq.size = s0.size ∧ Aside0 (∀ t (ht : t < sq.size), dAt data q t = sq[t]) := by
            have hqd : q < data.length := by have := HL.out; omega
            obtain ⟨ad', e', hq0⟩ := Kd.at_string (Kd.C_below HR.out.1 hB4) (q : Int) (by omega) (by omega)
            obtain rfl : ad = ad' := by injection e'
            rw [rdOf_nat data q hqd, Int.toNat_natCast] at hq0
            refine ⟨data[q], hq0, ?_, ⟨fun t ht => dAt_get data q t hqd ht⟩⟩
            have := even_of HE0.out _ (List.getElem_mem hqd)
            rw [HS0.out] at this
            exact this
          have g1 := (blk_cell (blk_below HGB.out HW.out) 1)
          have g2 := (blk_cell (blk_below HGB.out HW.out) 2)
          obtain ⟨z, hz⟩ : ∃ z, i * C = z := ⟨_, rfl⟩
          have hzi : (i : Int) * (C : Int) = (z : Int) := by rw [← hz]; push_cast; rfl
          have hzb : z + q < S.size := by
            rw [HSS.out, ← hz]
            have : (i + 1) * C ≤ R * C := Nat.mul_le_mul_right _ (by omega)
            rw [Nat.succ_mul] at this
            omega
          have hSl : S.size ≤ 65025 := by
            rw [HSS.out]
            exact Nat.le_trans (Nat.mul_le_mul hR hC) (by decide)
          have hby : S[z + q] = cf i q := by
            have := HCS.out i q hlt hlq
            rw [hz] at this
            exact this hzb
          clear hz
          have HM0 : Aside0 (RowB w4 b (mixC (cf i) s0.size data q 0)) := ⟨by rw [mixC_zero]; exact HP.out⟩
          have HFI : Aside0 (∀ W, Below wo.heap.size wo W → FieldAt W p) := ⟨fun W hb => HF.out.below hb⟩
          have hbs : wo.heap.size ≤ b := by rw [HBD.out]; exact Nat.le_refl _
          clear HP hB4
          go_wp2
          go_loopw [45] (fun t W => ∃ u : Nat, u ≤ s0.size ∧ t = .int .i64 (u : Int) ∧ Aside0 (RowB W b (mixC (cf i) s0.size data q u)) ∧ Aside0 (Below wo.heap.size wo W)) (fun t _ => s0.size - (intOf t).toNat)
          case atStart => exact ⟨0, by omega, rfl, HM0, HW⟩
          case round =>
            obtain ⟨u, hu, rfl, HX, HY⟩ := hrel
            generalize wr = w5 at *
            by_cases hlu : u < s0.size
            · have huq : u < sq.size := by omega
              have r0 := HX.out.cell u (by rw [mixC_len]; exact hlu)
              rw [mixC_get, if_neg (Nat.lt_irrefl _)] at r0
              have f0 := HX.out.frozen u
              have HST : Aside0 (∀ W : World, W.heap = w5.heap → RowB (W.setCell ⟨b, u, none⟩ (.int .u8 ((((xs (List.range q) fun j => gmul (cf i j) (dAt data j u)) ^^^ gmul (cf i q) (dAt data q u)).toNat : Nat) : Int))) b (mixC (cf i) s0.size data q (u + 1))) := ⟨fun W hW => by
                have h0 : RowB W b (mixC (cf i) s0.size data q u) := by unfold RowB; rw [hW]; exact HX.out
                have := h0.put u ((xs (List.range q) fun j => gmul (cf i j) (dAt data j u)) ^^^ gmul (cf i q) (dAt data q u))
                rwa [mixC_set _ _ _ _ _ hlu] at this⟩
              rw [hdt.out u huq] at HST
              have HMU : Aside0 (∀ W : World, W.heap = w5.heap → Calls Tryd.prog 57 #[.pointer (some ⟨p, 0, none⟩), .int .u8 ((cf i q).toNat : Int), .int .u8 (sq[u].toNat : Int)] W fun e w' => e = .returned (.int .u8 ((gmul (cf i q) sq[u]).toNat : Int)) ∧ Drawn0 W w') := ⟨fun W hW => mul_walk (by unfold FieldAt; rw [hW]; exact HFI.out w5 HY.out) _ _⟩
              have hxr := xor_u8 (xs (List.range q) fun j => gmul (cf i j) (dAt data j u)).toNat (gmul (cf i q) sq[u]).toNat (b_lt _) (b_lt _)
              rw [← UInt8.toNat_xor] at hxr
              generalize ((xs (List.range q) fun j => gmul (cf i j) (dAt data j u)) ^^^ gmul (cf i q) sq[u]).toNat = res at *
              generalize (xs (List.range q) fun j => gmul (cf i j) (dAt data j u)).toNat = old at *
              generalize (gmul (cf i q) sq[u]).toNat = prod at *
              clear hby
              generalize (cf i q).toNat = gy at *
              go_wp2_with fail
              go_region_law (first | (go_simp; go_at_call 57; refine (HMU.out _ (by rfl)).mono ?_; rintro e w6 ⟨rfl, ⟨nd, rfl⟩⟩))
              all_goals go_wp2
              all_goals go_roundw
              all_goals first
                | (case rel => exact ⟨u + 1, by omega, by go_num, ⟨HST.out _ (by rfl)⟩, ⟨Below.setCell (by repeat (first | exact HY.out | apply pw_below_drewN | apply below_drew1)) hbs _⟩⟩)
                | skip
              all_goals (case measure => simp [intOf]; omega)
            · obtain rfl : u = s0.size := by omega
              rw [mixC_full] at HX
              clear hby
              go_wp2
              go_roundw
              case rel => exact ⟨q + 1, by omega, by go_num, HX, HY⟩
              case measure => simp [intOf]; omega
        · obtain rfl : q = C := by omega
          have hcv := HP.out.whole s0.size
          rw [accC_len] at hcv
          have HBW : Aside0 (Below w.heap.size w w4) := ⟨HB.out.trans (HW.out.mono HB.out.size)⟩
          have HOW := Aside0.mk (blk_below HO.out HW.out)
          have HFW := Aside0.mk (HF.out.below HW.out)
          have HGW := Aside0.mk (blk_below HGB.out HW.out)
          have hgi : i < (undP cf R q s0.size data i).length := by rw [HUL.out i]; exact hlt
          have k0 := (blk_cell HOW.out i).trans (strRow_at _ i hgi)
          have f0 := blk_frozen HOW.out i
          have HSET := Aside0.mk (blk_put HOW.out i (.string (txt (accC (cf i) s0.size data q))) (by rw [strRow_set, HUS.out i hlt]))
          have HTX : Aside0 ((⟨(accC (cf i) s0.size data q).toArray⟩ : ByteArray) = txt (accC (cf i) s0.size data q)) := ⟨rfl⟩
          rw [HTX.out] at hcv
          generalize txt (accC (cf i) s0.size data q) = tx at *
          have hnf : ¬ (w.heap.size = go_) := fun e => by
            have h1 := HGW.out
            rw [e, HOW.out] at h1
            injection h1 with h1
            injection h1 with _ h1 _
            cases h1
          have hnp : p ≠ go_ := fun e => by
            have h1 := HFW.out
            unfold FieldAt at h1
            rw [e, HOW.out] at h1
            injection h1 with h1
            injection h1 with _ h1 _
            cases h1
          clear HB HO HF HGB HW HP HN1 HW1
          go_wp2
          go_roundw
          case rel => exact ⟨i + 1, by omega, by go_num, HSET, ⟨HBW.out.setCell hgo2 _⟩, ⟨blk_far HFW.out hnp _⟩, ⟨blk_far HGW.out hnf _⟩⟩
          case measure => simp [intOf]; omega
    · obtain rfl : i = R := by omega
      have hfin := HO.out
      rw [HUF.out] at hfin
      have hfl : fin.length = i := by rw [← HUF.out, HUL.out]
      have hKR := own_strs hgo2 (by rw [hfl]; exact Nat.le_trans hR (by decide)) hfin
      rw [hfl] at hKR
      have HKR := Aside0.mk hKR
      clear hmb hKR hfin
      go_wp2
      go_ret
      exact ⟨_, rfl, HKR.out, HB.out⟩
end
def mend_under.f (a0_0 : Int) (a0_1 : Int) (a0_2 : ByteArray) (l1 : List ByteArray) : Option (List ByteArray) :=
  if 1 ≤ a0_0 ∧ a0_0 ≤ 255 ∧ 1 ≤ a0_1 ∧ a0_1 ≤ 255 ∧ a0_2.size = a0_0.toNat * a0_1.toNat ∧ l1.length = a0_1.toNat ∧ evenB l1 = true ∧ (rdOf ByteArray.empty l1 0).size ≤ 2052 then some (undL (coef a0_2 a0_1.toNat) a0_0.toNat a0_1.toNat (rdOf ByteArray.empty l1 0).size l1) else none
theorem mend_under.calls (a0_0 : Int) (a0_1 : Int) (a0_2 : ByteArray) (A1 : Option Addr) (c1 : Nat) (l1 : List ByteArray) (r : List ByteArray) (w : World) (hr1 : Kd.C Kd.string w A1 l1.length l1) (hc1 : l1.length ≤ c1) (h : mend_under.f a0_0 a0_1 a0_2 l1 = some r) :
    Calls Tryd.prog 62 #[.agg #[.int .i64 a0_0, .int .i64 a0_1, .string a0_2], .slice A1 l1.length c1] w fun e w' => ∃ v0_ : Value, e = .returned (v0_) ∧ Kd.R Kd.string 9 w' w.heap.size (fun _ => True) v0_ r ∧ Below w.heap.size w w' := by
  unfold mend_under.f at h
  split at h
  · rename_i hp
    obtain ⟨p1, p2, p3, p4, p5, p6, p7, p8⟩ := hp
    obtain ⟨R, rfl⟩ : ∃ R : Nat, a0_0 = (R : Int) := ⟨a0_0.toNat, by omega⟩
    obtain ⟨C, rfl⟩ : ∃ C : Nat, a0_1 = (C : Int) := ⟨a0_1.toNat, by omega⟩
    simp only [Int.toNat_natCast] at p5 p6 h
    have := und_walk R C (by omega) (by omega) (by omega) (by omega) a0_2 p5 A1 c1 l1 w hr1 hc1 p6 p7 p8
    rw [← Option.some.inj h]
    exact this
  · cases h
end Go.Proofs.YtegmmefijihdeaaDoor.PS
