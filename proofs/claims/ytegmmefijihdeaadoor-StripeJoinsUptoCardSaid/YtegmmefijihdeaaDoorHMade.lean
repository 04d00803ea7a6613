/- The document's generator: Made, walked. -/
import Derived.Test.YtegmmefijihdeaaDoorHRefG
namespace Go.Proofs.YtegmmefijihdeaaDoor.PS
open Go.RowKit Go.Proofs.YtegmmefijihdeaaDoorW.PrintWords Go.Proofs.YtegmmefijihdeaaDoorW.PrintLast Go.Proofs.YtegmmefijihdeaaDoorW.PrintMore Go.Proofs.YtegmmefijihdeaaDoor.Gf Go.Proofs.YtegmmefijihdeaaDoor.Fld Go.Proofs.YtegmmefijihdeaaDoor.Grd Go.Proofs.YtegmmefijihdeaaDoor.Rowb
set_option linter.unusedVariables false
set_option linter.unusedSimpArgs false
theorem refinv_at {W : World} {q : Nat} (hq : q < 256) (h0 : q ≠ 0) : Calls Tryd.prog 85 #[.int .u8 (q : Int)] W fun e w' => e = .returned (.tuple #[.int .u8 ((ginv (UInt8.ofNat q)).toNat : Int), .int .i64 0]) ∧ Drawn0 W w' := by
  have e : (UInt8.ofNat q).toNat = q := by rw [UInt8.toNat_ofNat']; exact Nat.mod_eq_of_lt hq
  have h := refinv_f (UInt8.ofNat q) (fun e2 => h0 (by rw [e2] at e; exact e.symm)) 300 (by omega)
  rw [e] at h
  exact corncribref01_Inv.calls 300 (q : Int) _ _ W h
theorem genG_flat_len (k m : Nat) : (genG k m).flatten.length = (k + m) * k := by
  have := lens_same (c := k) (genG k m) (fun r hr => by obtain ⟨x, _, rfl⟩ := List.mem_map.1 hr; exact genRow_len k x)
  rw [genG_len] at this
  rw [← this]
  simp [Lib.lens, List.length_flatten]
theorem genG_flat_succ (k m : Nat) : (genG k (m + 1)).flatten = (genG k m).flatten ++ genRow k (k + m) := by
  rw [genG_succ, List.flatten_append]
  simp
theorem genRow_take (k r j : Nat) (h : j < k) : (genRow k r).take (j + 1) = (genRow k r).take j ++ [genAt k r j] := by
  rw [List.take_succ_eq_append_getElem (by rw [genRow_len]; exact h)]
  congr 2
  unfold genRow
  simp
theorem run_field_cells (a b : Int) (s : ByteArray) (W : World) : (Instr.field 74 (.agg #[.int .i64 a, .int .i64 b, .string s]) 2).run Tryd.prog W = .ok (.string s) W := by kernel_rfl
set_option maxRecDepth 100000 in
set_option maxHeartbeats 2000000 in
theorem made_walk (w : World) (k m : Nat) (h1 : 1 ≤ k) (h2 : k + m ≤ 255) : Calls Tryd.prog 59 #[.int .i64 (k : Int), .int .i64 (m : Int)] w fun e w' => e = .returned (matV (k + m) k (genG k m).flatten) ∧ Below w.heap.size w w' := by
  have HO : Aside0 (∀ W, Calls Tryd.prog 84 #[.int .i64 (k : Int)] W fun e w' => e = .returned (.agg #[.int .i64 (k : Int), .int .i64 (k : Int), .string (txt (oneG k).flatten)]) ∧ Below W.heap.size W w') := ⟨fun W => corncribref02_One.calls (k + 1) k _ _ _ W (refone_f k (by omega) (k + 1) (Nat.le_refl _))⟩
  go_enter Tryd.func59, Tryd.ntmps59
  go_wp2_with fail
  refine (HO.out _).mono ?_
  rintro e w1 ⟨rfl, hb1⟩
  have HB1 : Aside0 (Below w.heap.size w w1) := ⟨((Below.refl w.heap.size w).alloc (Nat.le_refl _) _).trans (hb1.mono (by simp))⟩
  have hres : Aside0 (w1.heap[w.heap.size]? = some (.cells #[.int .i64 0, .int .i64 0, .string ⟨#[]⟩] 74 (0, 0))) := ⟨blk_below (blk_new _ _) hb1⟩
  obtain ⟨cap, W2, hcv, hcap, hrs, hb2, cs, fr, hg, hcs, hfr, htk⟩ := run_bytes_new w1 (txt (oneG k).flatten)
  have hsz : (txt (oneG k).flatten).size = (genG k 0).flatten.length := by rw [txt_size, genG_zero]
  have HX : Aside0 (RowX W2 w.heap.size (.slice (some ⟨w1.heap.size, 0, none⟩) (txt (oneG k).flatten).size cap) (genG k 0).flatten) := ⟨w1.heap.size, cap, cs, fr, by rw [hsz], HB1.out.size, hg, hcs, by rw [← hsz]; exact hcap, by rw [← hsz, htk, txt_list, genG_zero], hfr⟩
  have HB2 : Aside0 (Below w.heap.size w W2) := ⟨HB1.out.trans (hb2.mono HB1.out.size)⟩
  have hres2 := Aside0.mk (blk_below hres.out hb2)
  have hfd := run_field_cells (k : Int) (k : Int) (txt (oneG k).flatten)
  clear hrs hb2 hg hcs hfr htk hsz hb1 hres HB1
  go_wp2
  generalize (Value.slice (some ⟨w1.heap.size, 0, none⟩) (txt (oneG k).flatten).size cap) = v0 at *
  go_loopw [5, 6, 7, 8, 9] (fun v i _ _ _ W => ∃ n : Nat, n ≤ m ∧ i = .int .i64 (n : Int) ∧ Aside0 (RowX W w.heap.size v (genG k n).flatten) ∧ Aside0 (Below w.heap.size w W) ∧ Aside0 (W.heap[w.heap.size]? = some (.cells #[.int .i64 0, .int .i64 0, .string ⟨#[]⟩] 74 (0, 0)))) (fun _ i _ _ _ _ => m - (intOf i).toNat)
  case atStart => exact ⟨0, by omega, rfl, HX, HB2, hres2⟩
  case round =>
    obtain ⟨n, hn, rfl, HV, HB, HR⟩ := hrel
    clear HX HB2 hres2
    by_cases hlt : n < m
    · have dlt : decide ((n : Int) < (m : Int)) = true := decide_eq_true (by omega)
      have HV0 : Aside0 (RowX wr w.heap.size u5 ((genG k n).flatten ++ (genRow k (k + n)).take 0)) := ⟨by rw [List.take_zero, List.append_nil]; exact HV.out⟩
      have HL := Aside0.mk (genG_flat_len k n)
      have hmk : (k + n) * k ≤ 255 * 255 := Nat.mul_le_mul (by omega) (by omega)
      clear HV
      go_wp2
      go_loopw [5, 7, 8, 9] (fun v j _ _ W => ∃ q : Nat, q ≤ k ∧ j = .int .i64 (q : Int) ∧ Aside0 (RowX W w.heap.size v ((genG k n).flatten ++ (genRow k (k + n)).take q)) ∧ Aside0 (Below w.heap.size w W) ∧ Aside0 (W.heap[w.heap.size]? = some (.cells #[.int .i64 0, .int .i64 0, .string ⟨#[]⟩] 74 (0, 0)))) (fun _ j _ _ _ => k - (intOf j).toNat)
      case atStart => exact ⟨0, by omega, rfl, HV0, HB, HR⟩
      case round =>
        obtain ⟨q, hq, rfl, HV, HB, HR⟩ := hrel
        by_cases hlq : q < k
        · have hx := xor_i64 (k + n) q 8 (by omega) (by omega) (by omega)
          have hxl := xor_lt (a := k + n) (b := q) (by omega) (by omega)
          have HI : Aside0 (∀ W, Calls Tryd.prog 85 #[.int .u8 (((k + n) ^^^ q : Nat) : Int)] W fun e w' => e = .returned (.tuple #[.int .u8 ((genAt k (k + n) q).toNat : Int), .int .i64 0]) ∧ Drawn0 W w') := ⟨fun W => by rw [genAt_inv]; exact refinv_at hxl (xor_pos hlq)⟩
          have HT := Aside0.mk (genRow_take k (k + n) q hlq)
          generalize genAt k (k + n) q = y at *
          generalize (k + n) ^^^ q = z at *
          have hx' : bits .xor .i64 ((k : Int) + (n : Int)) (q : Int) = (z : Int) := by rw [← hx]; push_cast; rfl
          have HLL : Aside0 (((genG k n).flatten ++ (genRow k (k + n)).take q).length ≤ 100000) := ⟨by rw [List.length_append, HL.out, List.length_take]; omega⟩
          have HAP : Aside0 ((genG k n).flatten ++ (genRow k (k + n)).take (q + 1) = ((genG k n).flatten ++ (genRow k (k + n)).take q) ++ [y]) := ⟨by rw [HT.out, List.append_assoc]⟩
          clear hx HV0
          generalize ((genG k n).flatten ++ (genRow k (k + n)).take q) = l at *
          go_wp2_with fail
          refine (HI.out _).mono ?_
          rintro e w5 ⟨rfl, ⟨nd, rfl⟩⟩
          have HV5 : Aside0 (RowX (wr.drewN nd) w.heap.size u5 l) := ⟨HV.out⟩
          have HB5 : Aside0 (Below w.heap.size w (wr.drewN nd)) := ⟨pw_below_drewN HB.out _⟩
          have HR5 : Aside0 ((wr.drewN nd).heap[w.heap.size]? = some (.cells #[.int .i64 0, .int .i64 0, .string ⟨#[]⟩] 74 (0, 0))) := ⟨HR.out⟩
          generalize wr.drewN nd = w6 at *
          go_wp2_with (first | ((with_reducible refine gate_builtin (b := .append) (xs := #[.tmp 34, .tmp 36]) rfl ?_); at_builtin; refine RowX.append (w0 := w) (b := y) HV5.out rfl (.tmp 34) (.tmp 36) rfl rfl rfl HB5.out HB5.out.size (by have := HLL.out; omega) ?_; intro v1 w7 hv hb hg; have HV7 := Aside0.mk hv; have HB7 := Aside0.mk hb; have HR7 := Aside0.mk (blk_grown HR5.out hg (HV5.out.block HR5.out (by decide))); clear hv hb hg))
          go_roundw
          case rel => exact ⟨q + 1, by omega, by go_num, ⟨by rw [HAP.out]; exact HV7.out⟩, HB7, HR7⟩
          case measure => simp [intOf]; omega
        · obtain rfl : q = k := by omega
          rw [List.take_of_length_le (by rw [genRow_len]; exact Nat.le_refl _), ← genG_flat_succ] at HV
          go_wp2
          go_roundw
          case rel => exact ⟨n + 1, by omega, by go_num, HV, HB, HR⟩
          case measure => simp [intOf]; omega
    · obtain rfl : n = m := by omega
      obtain ⟨g, cap', hv, hgb, hrow⟩ := HV.out.rowS
      subst hv
      have hcv := hrow.whole cap'
      have s0 := blk_cell HR.out 0
      have s1 := blk_cell HR.out 1
      have s2 := blk_cell HR.out 2
      have f0 := blk_frozen HR.out 0
      have f1 := blk_frozen HR.out 1
      have f2 := blk_frozen HR.out 2
      clear HV hrow
      obtain ⟨fl, hfl⟩ : ∃ fl, (genG k n).flatten = fl := ⟨_, rfl⟩
      rw [hfl] at hcv ⊢
      have HFL := Aside0.mk hfl
      clear hfl
      generalize fl.length = ln at *
      go_wp2
      refine bodyPost_ret (results_cell_row rfl _ _ w.heap.size 74 _ (0, 0) _ rfl (blk_put (blk_put (blk_put HR.out 0 _ rfl) 1 _ rfl) 2 _ rfl) Tryd.underlying74 rfl (by kernel_rfl)) rfl ?_
      exact ⟨by rw [HFL.out]; rfl, ((HB.out.setCell (Nat.le_refl _) _).setCell (Nat.le_refl _) _).setCell (Nat.le_refl _) _⟩
def corncribref02_Made.f (a0 : Int) (a1 : Int) : Option (Int × Int × ByteArray) := if codeB a0 a1 = true then some (a0 + a1, a0, txt (genG a0.toNat a1.toNat).flatten) else none
theorem corncribref02_Made.calls (a0 : Int) (a1 : Int) (r1 : Int) (r2 : Int) (r3 : ByteArray) (w : World) (h : corncribref02_Made.f a0 a1 = some (r1, r2, r3)) :
    Calls Tryd.prog 59 #[.int .i64 a0, .int .i64 a1] w fun e w' => e = .returned (.agg #[.int .i64 r1, .int .i64 r2, .string r3]) ∧ Below w.heap.size w w' := by
  unfold corncribref02_Made.f at h
  split at h
  · rename_i hc
    obtain ⟨K, M, rfl, rfl, h1, h2⟩ := codeB_nat hc
    have := made_walk w K M h1 h2
    injection h with h
    injection h with e1 h
    injection h with e2 e3
    subst e1 e2 e3
    simpa [matV, txt] using this
  · cases h
end Go.Proofs.YtegmmefijihdeaaDoor.PS
