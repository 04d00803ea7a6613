/- The generator of a code, walked. -/
import Derived.Test.YtegmmefijihdeaaDoorHGrid
namespace Go.Proofs.YtegmmefijihdeaaDoor.Grd
open Go.RowKit Go.Proofs.YtegmmefijihdeaaDoorW.PrintWords Go.Proofs.YtegmmefijihdeaaDoorW.PrintLast Go.Proofs.YtegmmefijihdeaaDoorW.PrintMore Go.Proofs.YtegmmefijihdeaaDoor.Gf Go.Proofs.YtegmmefijihdeaaDoor.Rowb Go.Proofs.YtegmmefijihdeaaDoor.Fld
open Go.Lib (byteCells byteCells_length)
set_option linter.unusedVariables false
set_option linter.unusedSimpArgs false
theorem GridAt.snoc {W w1 : World} {base b cap : Nat} {v v1 : Value} {ps : List (Nat × Nat)} {L : Grid} {l : List UInt8} (h : GridAt W base v ps L) (hb : base ≤ b) (hc : l.length ≤ cap) (hrow : RowS W b l) (hnew : ∀ p : Nat × Nat, p ∈ ps → p.1 ≠ b)
    (ho : w1.ownsRow base 60 1 v1 (L.length + 1) (List.zipWith rowV ps L ++ [rowV (b, cap) l])) (hg : W.grownBy w1 v.ownBlock) : GridAt w1 base v1 (ps ++ [(b, cap)]) (L ++ [l]) := by
  refine ⟨?_, by rw [List.length_append, List.length_append, h.len]; rfl, fun i p r h1 h2 => ?_, ?_⟩
  · rw [List.length_append, List.zipWith_append h.len]
    exact ho
  · by_cases hi : i < L.length
    · rw [List.getElem?_append_left (by rw [h.len]; exact hi)] at h1
      rw [List.getElem?_append_left hi] at h2
      obtain ⟨q1, q2, q3⟩ := h.row i p r h1 h2
      exact ⟨q1, q2, q3.grown hg (row_ne_own q3 h.outer)⟩
    · rw [List.getElem?_append_right (by rw [h.len]; omega), h.len] at h1
      rw [List.getElem?_append_right (by omega)] at h2
      have e : i - L.length = 0 := by
        have := (List.getElem?_eq_some_iff.1 h2).1
        simp at this
        omega
      rw [e] at h1 h2
      simp only [List.getElem?_cons_zero, Option.some.injEq] at h1 h2
      subst h1 h2
      exact ⟨hb, hc, hrow.grown hg (row_ne_own hrow h.outer)⟩
  · rw [List.map_append, List.nodup_append]
    refine ⟨h.nodup, by simp, fun a ha c hcm => ?_⟩
    obtain ⟨p, hp, rfl⟩ := List.mem_map.1 ha
    simp only [List.map_cons, List.map_nil, List.mem_singleton] at hcm
    subst hcm
    exact hnew p hp
theorem GridAt.lt {W : World} {base : Nat} {v : Value} {ps : List (Nat × Nat)} {L : Grid} (h : GridAt W base v ps L) (p : Nat × Nat) (hp : p ∈ ps) : p.1 < W.heap.size := by
  obtain ⟨i, hi, rfl⟩ := List.getElem_of_mem hp
  exact (h.row i _ _ (List.getElem?_eq_getElem hi) (List.getElem?_eq_getElem (by have := h.len; omega))).2.2.lt
def genRow (k r : Nat) : List UInt8 := (List.range k).map (genAt k r)
def genG (k m : Nat) : Grid := (List.range (k + m)).map (genRow k)
theorem genRow_len (k r : Nat) : (genRow k r).length = k := by simp [genRow]
theorem genG_len (k m : Nat) : (genG k m).length = k + m := by simp [genG]
theorem genG_zero (k : Nat) : oneG k = genG k 0 := by
  unfold oneG genG genRow genAt
  refine List.map_congr_left (fun i hi => List.map_congr_left (fun j _ => ?_))
  rw [if_pos (List.mem_range.1 hi)]
theorem genG_succ (k m : Nat) : genG k (m + 1) = genG k m ++ [genRow k (k + m)] := by
  unfold genG
  rw [← Nat.add_assoc, List.range_succ, List.map_append]
  rfl
/-- A row behind j rounds. -/
def genPart (k r j : Nat) : List UInt8 := (List.range j).map (genAt k r) ++ zeros (k - j)
theorem genPart_len (k r j : Nat) (h : j ≤ k) : (genPart k r j).length = k := by simp [genPart, zeros]; omega
theorem genPart_zero (k r : Nat) : genPart k r 0 = zeros k := by simp [genPart]
theorem genPart_full (k r : Nat) : genPart k r k = genRow k r := by simp [genPart, genRow, zeros]
theorem genPart_set (k r j : Nat) (h : j < k) : (genPart k r j).set j (genAt k r j) = genPart k r (j + 1) := by
  unfold genPart
  rw [List.set_append_right _ _ (by simp), List.range_succ, List.map_append]
  have e : zeros (k - j) = 0 :: zeros (k - (j + 1)) := by
    unfold zeros
    rw [show k - j = (k - (j + 1)) + 1 by omega, List.replicate_succ]
  rw [e]
  simp
theorem inv_at {W : World} {p q : Nat} (h : FieldAt W p) (hq : q < 256) (h0 : q ≠ 0) : Calls Tryd.prog 81 #[.pointer (some ⟨p, 0, none⟩), .int .u8 (q : Int)] W fun e w' => e = .returned (.tuple #[.int .u8 ((ginv (UInt8.ofNat q)).toNat : Int), .int .i64 0]) ∧ Drawn0 W w' := by
  have e : (UInt8.ofNat q).toNat = q := by rw [UInt8.toNat_ofNat']; exact Nat.mod_eq_of_lt hq
  have := inv_walk h (UInt8.ofNat q) (fun e2 => h0 (by rw [e2] at e; exact e.symm))
  rwa [e] at this
theorem genAt_inv (k i j : Nat) : genAt k (k + i) j = ginv (UInt8.ofNat ((k + i) ^^^ j)) := by unfold genAt; rw [if_neg (by omega)]
theorem xor_pos {k i j : Nat} (h : j < k) : (k + i) ^^^ j ≠ 0 := fun e => by
  have : (k + i) ^^^ j ^^^ j = 0 ^^^ j := by rw [e]
  rw [Nat.xor_assoc, Nat.xor_self, Nat.xor_zero, Nat.zero_xor] at this
  omega
def GenIs (k m : Nat) (w : World) (e : Ending) (w' : World) : Prop := e = .returned (.tuple #[matV (k + m) k (genG k m).flatten, .int .i64 0]) ∧ Below w.heap.size w w'
set_option maxRecDepth 100000 in
set_option maxHeartbeats 2000000 in
theorem gen_walk (w : World) (k m : Nat) (h1 : 1 ≤ k) (h2 : k + m ≤ 255) : Calls Tryd.prog 55 #[.int .i64 (k : Int), .int .i64 (m : Int)] w (GenIs k m w) := by
  have hmb := run_make_bytes k (by omega)
  have d1 : decide ((k : Int) < 1) = false := by simp; omega
  have d2 : decide ((255 : Int) < (k : Int)) = false := by simp; omega
  have d3 : decide ((m : Int) < 0) = false := by simp
  have d4 : decide ((255 : Int) - (k : Int) < (m : Int)) = false := by simp; omega
  go_enter Tryd.func55, Tryd.ntmps55
  go_wp2_with fail
  refine (new_walk _).mono ?_
  rintro e w1 ⟨rfl, hf1, hb1⟩
  have HB1 : Aside0 (Below w.heap.size w w1) := ⟨((Below.refl w.heap.size w).alloc (Nat.le_refl _) _).trans (hb1.mono (by simp))⟩
  have hres : Aside0 (w1.heap[w.heap.size]? = some (.cells #[.int .i64 0, .int .i64 0, .string ⟨#[]⟩] 74 (0, 0))) := ⟨blk_below (blk_new _ _) hb1⟩
  generalize (w.alloc (Obj.cells #[Value.int IntKind.i64 0, Value.int IntKind.i64 0, Value.string ⟨#[]⟩] 74)).heap.size = p at *
  have HF1 := Aside0.mk hf1
  clear hb1 hf1
  go_wp2_with fail
  refine (one_walk w1 k (by omega)).mono ?_
  rintro e w2 ⟨v2, ps2, rfl, hg2, hp2, hb2⟩
  have hg2' : GridAt w2 w.heap.size v2 ps2 (genG k 0) := by rw [← genG_zero]; exact hg2.lower HB1.out.size
  have HG2 := Aside0.mk (And.intro hg2' hp2)
  have HF2 := Aside0.mk (HF1.out.below hb2)
  have HB2 : Aside0 (Below w.heap.size w w2) := ⟨HB1.out.trans (hb2.mono HB1.out.size)⟩
  have HR2 : Aside0 (w2.heap[w.heap.size]? = some (.cells #[.int .i64 0, .int .i64 0, .string ⟨#[]⟩] 74 (0, 0))) := ⟨blk_below hres.out hb2⟩
  clear hg2 hg2' hp2 hb2 HF1 HB1 hres
  go_wp2
  go_loopw [7, 32] (fun v i W => ∃ (n : Nat) (ps : List (Nat × Nat)), n ≤ m ∧ i = .int .i64 (n : Int) ∧ Aside0 (GridAt W w.heap.size v ps (genG k n) ∧ ∀ p : Nat × Nat, p ∈ ps → p.2 = k) ∧ Aside0 (FieldAt W p) ∧ Aside0 (Below w.heap.size w W) ∧ Aside0 (W.heap[w.heap.size]? = some (.cells #[.int .i64 0, .int .i64 0, .string ⟨#[]⟩] 74 (0, 0)))) (fun _ i _ => m - (intOf i).toNat)
  case atStart => exact ⟨0, ps2, by omega, rfl, HG2, HF2, HB2, HR2⟩
  case round =>
    obtain ⟨n, ps, hn, rfl, HG, HF, HB, HR⟩ := hrel
    clear HG2 HF2 HB2 HR2
    generalize wr = wo at *
    generalize u7 = v at *
    by_cases hlt : n < m
    · obtain ⟨W1, hW1⟩ : ∃ W1, W1 = wo.alloc (.cells (byteCells (zeros k)).toArray 5) := ⟨_, rfl⟩
      obtain ⟨b, hbd⟩ : ∃ b, wo.heap.size = b := ⟨_, rfl⟩
      have hmk1 : (Instr.makeSlice 60 (.int .i64 (k : Int)) (.int .i64 (k : Int))).run Tryd.prog wo = .ok (.slice (some ⟨b, 0, none⟩) k k) W1 := by rw [hmb, hW1, hbd]
      have HN1 : Aside0 (RowB W1 b (genPart k (k + n) 0)) := ⟨by rw [genPart_zero, hW1, ← hbd]; exact blk_new _ _⟩
      have HW1 : Aside0 (Below wo.heap.size wo W1) := ⟨by rw [hW1]; exact below_alloc (Below.refl _ _) _⟩
      have HBD := Aside0.mk hbd
      clear hW1 hmb hbd
      go_wp2
      go_loopw [10, 39] (fun _ j W => ∃ q : Nat, q ≤ k ∧ j = .int .i64 (q : Int) ∧ Aside0 (RowB W b (genPart k (k + n) q)) ∧ Aside0 (Below wo.heap.size wo W)) (fun _ j _ => k - (intOf j).toNat)
      case atStart => exact ⟨0, by omega, rfl, HN1, HW1⟩
      case round =>
        obtain ⟨q, hq, rfl, HP, HW⟩ := hrel
        by_cases hlq : q < k
        · have hfw : FieldAt wr p := HF.out.below HW.out
          have hx := xor_i64 (k + n) q 8 (by omega) (by omega) (by omega)
          have hxl := xor_lt (a := k + n) (b := q) (by omega) (by omega)
          have HI := Aside0.mk (inv_at (q := (k + n) ^^^ q) hfw hxl (xor_pos hlq))
          rw [← genAt_inv] at HI
          have HST : Aside0 (∀ nd, RowB ((wr.drewN nd).setCell ⟨b, q, none⟩ (.int .u8 ((genAt k (k + n) q).toNat : Int))) b (genPart k (k + n) (q + 1))) := ⟨fun nd => by
            have := RowB.put (w := wr.drewN nd) HP.out q (genAt k (k + n) q)
            rwa [genPart_set _ _ _ hlq] at this⟩
          have c0 := HP.out.cell q (by rw [genPart_len _ _ _ hq]; exact hlq)
          have f0 := HP.out.frozen q
          have hbs : wo.heap.size ≤ b := by rw [HBD.out]; exact Nat.le_refl _
          generalize genAt k (k + n) q = y at *
          generalize (k + n) ^^^ q = z at *
          have hx' : bits .xor .i64 ((k : Int) + (n : Int)) (q : Int) = (z : Int) := by rw [← hx]; push_cast; rfl
          clear hx hfw
          go_wp2_with fail
          refine HI.out.mono ?_
          rintro e w5 ⟨rfl, ⟨nd, rfl⟩⟩
          go_wp2
          go_roundw
          case rel => exact ⟨q + 1, by omega, by go_num, ⟨HST.out nd⟩, ⟨(pw_below_drewN HW.out nd).setCell hbs _⟩⟩
          case measure => simp [intOf]; omega
        · obtain rfl : q = k := by omega
          rw [genPart_full] at HP
          have HBW : Aside0 (Below w.heap.size w wr) := ⟨HB.out.trans (HW.out.mono HB.out.size)⟩
          have HGW := Aside0.mk (HG.out.1.below HW.out)
          have HFW := Aside0.mk (HF.out.below HW.out)
          have HRW := Aside0.mk (blk_below HR.out HW.out)
          have HNB : Aside0 (∀ x : Nat × Nat, x ∈ ps → x.1 ≠ b) := ⟨fun x hx e => by
            have := HG.out.1.lt x hx
            have := HBD.out
            omega⟩
          have HGE : Aside0 (w.heap.size ≤ b ∧ b < wr.heap.size) := ⟨by have := HB.out.size; have := HBD.out; omega, HP.out.lt⟩
          have HP2 := Aside0.mk HG.out.2
          have HLR := Aside0.mk (genRow_len q (q + n))
          have HLG := Aside0.mk (genG_len q n)
          have HSU := Aside0.mk (genG_succ q n)
          have HRV : Aside0 (rowV (b, q) (genRow q (q + n)) = .slice (some ⟨b, 0, none⟩) q q) := ⟨by unfold rowV; rw [HLR.out]⟩
          clear HW HB HF HR HN1 HW1 HG hmk1 HBD
          generalize genRow q (q + n) = row at *
          go_wp2_with (first | ((with_reducible refine gate_builtin (b := .append) (xs := #[.tmp 57, .tmp 59]) rfl ?_); at_builtin; refine print_append_cells w.heap.size rfl (.tmp 57) (.tmp 59) 108 60 (.slice none 0 0) 1 24 rfl Tryd.underlying108 info_row rfl (by decide) (by decide) v (genG q n).length (List.zipWith rowV ps (genG q n)) [.slice (some ⟨b, 0, none⟩) q q] rfl rfl rfl (by simp [Value.oneCell']) HGW.out.outer HBW.out HBW.out.size (by rw [HLG.out]; omega) ?_; intro v1 w5 ho5 hb5 hg5 hat5; have HG5 := Aside0.mk (HGW.out.snoc HGE.out.1 (by rw [HLR.out]; exact Nat.le_refl _) (RowS.of HP.out) HNB.out (by rw [HRV.out]; exact ho5) hg5); have HB5 := Aside0.mk hb5; have HF5 : Aside0 (FieldAt w5 p) := ⟨blk_grown HFW.out hg5 (own_ne HGW.out.outer HFW.out (by decide))⟩; have HR5 := Aside0.mk (blk_grown HRW.out hg5 (own_ne HGW.out.outer HRW.out (by decide))); clear ho5 hb5 hg5 hat5))
          go_roundw
          case rel => exact ⟨n + 1, ps ++ [(b, q)], by omega, by go_num, ⟨by rw [HSU.out]; exact HG5.out, fun x hx => by
            rcases List.mem_append.1 hx with hx | hx
            · exact HP2.out x hx
            · rw [List.mem_singleton.1 hx]⟩, HF5, HB5, HR5⟩
          case measure => simp [intOf]; omega
    · obtain rfl : n = m := by omega
      have hM := matrix_walk (c := k) HG.out.1 (fun r hr => by obtain ⟨x, _, rfl⟩ := List.mem_map.1 hr; exact genRow_len k x) (by omega) (by omega) (by rw [genG_len]; omega) (by rw [genG_len]; omega)
      rw [genG_len] at hM
      have HM := Aside0.mk hM
      clear hM HG HF hmb
      go_wp2_with fail
      refine HM.out.mono ?_
      rintro e w6 ⟨rfl, hb6⟩
      have HB6 : Aside0 (Below w.heap.size w w6) := ⟨HB.out.trans (hb6.mono HB.out.size)⟩
      have HC1 := Aside0.mk (blk_below HR.out hb6)
      have s0 := blk_cell HC1.out 0
      have s1 := blk_cell HC1.out 1
      have s2 := blk_cell HC1.out 2
      have f0 := blk_frozen HC1.out 0
      have f1 := blk_frozen HC1.out 1
      have f2 := blk_frozen HC1.out 2
      clear hb6 HB HR
      unfold matV
      go_wp2
      refine bodyPost_ret (results_list (rs := [.cell 4 74, .tmp 5]) rfl (by simp) (Vals.cell w.heap.size 74 _ (0, 0) _ rfl (blk_put (blk_put (blk_put HC1.out 0 _ rfl) 1 _ rfl) 2 _ rfl) Tryd.underlying74 rfl (by kernel_rfl) (Vals.tmp Vals.nil))) rfl ?_
      exact ⟨rfl, ((HB6.out.setCell (Nat.le_refl _) _).setCell (Nat.le_refl _) _).setCell (Nat.le_refl _) _⟩
end Go.Proofs.YtegmmefijihdeaaDoor.Grd
