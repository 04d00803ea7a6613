/- The parity, walked. -/
import Derived.Test.YtegmmefijihdeaaDoorHCode
namespace Go.Proofs.YtegmmefijihdeaaDoor.PS
open Go.RowKit Go.Proofs.YtegmmefijihdeaaDoorW.PrintWords Go.Proofs.YtegmmefijihdeaaDoorW.PrintLast Go.Proofs.YtegmmefijihdeaaDoorW.PrintMore Go.Proofs.YtegmmefijihdeaaDoor.Gf Go.Proofs.YtegmmefijihdeaaDoor.Grd Go.Proofs.YtegmmefijihdeaaDoor.Rowb Go.Proofs.YtegmmefijihdeaaDoor.Fld
open Go.Lib (byteCells byteCells_length)
set_option linter.unusedVariables false
set_option linter.unusedSimpArgs false
def ParIs (k m : Int) (data : List ByteArray) (w : World) (e : Ending) (w' : World) : Prop := ∃ v0_ : Value, e = .returned (.tuple #[v0_, .int .i64 (parityV k m data).2]) ∧ Kd.R Kd.string 9 w' w.heap.size (fun _ => True) v0_ (parityV k m data).1 ∧ Below w.heap.size w w'
theorem mul_at {W : World} {p : Nat} (h : FieldAt W p) (a b : UInt8) (x y : Nat) (hx : a.toNat = x) (hy : b.toNat = y) : Calls Tryd.prog 57 #[.pointer (some ⟨p, 0, none⟩), .int .u8 (x : Int), .int .u8 (y : Int)] W fun e w' => e = .returned (.int .u8 ((gmul a b).toNat : Int)) ∧ Drawn0 W w' := by
  subst hx hy
  exact mul_walk h a b
theorem dAt_get (data : List ByteArray) (q t : Nat) (hq : q < data.length) (ht : t < data[q].size) : dAt data q t = data[q][t] := by
  unfold dAt
  have e : data.getD q ByteArray.empty = data[q] := by rw [List.getD_eq_getElem?_getD, List.getElem?_eq_getElem hq]; rfl
  rw [e, List.getD_eq_getElem?_getD]
  have ht' : t < data[q].data.toList.length := by rw [Array.length_toList]; exact ht
  rw [List.getElem?_eq_getElem ht']
  rfl
section
variable (K M : Nat) (h1 : 1 ≤ K) (h2 : K + M ≤ 255) (A2 : Option Addr) (c2 : Nat) (data : List ByteArray) (w : World) (hr : Kd.C Kd.string w A2 data.length data) (hc : data.length ≤ c2)
include h1 h2 hr hc
set_option maxRecDepth 100000 in
set_option maxHeartbeats 4000000 in
theorem par_main (hl : data.length = K) (he : evenB data = true) (hn : (rdOf ByteArray.empty data 0).size ≤ 2052) :
    Calls Tryd.prog 28 #[.int .i64 (K : Int), .int .i64 (M : Int), .slice A2 data.length c2] w fun e w' => ∃ v0_ : Value, e = .returned (.tuple #[v0_, .int .i64 0]) ∧ Kd.R Kd.string 9 w' w.heap.size (fun _ => True) v0_ (parL K (rdOf ByteArray.empty data 0).size data M) ∧ Below w.heap.size w w' := by
  have HC : Aside0 (∀ W, Calls Tryd.prog 47 #[.int .i64 (K : Int), .int .i64 (M : Int)] W fun e w' => e = .returned (.bool true) ∧ Drawn0 W w') := ⟨fun W => stripe_code.calls _ _ _ W (by rw [code_f]; congr 1; unfold codeB; exact decide_eq_true (by omega))⟩
  have HE : Aside0 (∀ W, Below w.heap.size w W → Calls Tryd.prog 50 #[.slice A2 K c2] W fun e w' => e = .returned (.bool true) ∧ Drawn0 W w') := ⟨fun W hb => by have := even_walk A2 c2 data W (Kd.C_below hr hb) hc; rwa [he, hl] at this⟩
  have HG : Aside0 (∀ W, Calls Tryd.prog 55 #[.int .i64 (K : Int), .int .i64 (M : Int)] W (GenIs K M W)) := ⟨fun W => gen_walk W K M h1 h2⟩
  obtain ⟨ad, hA, hx0⟩ := Kd.at_string hr 0 (by omega) (by omega)
  subst hA
  obtain ⟨n, hnd⟩ : ∃ n, (rdOf ByteArray.empty data 0).size = n := ⟨_, rfl⟩
  have hx0' : w.cell? ad = some (.string (rdOf ByteArray.empty data 0)) := by rw [show ((0 : Int)).toNat = 0 from rfl, Addr.add_zero'] at hx0; exact hx0
  have HX0 : Aside0 (∀ W, Below w.heap.size w W → W.cell? ad = some (.string (rdOf ByteArray.empty data 0))) := ⟨fun W hb => pw_cell_below hb hx0'⟩
  have HR := Aside0.mk (And.intro hr hc)
  have i0 : (0 : Int) < (K : Int) := by omega
  have i1 : 0 < K := by omega
  have HL := Aside0.mk hl
  have e2 : decide ((2052 : Int) < (n : Int)) = false := by simp; omega
  rw [hnd] at hn ⊢
  generalize hs0 : rdOf ByteArray.empty data 0 = s0 at *
  have HS0 := Aside0.mk hs0
  have HE0 := Aside0.mk he
  subst hnd
  rw [hl]
  clear hx0 hr hc he hs0 hl
  go_enter Tryd.func28, Tryd.ntmps28
  go_wp2_with fail
  refine (HC.out _).mono ?_
  rintro e w1 ⟨rfl, ⟨n1, rfl⟩⟩
  go_wp2_with fail
  refine (HE.out _ (pw_below_drewN (Below.refl _ _) _)).mono ?_
  rintro e w1 ⟨rfl, ⟨n2, rfl⟩⟩
  have HB1 : Aside0 (Below w.heap.size w ((w.drewN n1).drewN n2)) := ⟨pw_below_drewN (pw_below_drewN (Below.refl _ _) _) _⟩
  generalize (w.drewN n1).drewN n2 = w1 at *
  have c1 := HX0.out w1 HB1.out
  go_wp2_with fail
  refine (HG.out _).mono ?_
  rintro e w2 ⟨rfl, hb2⟩
  have HB2 : Aside0 (Below w.heap.size w w2) := ⟨HB1.out.trans (hb2.mono HB1.out.size)⟩
  have HG2 : Aside0 ((genG K M).flatten.length = (K + M) * K) := ⟨by
    have := lens_same (c := K) (genG K M) (fun r hr => by obtain ⟨x, _, rfl⟩ := List.mem_map.1 hr; exact genRow_len K x)
    rw [genG_len] at this
    rw [← this]
    simp [Lib.lens, List.length_flatten]⟩
  have HGB : Aside0 (∀ r j, r < K + M → j < K → (genG K M).flatten[r * K + j]? = some (genAt K r j)) := ⟨fun r j => gen_byte K M r j⟩
  clear hb2 HB1 c1 hx0'
  generalize (genG K M).flatten = cl at *
  unfold matV
  go_wp2_with fail
  refine (new_walk _).mono ?_
  rintro e w3 ⟨rfl, hf3, hb3⟩
  have HB3 : Aside0 (Below w.heap.size w w3) := ⟨(HB2.out.alloc HB2.out.size _).trans (hb3.mono (by have := HB2.out.size; simp; omega))⟩
  have hg3 : w3.heap[w2.heap.size]? = some (.cells #[.int .i64 ((K : Int) + (M : Int)), .int .i64 (K : Int), .string ⟨cl.toArray⟩] 74 (0, 0)) := blk_below (blk_new _ _) hb3
  have hgl : w.heap.size ≤ w2.heap.size := HB2.out.size
  generalize (w2.alloc (Obj.cells #[Value.int IntKind.i64 ((K : Int) + (M : Int)), Value.int IntKind.i64 (K : Int), Value.string ⟨cl.toArray⟩] 74)).heap.size = p at *
  generalize w2.heap.size = gb at *
  have HCS : Aside0 ((⟨cl.toArray⟩ : ByteArray).size = (K + M) * K ∧ ∀ r j, r < K + M → j < K → (⟨cl.toArray⟩ : ByteArray).data.toList[r * K + j]? = some (genAt K r j)) := ⟨by
    refine ⟨?_, fun r j hr hj => ?_⟩
    · show cl.toArray.size = _
      rw [List.size_toArray]
      exact HG2.out
    · show cl.toArray.toList[r * K + j]? = _
      rw [List.toList_toArray]
      exact HGB.out r j hr hj⟩
  generalize (⟨cl.toArray⟩ : ByteArray) = S at *
  have HF3 := Aside0.mk hf3
  have HG3 := Aside0.mk hg3
  have hmb := run_make_bytes s0.size (by omega)
  clear hb3 hf3 hg3 HB2 HG2 HGB HG HC HE
  go_wp2
  go_loopw [11, 12] (fun v i W => ∃ r j : Nat, r ≤ M ∧ i = .int .i64 (j : Int) ∧ Aside0 (j = K + r) ∧ Aside0 (Kd.R Kd.string 9 W w.heap.size (fun _ => True) v (parL K s0.size data r)) ∧ Aside0 (Below w.heap.size w W) ∧ Aside0 (FieldAt W p) ∧ Aside0 (W.heap[gb]? = some (.cells #[.int .i64 ((K : Int) + (M : Int)), .int .i64 (K : Int), .string S] 74 (0, 0)))) (fun _ i _ => K + M - (intOf i).toNat)
  case atStart => exact ⟨0, K, by omega, rfl, ⟨rfl⟩, ⟨Kd.R_nil _ _ _ _ _⟩, HB3, HF3, HG3⟩
  case round =>
    obtain ⟨r, i, hrM, rfl, HI, HV, HB, HF, HGB⟩ := hrel
    clear HB3 HF3 HG3
    generalize wr = wo at *
    generalize u11 = v at *
    by_cases hlt : i < K + M
    · obtain ⟨W1, hW1⟩ : ∃ W1, W1 = wo.alloc (.cells (byteCells (zeros s0.size)).toArray 5) := ⟨_, rfl⟩
      obtain ⟨b, hbd⟩ : ∃ b, wo.heap.size = b := ⟨_, rfl⟩
      have hmk1 : (Instr.makeSlice 60 (.int .i64 (s0.size : Int)) (.int .i64 (s0.size : Int))).run Tryd.prog wo = .ok (.slice (some ⟨b, 0, none⟩) s0.size s0.size) W1 := by rw [hmb, hW1, hbd]
      have HN1 : Aside0 (RowB W1 b (accRow K i s0.size data 0)) := ⟨by rw [acc_zero, hW1, ← hbd]; exact blk_new _ _⟩
      have HW1 : Aside0 (Below wo.heap.size wo W1) := ⟨by rw [hW1]; exact below_alloc (Below.refl _ _) _⟩
      have HBD := Aside0.mk hbd
      have c0 := HX0.out wo HB.out
      have dlt : decide ((i : Int) < (K : Int) + (M : Int)) = true := decide_eq_true (by omega)
      clear hW1 hmb hbd
      go_wp2
      go_loopw [14, 15, 16, 17, 64] (fun _ _ _ _ j W => ∃ q : Nat, q ≤ K ∧ j = .int .i64 (q : Int) ∧ Aside0 (RowB W b (accRow K i s0.size data q)) ∧ Aside0 (Below wo.heap.size wo W)) (fun _ _ _ _ j _ => K - (intOf j).toNat)
      case atStart => exact ⟨0, by omega, rfl, HN1, HW1⟩
      case round =>
        obtain ⟨q, hq, rfl, HP, HW⟩ := hrel
        generalize wr = w4 at *
        by_cases hlq : q < K
        · have hB4 : Below w.heap.size w w4 := HB.out.trans (HW.out.mono HB.out.size)
          obtain ⟨sq, hq0, hsz, hdt⟩ : ∃ sq : ByteArray, w4.cell? (ad.add q) = some (.string sq) ∧ sq.size = s0.size ∧ Aside0 (∀ t (ht : t < sq.size), dAt data q t = sq[t]) := by
            have hqd : q < data.length := by have := HL.out; omega
            obtain ⟨ad', e', hq0⟩ := Kd.at_string (Kd.C_below HR.out.1 hB4) (q : Int) (by omega) (by omega)
            obtain rfl : ad = ad' := by injection e'
            rw [rdOf_nat data q hqd, Int.toNat_natCast] at hq0
            refine ⟨data[q], hq0, ?_, ⟨fun t ht => dAt_get data q t hqd ht⟩⟩
            have := even_of HE0.out _ (List.getElem_mem hqd)
            rw [HS0.out] at this
            exact this
          have g2 := (blk_cell (blk_below HGB.out HW.out) 2)
          obtain ⟨z, hz⟩ : ∃ z, i * K = z := ⟨_, rfl⟩
          have hzi : (i : Int) * (K : Int) = (z : Int) := by rw [← hz]; push_cast; rfl
          have hzb : z + q < S.size := by
            rw [HCS.out.1, ← hz]
            have : (i + 1) * K ≤ (K + M) * K := Nat.mul_le_mul_right _ (by omega)
            rw [Nat.succ_mul] at this
            omega
          have hSl : S.size ≤ 65025 := by
            rw [HCS.out.1]
            exact Nat.le_trans (Nat.mul_le_mul h2 (by omega : K ≤ 255)) (by decide)
          have hby : S[z + q] = genAt K i q := by
            have := HCS.out.2 i q hlt hlq
            rw [hz] at this
            obtain ⟨hh, he⟩ := List.getElem?_eq_some_iff.1 this
            rw [← he]
            rfl
          clear hz
          have HM0 : Aside0 (RowB w4 b (mixRow K i s0.size data q 0)) := ⟨by rw [mix_zero]; exact HP.out⟩
          have HFI : Aside0 (∀ W, Below wo.heap.size wo W → FieldAt W p) := ⟨fun W hb => HF.out.below hb⟩
          have hbs : wo.heap.size ≤ b := by rw [HBD.out]; exact Nat.le_refl _
          clear HP hB4
          go_wp2
          go_loopw [17, 79] (fun _ t W => ∃ u : Nat, u ≤ s0.size ∧ t = .int .i64 (u : Int) ∧ Aside0 (RowB W b (mixRow K i s0.size data q u)) ∧ Aside0 (Below wo.heap.size wo W)) (fun _ t _ => s0.size - (intOf t).toNat)
          case atStart => exact ⟨0, by omega, rfl, HM0, HW⟩
          case round =>
            obtain ⟨u, hu, rfl, HX, HY⟩ := hrel
            generalize wr = w5 at *
            by_cases hlu : u < s0.size
            · have huq : u < sq.size := by omega
              have r0 := HX.out.cell u (by rw [mix_len]; exact hlu)
              rw [mix_at _ _ _ _ _ _ hlu] at r0
              have f0 := HX.out.frozen u
              have HST : Aside0 (∀ W : World, W.heap = w5.heap → RowB (W.setCell ⟨b, u, none⟩ (.int .u8 ((((xs (List.range q) fun j => gmul (genAt K i j) (dAt data j u)) ^^^ gmul (genAt K i q) (dAt data q u)).toNat : Nat) : Int))) b (mixRow K i s0.size data q (u + 1))) := ⟨fun W hW => by
                have h0 : RowB W b (mixRow K i s0.size data q u) := by unfold RowB; rw [hW]; exact HX.out
                have := h0.put u ((xs (List.range q) fun j => gmul (genAt K i j) (dAt data j u)) ^^^ gmul (genAt K i q) (dAt data q u))
                rwa [mix_set _ _ _ _ _ _ hlu] at this⟩
              rw [hdt.out u huq] at HST
              have HMU : Aside0 (∀ W : World, W.heap = w5.heap → Calls Tryd.prog 57 #[.pointer (some ⟨p, 0, none⟩), .int .u8 ((genAt K i q).toNat : Int), .int .u8 (sq[u].toNat : Int)] W fun e w' => e = .returned (.int .u8 ((gmul (genAt K i q) sq[u]).toNat : Int)) ∧ Drawn0 W w') := ⟨fun W hW => mul_walk (by unfold FieldAt; rw [hW]; exact HFI.out w5 HY.out) _ _⟩
              have hxr := xor_u8 (xs (List.range q) fun j => gmul (genAt K i j) (dAt data j u)).toNat (gmul (genAt K i q) sq[u]).toNat (b_lt _) (b_lt _)
              rw [← UInt8.toNat_xor] at hxr
              generalize ((xs (List.range q) fun j => gmul (genAt K i j) (dAt data j u)) ^^^ gmul (genAt K i q) sq[u]).toNat = res at *
              generalize (xs (List.range q) fun j => gmul (genAt K i j) (dAt data j u)).toNat = old at *
              generalize (gmul (genAt K i q) sq[u]).toNat = prod at *
              clear hby
              generalize (genAt K i q).toNat = gy at *
              go_wp2_with fail
              go_region_law (first | (go_simp; go_at_call 57; refine (HMU.out _ (by rfl)).mono ?_; rintro e w6 ⟨rfl, ⟨nd, rfl⟩⟩))
              all_goals go_wp2
              all_goals go_roundw
              all_goals first
                | (case rel => exact ⟨u + 1, by omega, by go_num, ⟨HST.out _ (by rfl)⟩, ⟨Below.setCell (by repeat (first | exact HY.out | apply pw_below_drewN | apply below_drew1)) hbs _⟩⟩)
                | skip
              all_goals (case measure => simp [intOf]; omega)
            · obtain rfl : u = s0.size := by omega
              rw [mix_full] at HX
              clear hby
              go_wp2
              go_roundw
              case rel => exact ⟨q + 1, by omega, by go_num, HX, HY⟩
              case measure => simp [intOf]; omega
        · obtain rfl : q = K := by omega
          have hcv := HP.out.whole s0.size
          rw [acc_len] at hcv
          have HBW : Aside0 (Below w.heap.size w w4) := ⟨HB.out.trans (HW.out.mono HB.out.size)⟩
          have HVW := Aside0.mk (Kd.R_below HV.out HW.out)
          have HFW := Aside0.mk (HF.out.below HW.out)
          have HGW := Aside0.mk (blk_below HGB.out HW.out)
          have HPS := Aside0.mk (parL_succ q s0.size data r)
          have HTX : Aside0 ((⟨(accRow q i s0.size data q).toArray⟩ : ByteArray) = txt (accRow q (q + r) s0.size data q)) := ⟨by rw [HI.out]; rfl⟩
          have HLP := Aside0.mk (parL_len q s0.size data r)
          generalize (⟨(accRow q i s0.size data q).toArray⟩ : ByteArray) = tx at *
          clear HB HV HF HGB HW HP HN1 HW1
          go_wp2_with (first | ((with_reducible refine gate_builtin (b := .append) (xs := #[.tmp 96, .tmp 99]) rfl ?_); at_builtin; refine Kd.R_append Kd.string (w0 := w) w.heap.size rfl (.tmp 96) (.tmp 99) 25 9 (.string ⟨#[]⟩) 16 rfl Tryd.underlying25 info9 rfl (by decide) (by omega) v (parL q s0.size data r) tx [.string tx] (fun _ => True) (fun _ => False) rfl rfl rfl (fun _ hk => hk.elim) (fun _ _ => trivial) HVW.out HBW.out HBW.out.size (by rw [HLP.out]; omega) ?_; intro v1 w6 ho hb hg hat; have HV6 := Aside0.mk ho; have HB6 := Aside0.mk hb; have HF6 : Aside0 (FieldAt w6 p) := ⟨blk_grown HFW.out hg (Kd.R_ne HVW.out HFW.out (by decide))⟩; have HG6 := Aside0.mk (blk_grown HGW.out hg (Kd.R_ne HVW.out HGW.out (by decide))); clear ho hb hg hat))
          go_roundw
          case rel => exact ⟨r + 1, i + 1, by have := HI.out; omega, by go_num, ⟨by have := HI.out; omega⟩, ⟨by rw [HPS.out, ← HTX.out]; exact HV6.out⟩, HB6, HF6, HG6⟩
          case measure => simp [intOf]; omega
    · have hrm : r = M := by have := HI.out; omega
      subst hrm
      go_wp2
      go_ret2
      exact ⟨v, rfl, HV.out, HB.out⟩
end
section
variable (k m : Int) (A2 : Option Addr) (c2 : Nat) (data : List ByteArray) (w : World) (hr : Kd.C Kd.string w A2 data.length data) (hc : data.length ≤ c2)
include hr hc
set_option maxRecDepth 100000 in
set_option maxHeartbeats 1000000 in
theorem par_walk : Calls Tryd.prog 28 #[.int .i64 k, .int .i64 m, .slice A2 data.length c2] w (ParIs k m data w) := by
  have HC : Aside0 (∀ W, Calls Tryd.prog 47 #[.int .i64 k, .int .i64 m] W fun e w' => e = .returned (.bool (codeB k m)) ∧ Drawn0 W w') := ⟨fun W => stripe_code.calls _ _ _ W (code_f k m)⟩
  have HE : Aside0 (∀ W, Below w.heap.size w W → Calls Tryd.prog 50 #[.slice A2 data.length c2] W fun e w' => e = .returned (.bool (evenB data)) ∧ Drawn0 W w') := ⟨fun W hb => even_walk A2 c2 data W (Kd.C_below hr hb) hc⟩
  have hd : ∀ {w' : World}, Drawn0 w w' → Below w.heap.size w w' := fun ⟨⟨n, h⟩⟩ => by subst h; exact pw_below_drewN (Below.refl _ _) n
  unfold ParIs parityV
  cases hcb : codeB k m with
  | false =>
    rw [if_neg (by decide)]
    rw [hcb] at HC
    clear hr hc HE
    go_enter Tryd.func28, Tryd.ntmps28
    go_wp2_with fail
    refine (HC.out _).mono ?_
    rintro e w1 ⟨rfl, ⟨n1, rfl⟩⟩
    go_wp2
    go_ret2
    exact ⟨_, rfl, Kd.R_nil _ _ _ _ _, pw_below_drewN (Below.refl _ _) _⟩
  | true =>
    rw [if_pos rfl]
    rw [hcb] at HC
    by_cases hl : (data.length : Int) = k
    · cases heb : evenB data with
      | false =>
        rw [if_neg (by simp)]
        rw [heb] at HE
        have d1 : ((data.length : Int) != k) = false := by simp [hl]
        clear hr hc
        subst hl
        go_enter Tryd.func28, Tryd.ntmps28
        go_wp2_with fail
        refine (HC.out _).mono ?_
        rintro e w1 ⟨rfl, ⟨n1, rfl⟩⟩
        go_wp2_with fail
        refine (HE.out _ (pw_below_drewN (Below.refl _ _) _)).mono ?_
        rintro e w1 ⟨rfl, ⟨n2, rfl⟩⟩
        go_wp2
        go_ret2
        exact ⟨_, rfl, Kd.R_nil _ _ _ _ _, by repeat (first | exact Below.refl _ _ | apply pw_below_drewN)⟩
      | true =>
        rw [if_pos ⟨hl, rfl⟩]
        by_cases hn : (rdOf ByteArray.empty data 0).size ≤ 2052
        · rw [if_pos hn]
          obtain ⟨K, M, rfl, rfl, h1, h2⟩ := codeB_nat hcb
          have := par_main K M h1 h2 A2 c2 data w hr hc (by omega) heb hn
          simpa using this
        · rw [if_neg hn]
          rw [heb] at HE
          obtain ⟨K, M, rfl, rfl, h1, h2⟩ := codeB_nat hcb
          obtain ⟨ad, hA, hx0⟩ := Kd.at_string hr 0 (by omega) (by omega)
          subst hA
          rw [show ((0 : Int)).toNat = 0 from rfl, Addr.add_zero'] at hx0
          have HX0 : Aside0 (∀ W, Below w.heap.size w W → W.cell? ad = some (.string (rdOf ByteArray.empty data 0))) := ⟨fun W hb => pw_cell_below hb hx0⟩
          have i0 : (0 : Int) < (data.length : Int) := by omega
          have i1 : 0 < data.length := by omega
          have d1 : ((data.length : Int) != (K : Int)) = false := by simp [hl]
          rw [← hl] at *
          generalize rdOf ByteArray.empty data 0 = s0 at *
          have e2 : decide ((2052 : Int) < (s0.size : Int)) = true := by simp; omega
          clear hr hc hx0 hl
          go_enter Tryd.func28, Tryd.ntmps28
          go_wp2_with fail
          refine (HC.out _).mono ?_
          rintro e w1 ⟨rfl, ⟨n1, rfl⟩⟩
          go_wp2_with fail
          refine (HE.out _ (pw_below_drewN (Below.refl _ _) _)).mono ?_
          rintro e w1 ⟨rfl, ⟨n2, rfl⟩⟩
          have c0 := HX0.out (w.drewN (n1 + n2)) (pw_below_drewN (Below.refl _ _) _)
          go_wp2
          go_ret2
          exact ⟨_, rfl, Kd.R_nil _ _ _ _ _, by repeat (first | exact Below.refl _ _ | apply pw_below_drewN)⟩
    · rw [if_neg (fun h => hl h.1)]
      have d1 : ((data.length : Int) != k) = true := by simpa using hl
      clear hr hc HE hl
      go_enter Tryd.func28, Tryd.ntmps28
      go_wp2_with fail
      refine (HC.out _).mono ?_
      rintro e w1 ⟨rfl, ⟨n1, rfl⟩⟩
      go_wp2
      go_ret2
      exact ⟨_, rfl, Kd.R_nil _ _ _ _ _, pw_below_drewN (Below.refl _ _) _⟩
end
def stripe_Parity.f (a0 : Int) (a1 : Int) (l2 : List ByteArray) : Option (List ByteArray × Int) := some (parityV a0 a1 l2)
theorem stripe_Parity.calls (a0 : Int) (a1 : Int) (A2 : Option Addr) (c2 : Nat) (l2 : List ByteArray) (r1 : List ByteArray) (r2 : Int) (w : World) (hr2 : Kd.C Kd.string w A2 l2.length l2) (hc2 : l2.length ≤ c2) (h : stripe_Parity.f a0 a1 l2 = some (r1, r2)) :
    Calls Tryd.prog 28 #[.int .i64 a0, .int .i64 a1, .slice A2 l2.length c2] w fun e w' => ∃ v0_ : Value, e = .returned (.tuple #[v0_, .int .i64 r2]) ∧ Kd.R Kd.string 9 w' w.heap.size (fun _ => True) v0_ r1 ∧ Below w.heap.size w w' := by
  have := par_walk a0 a1 A2 c2 l2 w hr2 hc2
  unfold ParIs at this
  unfold stripe_Parity.f at h
  rw [Option.some.inj h] at this
  exact this
end Go.Proofs.YtegmmefijihdeaaDoor.PS
