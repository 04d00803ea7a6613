/- A device: Crash. -/
import Derived.Test.YteibcojjbcihbaaHFlush
import Derived.Test.YteibcojjbcihbaaHSortI
namespace Go.Proofs.Yteibcojjbcihbaa.Sec
open Go.RowKit Go.Proofs.YteibcojjbcihbaaW.PrintWords Go.Proofs.YteibcojjbcihbaaW.PrintLast Go.Proofs.YteibcojjbcihbaaW.PrintMore Go.Maps Go.WideMaps Go.Proofs.Yteibcojjbcihbaa.Mk
open Go.Proofs.Yteibcojjbcihbaa.Txn (unguard blk_newI)
open Go.Lib (byteCells byteCells_length byteCells_append byteCells_one)
set_option linter.unusedVariables false
set_option linter.unusedSimpArgs false
/-- 'copy(row[o:o+n], s)', as a step of a region that draws. -/
theorem RowB.copyStep {w : World} {g : Nat} {l : List UInt8} {ops : Array Oper} {o : Oper} {a : Act} {K : Act → World → Prop} {Q : Exit → Act → World → Prop} {E : Prop} (h : RowB w g l) (hgd : o.guard = none) (d s : Operand)
    (hop : o.op = Op.call { callee := Callee.builtin Builtin.copy, args := #[d, s], argTypes := #[97, 9] }) (off n cap : Nat) (hd : a.eval d = .slice (some ⟨g, off, none⟩) n cap) (t : ByteArray) (hs : a.eval s = .string t) (hfit : off + n ≤ l.length)
    (hK : ∀ w', RowB w' g (l.take off ++ t.data.toList.take n ++ l.drop (off + (t.data.toList.take n).length)) → w.grownBy w' (some g) → K (a.put o.dst (.int .i64 ((Nat.min t.size n : Nat) : Int))) w') :
    if Region.wanted o (yielded ops a.tmps) = true then Oper.wp Try.prog o a w K Q else E := by
  have hw : Region.wanted o (yielded ops a.tmps) = true := by simp [Region.wanted, hgd]
  rw [if_pos hw]
  have hr := run_copy_part (P := Try.prog) w 97 9 o.type 5 g off n cap t _ 5 Try.underlying97 info5 h (by rw [List.size_toArray, byteCells_length]; exact hfit)
  rw [toList_toArray, byteCells_take, byteCells_drop, ← byteCells_append, ← byteCells_append] at hr
  generalize l.take off ++ t.data.toList.take n ++ l.drop (off + (t.data.toList.take n).length) = L at *
  unfold Oper.wp
  simp [execOp, hop, resolve, invoke, builtin, hd, hs, hr, Result.andThen]
  exact hK _ (setRow_heap w g _ _ 5 (0, 0) h) ⟨rfl, rfl, rfl, by simp, fun i hi hne => setRow_other w g i _ (fun e => hne (by rw [e]))⟩
/-- How much of a sector comes over, by a pick. -/
def pickN (p : Int) : Nat := if p = 1 then 64 else ((p.tmod 64 + 64).tmod 64).toNat
theorem pick_mod (p : Int) : 0 ≤ (p.tmod 64 + 64).tmod 64 ∧ (p.tmod 64 + 64).tmod 64 < 64 := by
  have h1 := Int.tmod_lt_of_pos p (show (0:Int) < 64 by omega)
  have h2 := Int.lt_tmod_of_pos p (show (0:Int) < 64 by omega)
  have h3 := Int.tmod_lt_of_pos (p.tmod 64 + 64) (show (0:Int) < 64 by omega)
  have h4 := Int.tmod_nonneg 64 (show 0 ≤ p.tmod 64 + 64 by omega)
  exact ⟨h4, h3⟩
theorem pick_le (p : Int) : pickN p ≤ 64 := by
  unfold pickN
  split
  · omega
  · have := pick_mod p; omega
def textAt (f : Cache) (i : Int) : List UInt8 := match f i with | some s => s.data.toList | none => []
/-- The sectors behind the first j keys. -/
def torn (S : List (List UInt8)) (f : Cache) (ks picks : List Int) : Nat → List (List UInt8)
  | 0 => S
  | j + 1 => (torn S f ks picks j).set (ks.getD j 0).toNat ((textAt f (ks.getD j 0)).take (pickN (picks.getD j 0)) ++ ((torn S f ks picks j).getD (ks.getD j 0).toNat []).drop (pickN (picks.getD j 0)))
theorem torn_len (S : List (List UInt8)) (f : Cache) (ks picks : List Int) : ∀ j, (torn S f ks picks j).length = S.length
  | 0 => rfl
  | j + 1 => by unfold torn; rw [List.length_set]; exact torn_len S f ks picks j
theorem rdI (l : List Int) (k : Nat) (h : k < l.length) : l.getD k 0 = l[k] := by rw [List.getD_eq_getElem?_getD, List.getElem?_eq_getElem h, Option.getD_some]
section
variable {w : World} {b g m N sz : Nat} {S : List (List UInt8)} {f : Cache} {fuse : Int} {down : Bool}
theorem DevAt.sz_small (h : DevAt w b g m N sz S f fuse down) (hN : N ≤ 1000000) : sz ≤ 1000000 := Nat.le_trans h.cache.sz_le hN
set_option maxRecDepth 100000 in
set_option maxHeartbeats 4000000 in
theorem crash_walk (h : DevAt w b g m N sz S f fuse down) (hN : N ≤ 1000000) (A : Option Addr) (c : Nat) (picks : List Int) (hp : ∀ w', Chg w w' b g m → Kd.C (Kd.int .i64) w' A picks.length picks) :
    Calls Try.prog 30 #[.pointer (some ⟨b, 0, none⟩), .slice A picks.length c] w fun e w' => e = .returned (.tuple #[]) ∧ Chg w w' b g m ∧ ∃ ks, KeysOf ks f ∧ ks.length = sz ∧ DevAt w' b g m 0 0 (torn S f ks picks ks.length) (fun _ => none) 0 false := by
  obtain ⟨c0, c1, c2, c3⟩ := h.cells
  have H := Aside0.mk h
  have HPK := Aside0.mk hp
  have hpm := Kd.C_max (hp w (Chg.of_below (Below.refl _ _)))
  have hK := keysC_calls w m N sz f h.cache (h.sz_small hN)
  have HK := Aside0.mk hK
  clear h hp hK
  go_enter Try.func30, Try.ntmps30
  go_wp2_with fail
  refine (HK.out.1 _).mono ?_
  rintro e w1 ⟨rfl, rfl⟩
  go_wp2_with fail
  refine HK.out.2.mono ?_
  rintro e w2 ⟨v, ks, rfl, hks, hkl, hR, hb⟩
  obtain ⟨A2, c2', rfl, hlc, hC⟩ := Kd.R_reads hR
  have hkm := Kd.C_max hC
  have HR := Aside0.mk hR
  have HKS := Aside0.mk (And.intro hks hkl)
  have HC0 := Aside0.mk (Chg.of_below (b := b) (g := g) (m := m) hb)
  have H2 := Aside0.mk (H.out.below hb)
  have HLT := Aside0.mk H.out.lt
  clear hR hks hkl hb hC c0 c1 c2 c3 HK H
  have hszle := H2.out.sz_small hN
  have hkl2 : ks.length ≤ 1000000 := by rw [HKS.out.2]; exact hszle
  go_wp2
  go_loopg [15] (ks.length + 1) (fun kq v15 wr => ∃ j : Nat, v15 = .int .i64 j ∧ j ≤ ks.length ∧ j + kq = ks.length + 1 ∧ Aside0 (DevAt wr b g m N sz (torn S f ks picks j) f fuse down) ∧ Aside0 (Chg w wr b g m) ∧ Aside0 (Kd.R (Kd.int .i64) 3 wr w.heap.size (fun _ => True) (.slice A2 ks.length c2') ks))
  case atStart => exact ⟨0, rfl, Nat.zero_le _, by omega, H2, HC0, HR⟩
  case round =>
    clear H2 HC0 HR
    obtain ⟨j, rfl, hj, hjq, H2, HC0, HR⟩ := hrel
    by_cases hlt : j < ks.length
    · obtain ⟨A2', c2'', e2, hlc2, hC⟩ := Kd.R_reads HR.out
      obtain ⟨rfl, rfl⟩ : A2 = A2' ∧ c2' = c2'' := by injection e2 with e2 _ e3; exact ⟨e2, e3⟩
      obtain ⟨ad, rfl, qk⟩ := Kd.at_int hC (j : Int) (by omega) (by omega)
      rw [Int.toNat_natCast] at qk
      have hki : Go.Proofs.YteibcojjbcihbaaW.PrintWords.rd ks (j : Int) = ks.getD j 0 := by unfold Go.Proofs.YteibcojjbcihbaaW.PrintWords.rd; rw [Int.toNat_natCast]
      rw [hki] at qk
      have hmem : ks.getD j 0 ∈ ks := by rw [rdI ks j hlt]; exact List.getElem_mem hlt
      obtain ⟨s, hs⟩ := Option.isSome_iff_exists.1 ((HKS.out.1.mem _).1 hmem)
      have hck := H2.out.ok.cached _ s hs
      have htx : textAt f (ks.getD j 0) = s.data.toList := by unfold textAt; rw [hs]
      have HST : Aside0 (torn S f ks picks (j + 1) = (torn S f ks picks j).set (ks.getD j 0).toNat ((textAt f (ks.getD j 0)).take (pickN (picks.getD j 0)) ++ ((torn S f ks picks j).getD (ks.getD j 0).toNat []).drop (pickN (picks.getD j 0)))) := ⟨rfl⟩
      rw [htx] at HST
      obtain ⟨n, hn⟩ : ∃ n : Nat, ks.getD j 0 = (n : Int) := ⟨(ks.getD j 0).toNat, by omega⟩
      rw [hn] at qk hs hck HST
      rw [Int.toNat_natCast] at HST
      have hnS : n < (torn S f ks picks j).length := by omega
      have hPC := HPK.out wr HC0.out
      obtain ⟨pv, hpv⟩ : ∃ pv, pv = picks.getD j 0 := ⟨_, rfl⟩
      rw [← hpv] at HST
      have HPV := Aside0.mk hpv
      have HCK := Aside0.mk hck
      have HS := Aside0.mk hs
      clear hpv hki hmem htx hn hck hs e2 hlc2 hC
      obtain ⟨S2, hS2⟩ : ∃ x, x = torn S f ks picks (j + 1) := ⟨_, rfl⟩
      rw [← hS2] at HST
      have HSE := Aside0.mk hS2
      clear hS2
      generalize torn S f ks picks j = S' at *
      go_upto_if 23 with (fail)
      go_cut [6] (fun v6 wc => v6 = .int .i64 pv ∧ wc = wr)
      case first =>
        by_cases hjp : j < picks.length
        · obtain ⟨ap, rfl, qp⟩ := Kd.at_int hPC (j : Int) (by omega) (by omega)
          rw [Int.toNat_natCast] at qp
          have hpi : Go.Proofs.YteibcojjbcihbaaW.PrintWords.rd picks (j : Int) = pv := by rw [HPV.out]; unfold Go.Proofs.YteibcojjbcihbaaW.PrintWords.rd; rw [Int.toNat_natCast]
          rw [hpi] at qp
          clear hpi
          go_wp2
          go_meet
          case rel => exact ⟨rfl, rfl⟩
        · have h0 : pv = 0 := by rw [HPV.out, List.getD_eq_getElem?_getD, List.getElem?_eq_none (by omega)]; rfl
          have H0 := Aside0.mk h0
          clear h0
          go_wp2
          go_meet
          case rel => exact ⟨by rw [H0.out], rfl⟩
      case rest =>
        obtain ⟨rfl, rfl⟩ := hcut
        go_upto_if 33 with (fail)
        go_cut [7] (fun v7 wd => v7 = .int .i64 ((pickN pv : Nat) : Int) ∧ wd = wc)
        case first =>
          by_cases hp1 : pv = 1
          · have hN : Aside0 (pickN pv = 64) := ⟨by unfold pickN; rw [if_pos hp1]⟩
            have hp1b : (pv == 1) = true := by simpa using hp1
            clear hp1
            go_wp2
            go_meet
            case rel => exact ⟨by rw [hN.out]; rfl, rfl⟩
          · have hN : Aside0 (((pickN pv : Nat) : Int) = (pv.tmod 64 + 64).tmod 64) := ⟨by unfold pickN; rw [if_neg hp1]; have := pick_mod pv; omega⟩
            have hp1b : (pv == 1) = false := by simpa using hp1
            clear hp1
            go_wp2
            go_meet
            case rel =>
              refine ⟨?_, rfl⟩
              have e : wrap64 (pv.tmod 64 + 64) = pv.tmod 64 + 64 := by
                have h1 := Int.tmod_lt_of_pos pv (show (0:Int) < 64 by omega)
                have h2 := Int.lt_tmod_of_pos pv (show (0:Int) < 64 by omega)
                unfold wrap64
                omega
              rw [hN.out, e]
        case rest =>
          obtain ⟨rfl, rfl⟩ := hcut
          have hnp := pick_le pv
          generalize pickN pv = np at *
          have HD : Aside0 (DevAt wc.drew b g m N sz S' f fuse down) := ⟨H2.out.below (below_drew1 (Below.refl _ _))⟩
          have HI : Aside0 (-9223372036854775808 ≤ (n : Int) ∧ (n : Int) ≤ 9223372036854775807) := ⟨by have := H2.out.ok.few; omega⟩
          have hS1 : wc.drew.cell? ⟨b, 1, none⟩ = some (.map (some m)) ∧ (Instr.lookup 98 (.map (some m)) (.int .i64 (n : Int)) false).run Try.prog wc.drew = .ok (.string s) wc.drew := ⟨HD.out.cells.2.1, HD.out.cache.get (n : Int) HI.out s HS.out⟩
          have HFIT : Aside0 (64 * n + np ≤ S'.flatten.length) := ⟨by rw [flat_len S' H2.out.ok.len]; omega⟩
          have hcap : np ≤ 64 * S'.length - 64 * n := by omega
          have hb1 : (0 : Int) ≤ (np : Int) := by omega
          have hb2 : (np : Int) ≤ (64 : Int) := by omega
          have hNS := H2.out.ok.len
          have hlt2 : (s.data.toList.take np).length = np := by rw [List.length_take, Array.length_toList]; have := HCK.out.2.2; change s.data.size = 64 at this; omega
          have hput := flat_put S' n hnS (s.data.toList.take np) np hNS hlt2 hnp
          have hgd : S'.getD n [] = S'[n] := by rw [List.getD_eq_getElem?_getD, List.getElem?_eq_getElem hnS, Option.getD_some]
          have HROW : Aside0 (S'.flatten.take (64 * n) ++ s.data.toList.take np ++ S'.flatten.drop (64 * n + (s.data.toList.take np).length) = S2.flatten) := ⟨by rw [hlt2, hput, HST.out, hgd]⟩
          have HS2 : Aside0 (S2.length = S'.length ∧ ∀ q, q ∈ S2 → q.length = 64) := ⟨by
            rw [HST.out, hgd]
            refine ⟨List.length_set, fun q hq => ?_⟩
            rcases List.mem_or_eq_of_mem_set hq with hq | hq
            · exact hNS q hq
            · rw [hq, List.length_append, hlt2, List.length_drop, hNS _ (List.getElem_mem hnS)]; omega⟩
          clear qk hPC hlt2 hput hgd hNS
          go_wp2_with fail
          go_region_held3 (fun w' => w'.cell? ⟨b, 1, none⟩ = some (.map (some m)) ∧ (Instr.lookup 98 (.map (some m)) (.int .i64 (n : Int)) false).run Try.prog w' = .ok (.string s) w') (assumption)
            (first
              | (go_at_call 50; refine (bytes_walk HD.out n hnS).mono ?_; rintro e w5 ⟨rfl, rfl⟩)
              | (refine RowB.copyStep HD.out.row rfl _ _ rfl (64 * n) np (64 * S'.length - 64 * n) rfl s rfl HFIT.out ?_; intro w6 hr6 hg6; have hS6 : w6.cell? ⟨b, 1, none⟩ = some (.map (some m)) ∧ (Instr.lookup 98 (.map (some m)) (.int .i64 (n : Int)) false).run Try.prog w6 = .ok (.string s) w6 := ⟨Mk.cell_but hg6 HD.out.apart.1 HD.out.cells.2.1, (HD.out.cache.kept hg6 (some_ne HD.out.apart.2.2.symm)).get (n : Int) HI.out s HS.out⟩))
          all_goals (rw [HROW.out] at hr6)
          all_goals (have H6 : Aside0 (DevAt w6 b g m N sz S2 f fuse down) := ⟨⟨by rw [HS2.out.1]; exact blk_grown HD.out.box hg6 (some_ne HD.out.apart.1), hr6, HD.out.cache.kept hg6 (some_ne HD.out.apart.2.2.symm), ⟨HS2.out.2, by rw [HS2.out.1]; exact HD.out.ok.few, by rw [HS2.out.1]; exact HD.out.ok.some_, fun i q h => by rw [HS2.out.1]; exact HD.out.ok.cached i q h⟩, HD.out.fuse⟩⟩)
          all_goals (have HC6 : Aside0 (Chg w w6 b g m) := ⟨(HC0.out.trans (Chg.of_below (below_drew1 (Below.refl _ _)))).trans (Chg.of hg6 (fun k e => .inr (.inl (by injection e with e; exact e.symm))))⟩)
          all_goals (have HR6 : Aside0 (Kd.R (Kd.int .i64) 3 w6 w.heap.size (fun _ => True) (.slice (some ad) ks.length c2') ks) := ⟨Kd.R_mono (Kd.R_step (Kd.R_bound (Kd.R_drew HR.out)) (fun k hk hlt => hg6.block k hlt (some_ne (by have := hk.2.1; have := HLT.out; omega)))) (fun _ _ => trivial)⟩)
          all_goals clear hr6 hg6 hS6 hS1
          all_goals go_wp2
          all_goals go_roundg (gk - 1)
          all_goals first
            | (case measure => omega)
            | skip
          all_goals (case rel => exact ⟨j + 1, by go_num, by omega, by omega, ⟨by rw [← HSE.out]; exact H6.out⟩, HC6, HR6⟩)
    · obtain rfl : j = ks.length := by omega
      go_wp2_with fail
      refine (up_walk H2.out).mono ?_
      rintro e w5 ⟨rfl, hc, hd⟩
      have H5 := Aside0.mk (And.intro hc hd)
      clear hc hd
      go_wp2
      go_end0
      exact ⟨rfl, HC0.out.trans H5.out.1, ks, HKS.out.1, HKS.out.2, H5.out.2⟩
end
end Go.Proofs.Yteibcojjbcihbaa.Sec
