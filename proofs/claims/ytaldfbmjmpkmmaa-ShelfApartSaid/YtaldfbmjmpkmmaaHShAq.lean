/- ShelfApart: the walk. -/
import Derived.Test.YtaldfbmjmpkmmaaHShAp
namespace Go.Proofs.Ytaldfbmjmpkmmaa.PL
open Go.RowKit Go.Proofs.YtaldfbmjmpkmmaaW.PrintWords Go.Proofs.YtaldfbmjmpkmmaaW.PrintLast Go.Proofs.YtaldfbmjmpkmmaaW.PrintMore Go.Shelf Go.Maps Go.WideMaps Go.Proofs.Ytaldfbmjmpkmmaa.Mk
set_option linter.unusedVariables false
set_option linter.unusedSimpArgs false
set_option linter.unusedSectionVars false
/-- A record in a box of the law's own, its lists, and the open ones' numbers. -/
structure RecSt (a : Rec) (g : Nat) (B7 : Option Addr) (d7 : Nat) (B8 : Option Addr) (d8 : Nat) (AO : Option Addr) (nO cO : Nat) (s : Sh) (wy : World) : Prop where
  box : wy.heap[g]? = some (.cells #[.int .i64 a.f0, .int .i64 a.f1, .int .i64 a.f2, .int .i64 a.f3, .string a.f4, .string a.f5, .bool a.f6, .slice B7 a.f7.length d7, .slice B8 a.f8.length d8] 35 (0, 0))
  r7 : Kd.R Kd.string 9 wy 0 (fun _ => True) (.slice B7 a.f7.length d7) a.f7
  r8 : Kd.R k56 56 wy 0 (fun _ => True) (.slice B8 a.f8.length d8) a.f8
  ro : Kd.R (Kd.int .i64) 3 wy 0 (fun _ => True) (.slice AO nO cO) (openV s)
section
variable {a : Rec} {g : Nat} {B7 : Option Addr} {d7 : Nat} {B8 : Option Addr} {d8 : Nat} {AO : Option Addr} {nO cO : Nat} {s : Sh} {wy wx : World}
theorem RecSt.step (h : RecSt a g B7 d7 B8 d8 AO nO cO s wy) (hb : Below wy.heap.size wy wx) : RecSt a g B7 d7 B8 d8 AO nO cO s wx :=
  ⟨blk_below h.box hb, Kd.R_below h.r7 hb, Kd.R_below h.r8 hb, Kd.R_below h.ro hb⟩
theorem RecSt.map {x : Nat} (h : RecSt a g B7 d7 B8 d8 AO nO cO s wy) (hg : wy.grownBy wx (some x)) (hb : ∀ cells q, wy.heap[x]? ≠ some (.cells cells q (0, 0))) : RecSt a g B7 d7 B8 d8 AO nO cO s wx :=
  ⟨blk_map h.box hg hb, R_map h.r7 hg hb, R_map h.r8 hg hb, R_map h.ro hg hb⟩
end
set_option maxRecDepth 100000 in
set_option maxHeartbeats 16000000 in
theorem shelfApart_core (w : World) {l : List Rec} {A0 : Option Addr} {c0 : Nat} (hr0 : Kd.C k35 w A0 l.length l) (g0 : ∀ r, r ∈ l → sizesOk r) :
    Calls Try.prog 8 #[.slice A0 l.length c0] w fun e w' => e = .returned (.bool true) ∧ Below w.heap.size w w' := by
  have HMD := Aside0.mk (made_walk w A0 c0 l hr0 g0)
  have HWK := Aside0.mk works_walk
  have HOKS := Aside0.mk (madeV_ok l)
  have HPA := Aside0.mk (papart_made l)
  have hmm := @run_makeMap Try.prog
  clear hr0 g0
  generalize madeV l = s at *
  go_enter Try.func8, Try.ntmps8
  go_wp2_with fail
  refine HMD.out.mono ?_
  rintro e w2 ⟨b, rfl, hs2, hb2⟩
  have HS2 := Aside0.mk hs2
  have HB2 := Aside0.mk hb2
  clear hs2 hb2 HMD
  go_wp2_with fail
  refine (HWK.out w2).mono ?_
  rintro e w3 ⟨rfl, hb3⟩
  have HB3 : Aside0 (Below w.heap.size w w3) := ⟨HB2.out.trans (hb3.mono HB2.out.size)⟩
  have HS3 : Aside0 (ShAt w3 (fun g => g < w3.heap.size) b 960 s) := ⟨(HS2.out.below hb3).narrow (fun g _ hl => hl)⟩
  clear hb3 HS2 HB2
  obtain ⟨w5, hw5⟩ : ∃ w5, w5 = (w3.alloc (.map #[] 0)).alloc (.map #[] 0) := ⟨_, rfl⟩
  have hb5 : Below w3.heap.size w3 w5 := by rw [hw5]; exact below_alloc (below_alloc (Below.refl _ _) _) _
  have h5 : MapL Try.prog 9 w5 w3.heap.size 0 (fun _ => none) := by
    rw [hw5]
    exact (MapL.made Try.prog 9 w3).below (below_alloc (Below.refl _ _) _)
  have h5w : MapL Try.prog 9 w5 (w3.heap.size + 1) 0 (fun _ => none) := by
    rw [hw5]
    have := MapL.made Try.prog 9 (w3.alloc (.map #[] 0))
    simpa using this
  have HAP := Aside0.mk (ApSt.mk (w := w) (n0 := w3.heap.size) (HB3.out.trans (hb5.mono HB3.out.size)) h5 h5w (HS3.out.below hb5) HB3.out.size (Nat.le_refl _) (Nat.le_succ _) (by omega))
  have HOP := Aside0.mk (open_walk HAP.out.sh (by omega))
  have HW5 := Aside0.mk hw5
  clear hb5 h5 h5w hw5 HS3 HB3
  go_wp2_with fail
  rw [← HW5.out]
  refine HOP.out.mono ?_
  rintro e w6 ⟨v, rfl, hR, hb6⟩
  obtain ⟨AO, cO, rfl⟩ := Kd.R_slice hR
  have hlen : (openV s).length = s.P.length := List.length_map ..
  rw [hlen] at hR ⊢
  have HAP6 := Aside0.mk (HAP.out.step hb6)
  have HRO6 := Aside0.mk (Kd.R_lower hR (Nat.zero_le _))
  have hfew := HOKS.out.few
  clear hR hb6 HOP HAP hlen HW5
  go_wp2_with fail
  go_loopw [35] (fun i wz => ∃ (k nh nw : Nat) (fh fw : Lit → Option Value), k ≤ s.P.length ∧ nh ≤ 16 * k ∧ nw ≤ 16 * k ∧ i = .int .i64 (k : Int) ∧ Aside0 (ApSt w w3.heap.size b w3.heap.size (w3.heap.size + 1) s wz nh nw fh fw) ∧ Aside0 (HoldsOk s.P k 0 fh) ∧ Aside0 (Kd.R (Kd.int .i64) 3 wz 0 (fun _ => True) (.slice AO s.P.length cO) (openV s))) (fun i _ => s.P.length - (intOf i).toNat)
  case atStart => exact ⟨0, 0, 0, _, _, Nat.zero_le _, Nat.le_refl _, Nat.le_refl _, rfl, HAP6, ⟨fun q v hq => by cases hq⟩, HRO6⟩
  case round =>
    clear HAP6 HRO6
    obtain ⟨k, nh, nw, fh, fw, hk, hnh, hnw, rfl, HAP, HHO, HRO⟩ := hrel
    by_cases hlt : k < s.P.length
    · obtain ⟨ad, e1, hci⟩ : ∃ ad, AO = some ad ∧ wr.cell? (ad.add k) = some (.int .i64 (s.P[k]).f1) := by
        obtain ⟨A', c', e, hl', hC'⟩ := Kd.R_reads HRO.out
        injection e with e1 e2 e3
        subst e1
        obtain ⟨ad, e, hc⟩ := Kd.at_int hC' (k : Int) (by omega) (by rw [show (openV s).length = s.P.length from List.length_map ..]; omega)
        rw [Int.toNat_natCast] at hc
        refine ⟨ad, e, ?_⟩
        rw [hc]
        unfold Go.Proofs.YtaldfbmjmpkmmaaW.PrintWords.rd openV
        rw [Int.toNat_natCast, List.getD_eq_getElem?_getD, List.getElem?_map, List.getElem?_eq_getElem hlt]
        rfl
      subst e1
      have hpo := prepOf_at HOKS.out k hlt
      have hget : s.P[k]? = some s.P[k] := List.getElem?_eq_getElem hlt
      have hmem : s.P[k] ∈ s.P := List.getElem_mem hlt
      generalize s.P[k] = a at *
      have hla := prep_lists (HOKS.out.recs a hmem).1 (HOKS.out.recs a hmem).2
      have hrg := (okR_all (HOKS.out.recs a hmem).2).1
      have hpw := prep_walk HAP.out.sh a.f1 (by omega)
      rw [hpo] at hpw
      have HPW := Aside0.mk hpw
      have HGET := Aside0.mk hget
      have HMEM := Aside0.mk hmem
      have HLA := Aside0.mk hla.1
      clear hpo hget hmem hla hpw hrg
      go_wp2_with fail
      refine HPW.out.mono ?_
      rintro e w7 ⟨cs, rfl, hM, hb7⟩
      obtain ⟨v7, v8, rfl, h7, h8⟩ := k35_openM hM
      obtain ⟨B7, d7, rfl⟩ := Kd.R_slice h7
      obtain ⟨B8, d8, rfl⟩ := Kd.R_slice h8
      simp only [Option.getD_some, Option.isSome_some] at *
      obtain ⟨w8, hw8⟩ : ∃ w8, w8 = w7.alloc (.cells #[.int .i64 a.f0, .int .i64 a.f1, .int .i64 a.f2, .int .i64 a.f3, .string a.f4, .string a.f5, .bool a.f6, .slice B7 a.f7.length d7, .slice B8 a.f8.length d8] 35) := ⟨_, rfl⟩
      have hb78 : Below w7.heap.size w7 w8 := by rw [hw8]; exact below_alloc (Below.refl _ _) _
      have HB8 : Aside0 (Below wr.heap.size wr w8) := ⟨hb7.trans (hb78.mono hb7.size)⟩
      have HAP8 := Aside0.mk (HAP.out.step HB8.out)
      have HRS8 : Aside0 (RecSt a w7.heap.size B7 d7 B8 d8 (some ad) s.P.length cO s w8) := ⟨⟨by rw [hw8]; exact blk_new _ _, Kd.R_lower (Kd.R_below h7 hb78) (Nat.zero_le _), Kd.R_lower (Kd.R_below h8 hb78) (Nat.zero_le _), Kd.R_below HRO.out HB8.out⟩⟩
      have HW8 := Aside0.mk hw8
      clear hM hb7 hb78 hw8 h7 h8 hci HPW
      have hn1 : a.f8.length ≤ 16 := HLA.out.few8
      have hn2 : a.f7.length ≤ 16 := HLA.out.few7
      have y0 := blk_cell HRS8.out.box 0
      have y1 := blk_cell HRS8.out.box 1
      have y8 := blk_cell HRS8.out.box 8
      rw [HW8.out] at y0 y1 y8
      go_wp2_with fail
      rw [← HW8.out]
      clear y0 y1 y8
      go_loopw [56] (fun j wy => ∃ (j' nh' : Nat) (fh' : Lit → Option Value), j' ≤ a.f8.length ∧ nh' ≤ 16 * k + j' ∧ j = .int .i64 (j' : Int) ∧ Aside0 (ApSt w w3.heap.size b w3.heap.size (w3.heap.size + 1) s wy nh' nw fh' fw) ∧ Aside0 (HoldsOk s.P k j' fh') ∧ Aside0 (RecSt a w7.heap.size B7 d7 B8 d8 (some ad) s.P.length cO s wy)) (fun j _ => a.f8.length - (intOf j).toNat)
      case atStart => exact ⟨0, nh, fh, Nat.zero_le _, by omega, rfl, HAP8, HHO, HRS8⟩
      case round =>
        clear HAP8 HHO HRS8 HW8 HAP HRO HB8
        obtain ⟨j, nh2, fh2, hj, hnh2, rfl, HAP, HHO, HRS⟩ := hrel
        by_cases hjl : j < a.f8.length
        · obtain ⟨A', c', he, hle', hC'⟩ := Kd.R_reads HRS.out.r8
          injection he with e1 e2 e3
          subst e1 e3
          obtain ⟨ad2, cs, rfl, hlen, hK, hc0⟩ := Kd.C_get hC' (⟨⟨#[]⟩, ⟨#[]⟩, false⟩ : Wr) (j : Int) (by omega) (by omega)
          rw [Int.toNat_natCast] at hK hc0
          have hc : ∀ i u, cs[i]? = some u → wr.cell? (ad2.add (j * 3 + i)) = some u := hc0
          obtain rfl := k56_open hK
          have z0 : wr.cell? (ad2.add (j * 3)) = some (.string (a.f8.getD j (⟨⟨#[]⟩, ⟨#[]⟩, false⟩ : Wr)).f0) := hc 0 _ rfl
          have z1 : wr.cell? ⟨(ad2.add (j * 3)).block, (ad2.add (j * 3)).off + 1, none⟩ = some (.string (a.f8.getD j (⟨⟨#[]⟩, ⟨#[]⟩, false⟩ : Wr)).f1) := by rw [← add_field _ _ 1 (by omega)]; exact hc 1 _ rfl
          have z2 : wr.cell? ⟨(ad2.add (j * 3)).block, (ad2.add (j * 3)).off + 2, none⟩ = some (.bool (a.f8.getD j (⟨⟨#[]⟩, ⟨#[]⟩, false⟩ : Wr)).f2) := by rw [← add_field _ _ 2 (by omega)]; exact hc 2 _ rfl
          have hgx : a.f8[j]? = some (a.f8.getD j (⟨⟨#[]⟩, ⟨#[]⟩, false⟩ : Wr)) := by simp [List.getElem?_eq_getElem hjl]
          generalize a.f8.getD j (⟨⟨#[]⟩, ⟨#[]⟩, false⟩ : Wr) = x at *
          have hmx : x ∈ a.f8 := List.mem_of_getElem? hgx
          have hks := Nat.le_trans (key_size (HLA.out.key8 x hmx)) (show 32 ≤ maxLen by decide)
          have hnone := holds_none HPA.out HOKS.out.rise HHO.out HGET.out HLA.out.apart hgx
          have HPUT := Aside0.mk (holds_put HHO.out HGET.out hgx)
          have HV : Aside0 ((fh2 (sk (wkey x))).getD (.int .i64 0) = .int .i64 0) := ⟨by rw [hnone]; rfl⟩
          have hh0 := held_wrote HMEM.out (wrote_of hmx) false
          have hh1 := held_wrote HMEM.out (wrote_of hmx) true
          have hrd := read_held HOKS.out hh0
          have HH := Aside0.mk (And.intro hh0 (And.intro hh1 hrd))
          have HKX := Aside0.mk (key_sk hks)
          have HKS := Aside0.mk hks
          obtain ⟨wq, hwq⟩ : ∃ wq, wq = wr.alloc (.cells #[.string x.f0, .string x.f1, .bool x.f2] 56) := ⟨_, rfl⟩
          have hbq : Below wr.heap.size wr wq := by rw [hwq]; exact below_alloc (Below.refl _ _) _
          have HAPQ := Aside0.mk (HAP.out.step hbq)
          have HRSQ := Aside0.mk (HRS.out.step hbq)
          have HXQ : Aside0 (wq.heap[wr.heap.size]? = some (.cells #[.string x.f0, .string x.f1, .bool x.f2] 56 (0, 0))) := ⟨by rw [hwq]; exact blk_new _ _⟩
          have HWQ := Aside0.mk hwq
          have HNB : Aside0 (nh2 < maxLen) := ⟨Nat.lt_of_le_of_lt (show nh2 ≤ 20000 by omega) (by decide)⟩
          have x0 := blk_cell HXQ.out 0
          clear hwq hbq hc hc0 hK hlen hC' hle' hgx hmx hks hnone hh0 hh1 hrd
          go_wp2_with (first
            | (at_lookup; rw [← HWQ.out]; refine MapL.at_ HAPQ.out.holds keyedS rfl _ _ 67 3 rfl Try.underlying67 (zeroI _) rfl rfl HKX.out ?_; rw [show sk (kb x.f0) = sk (wkey x) from rfl, HV.out])
            | (at_mapUpdate; refine MapL.store HAPQ.out.holds keyedS rfl _ _ _ 67 3 rfl Try.underlying67 HNB.out rfl rfl HKX.out (.int .i64 a.f1) rfl ?_; intro w9 hm9 hg9; have HM9 := Aside0.mk hm9; have HG9 := Aside0.mk hg9; clear hm9 x0; have x0 := blk_cell (blk_map HXQ.out hg9 (fun _ _ => HAPQ.out.holds.not_cells)) 0; clear hg9))
          have HAP9 := Aside0.mk (HAPQ.out.putH HG9.out HM9.out)
          have HRS9 := Aside0.mk (HRSQ.out.map HG9.out (fun _ _ => HAPQ.out.holds.not_cells))
          have HX9 := Aside0.mk (blk_map HXQ.out HG9.out (fun _ _ => HAPQ.out.holds.not_cells))
          have hrw := read_walk HAP9.out.sh x.f0 HKS.out 1125899906842624
          rw [show kb x.f0 = wkey x from rfl, HH.out.2.2] at hrw
          refine hrw.mono ?_
          rintro e w10 ⟨rfl, hb10⟩
          obtain ⟨w11, hw11⟩ : ∃ w11, w11 = w10.alloc (.cells #[.int .i64 0, .string ⟨#[]⟩, .bool false] 29) := ⟨_, rfl⟩
          have hb1011 : Below w10.heap.size w10 w11 := by rw [hw11]; exact below_alloc (Below.refl _ _) _
          have hb11 : Below w9.heap.size w9 w11 := hb10.trans (hb1011.mono hb10.size)
          have HAP11 := Aside0.mk (HAP9.out.step hb11)
          have HRS11 := Aside0.mk (HRS9.out.step hb11)
          have HX11 := Aside0.mk (blk_below HX9.out hb11)
          have HW11 := Aside0.mk hw11
          have hz : zVer = (⟨0, ⟨#[]⟩, false⟩ : Ver) := rfl
          clear x0 hrw hb10 hb1011 hb11 hw11
          have x0 := blk_cell HX11.out 0
          rw [HW11.out] at x0
          go_wp2_with fail
          rw [← HW11.out]
          have hhw := held_walk HAP11.out.sh x.f0 false
          rw [show kb x.f0 = wkey x from rfl, HH.out.1] at hhw
          refine hhw.mono ?_
          rintro e w12 ⟨rfl, hb12⟩
          have HAP12 := Aside0.mk (HAP11.out.step hb12)
          have HRS12 := Aside0.mk (HRS11.out.step hb12)
          clear x0 hhw
          have x0 := blk_cell (blk_below HX11.out hb12) 0
          clear hb12
          go_wp2_with fail
          have hhw := held_walk HAP12.out.sh x.f0 true
          rw [show kb x.f0 = wkey x from rfl, HH.out.2.1] at hhw
          refine hhw.mono ?_
          rintro e w13 ⟨rfl, hb13⟩
          have HAP13 := Aside0.mk (HAP12.out.step hb13)
          have HRS13 := Aside0.mk (HRS12.out.step hb13)
          clear x0 hhw hb13 hz
          go_wp2_with fail
          go_roundw
          case rel => exact ⟨j + 1, nh2 + 1, _, by omega, by omega, by go_num, HAP13, HPUT, HRS13⟩
          case measure => simp [intOf]; omega
        · obtain rfl : j = a.f8.length := by omega
          have HHN := Aside0.mk (holds_next HGET.out HHO.out)
          have y7 := blk_cell HRS.out.box 7
          clear HHO
          go_wp2_with fail
          clear y7
          go_loopw [96] (fun j wy => ∃ (j' nw' : Nat) (fw' : Lit → Option Value), j' ≤ a.f7.length ∧ nw' ≤ 16 * k + j' ∧ j = .int .i64 (j' : Int) ∧ Aside0 (ApSt w w3.heap.size b w3.heap.size (w3.heap.size + 1) s wy nh2 nw' fh2 fw') ∧ Aside0 (RecSt a w7.heap.size B7 d7 B8 d8 (some ad) s.P.length cO s wy)) (fun j _ => a.f7.length - (intOf j).toNat)
          case atStart => exact ⟨0, nw, fw, Nat.zero_le _, by omega, rfl, HAP, HRS⟩
          case round =>
            clear HAP HRS
            obtain ⟨j, nw2, fw2, hj, hnw2, rfl, HAP, HRS⟩ := hrel
            by_cases hjl : j < a.f7.length
            · obtain ⟨A', c', he, hle', hC'⟩ := Kd.R_reads HRS.out.r7
              injection he with e1 e2 e3
              subst e1 e3
              obtain ⟨ad2, cs, rfl, hlen, hK, hc0⟩ := Kd.C_get hC' (⟨#[]⟩ : ByteArray) (j : Int) (by omega) (by omega)
              rw [Int.toNat_natCast] at hK hc0
              have hc : ∀ i u, cs[i]? = some u → wr.cell? (ad2.add (j * 1 + i)) = some u := hc0
              obtain rfl := strK_open hK
              have z0 : wr.cell? (ad2.add j) = some (.string (a.f7.getD j (⟨#[]⟩ : ByteArray))) := by have := hc 0 _ rfl; simpa using this
              have hmx : a.f7.getD j (⟨#[]⟩ : ByteArray) ∈ a.f7 := by simp [List.getElem?_eq_getElem hjl]
              generalize a.f7.getD j (⟨#[]⟩ : ByteArray) = x at *
              have hks := Nat.le_trans (key_size (HLA.out.key7 x hmx)) (show 32 ≤ maxLen by decide)
              have HH := Aside0.mk (held_watch HMEM.out (watch_of hmx))
              have HKX := Aside0.mk (key_sk hks)
              have HNB : Aside0 (nw2 < maxLen) := ⟨Nat.lt_of_le_of_lt (show nw2 ≤ 20000 by omega) (by decide)⟩
              clear hc hc0 hK hlen hC' hle' hmx hks
              go_wp2_with (at_mapUpdate; refine MapL.store HAP.out.watch keyedS rfl _ _ _ 67 3 rfl Try.underlying67 HNB.out rfl rfl HKX.out (.int .i64 a.f1) rfl ?_; intro w9 hm9 hg9; have HM9 := Aside0.mk hm9; have HG9 := Aside0.mk hg9; clear hm9 hg9 z0)
              have HAP9 := Aside0.mk (HAP.out.putW HG9.out HM9.out)
              have HRS9 := Aside0.mk (HRS.out.map HG9.out (fun _ _ => HAP.out.watch.not_cells))
              have hhw := held_walk HAP9.out.sh x true
              rw [HH.out] at hhw
              refine hhw.mono ?_
              rintro e w10 ⟨rfl, hb10⟩
              have HAP10 := Aside0.mk (HAP9.out.step hb10)
              have HRS10 := Aside0.mk (HRS9.out.step hb10)
              clear hhw hb10
              go_wp2_with fail
              go_roundw
              case rel => exact ⟨j + 1, nw2 + 1, _, by omega, by omega, by go_num, HAP10, HRS10⟩
              case measure => simp [intOf]; omega
            · obtain rfl : j = a.f7.length := by omega
              go_wp2_with fail
              go_roundw
              case rel => exact ⟨k + 1, nh2, nw2, fh2, fw2, by omega, by omega, by omega, by go_num, HAP, HHN, ⟨HRS.out.ro⟩⟩
              case measure => simp [intOf]; omega
    · obtain rfl : k = s.P.length := by omega
      have HOP := Aside0.mk (open_walk HAP.out.sh (by omega))
      clear HRO hlt
      go_wp2_with fail
      refine HOP.out.mono ?_
      rintro e w6 ⟨v, rfl, hR, hb6⟩
      obtain ⟨AP2, cO2, rfl⟩ := Kd.R_slice hR
      have hlen : (openV s).length = s.P.length := List.length_map ..
      rw [hlen] at hR ⊢
      have HAP6 := Aside0.mk (HAP.out.step hb6)
      have HRO6 := Aside0.mk (Kd.R_lower hR (Nat.zero_le _))
      clear hR hb6 HOP HAP hlen
      go_wp2_with fail
      go_loopw [112] (fun i wz => ∃ k : Nat, k ≤ s.P.length ∧ i = .int .i64 (k : Int) ∧ Aside0 (ApSt w w3.heap.size b w3.heap.size (w3.heap.size + 1) s wz nh nw fh fw) ∧ Aside0 (Kd.R (Kd.int .i64) 3 wz 0 (fun _ => True) (.slice AP2 s.P.length cO2) (openV s))) (fun i _ => s.P.length - (intOf i).toNat)
      case atStart => exact ⟨0, Nat.zero_le _, rfl, HAP6, HRO6⟩
      case round =>
        clear HAP6 HRO6
        obtain ⟨k, hk, rfl, HAP, HRO⟩ := hrel
        by_cases hlt : k < s.P.length
        · obtain ⟨ad, e1, hci⟩ : ∃ ad, AP2 = some ad ∧ wr.cell? (ad.add k) = some (.int .i64 (s.P[k]).f1) := by
            obtain ⟨A', c', e, hl', hC'⟩ := Kd.R_reads HRO.out
            injection e with e1 e2 e3
            subst e1
            obtain ⟨ad, e, hc⟩ := Kd.at_int hC' (k : Int) (by omega) (by rw [show (openV s).length = s.P.length from List.length_map ..]; omega)
            rw [Int.toNat_natCast] at hc
            refine ⟨ad, e, ?_⟩
            rw [hc]
            unfold Go.Proofs.YtaldfbmjmpkmmaaW.PrintWords.rd openV
            rw [Int.toNat_natCast, List.getD_eq_getElem?_getD, List.getElem?_map, List.getElem?_eq_getElem hlt]
            rfl
          subst e1
          have hpo := prepOf_at HOKS.out k hlt
          have hget : s.P[k]? = some s.P[k] := List.getElem?_eq_getElem hlt
          have hmem : s.P[k] ∈ s.P := List.getElem_mem hlt
          generalize s.P[k] = a at *
          have hla := prep_lists (HOKS.out.recs a hmem).1 (HOKS.out.recs a hmem).2
          have hrg := (okR_all (HOKS.out.recs a hmem).2).1
          have hpw := prep_walk HAP.out.sh a.f1 (by omega)
          rw [hpo] at hpw
          have HPW := Aside0.mk hpw
          have HGET := Aside0.mk hget
          have HMEM := Aside0.mk hmem
          have HLA := Aside0.mk hla.1
          clear hpo hget hmem hla hpw hrg
          go_wp2_with fail
          refine HPW.out.mono ?_
          rintro e w7 ⟨cs, rfl, hM, hb7⟩
          obtain ⟨v7, v8, rfl, h7, h8⟩ := k35_openM hM
          obtain ⟨B7, d7, rfl⟩ := Kd.R_slice h7
          obtain ⟨B8, d8, rfl⟩ := Kd.R_slice h8
          simp only [Option.getD_some, Option.isSome_some] at *
          obtain ⟨w8, hw8⟩ : ∃ w8, w8 = w7.alloc (.cells #[.int .i64 a.f0, .int .i64 a.f1, .int .i64 a.f2, .int .i64 a.f3, .string a.f4, .string a.f5, .bool a.f6, .slice B7 a.f7.length d7, .slice B8 a.f8.length d8] 35) := ⟨_, rfl⟩
          have hb78 : Below w7.heap.size w7 w8 := by rw [hw8]; exact below_alloc (Below.refl _ _) _
          have HB8 : Aside0 (Below wr.heap.size wr w8) := ⟨hb7.trans (hb78.mono hb7.size)⟩
          have HAP8 := Aside0.mk (HAP.out.step HB8.out)
          have HRS8 : Aside0 (RecSt a w7.heap.size B7 d7 B8 d8 (some ad) s.P.length cO2 s w8) := ⟨⟨by rw [hw8]; exact blk_new _ _, Kd.R_lower (Kd.R_below h7 hb78) (Nat.zero_le _), Kd.R_lower (Kd.R_below h8 hb78) (Nat.zero_le _), Kd.R_below HRO.out HB8.out⟩⟩
          have HW8 := Aside0.mk hw8
          clear hM hb7 hb78 hw8 h7 h8 hci HPW
          have hn2 : a.f7.length ≤ 16 := HLA.out.few7
          have y7 := blk_cell HRS8.out.box 7
          rw [HW8.out] at y7
          go_wp2_with fail
          rw [← HW8.out]
          clear y7
          have HA1 := Aside0.mk (prep_lists (HOKS.out.recs a HMEM.out).1 (HOKS.out.recs a HMEM.out).2).2
          go_loopw [125] (fun j wy => ∃ j' : Nat, j' ≤ a.f7.length ∧ j = .int .i64 (j' : Int) ∧ Aside0 (ApSt w w3.heap.size b w3.heap.size (w3.heap.size + 1) s wy nh nw fh fw) ∧ Aside0 (RecSt a w7.heap.size B7 d7 B8 d8 (some ad) s.P.length cO2 s wy)) (fun j _ => a.f7.length - (intOf j).toNat)
          case atStart => exact ⟨0, Nat.zero_le _, rfl, HAP8, HRS8⟩
          case round =>
            clear HAP8 HRS8 HW8 HAP HRO HB8
            obtain ⟨j, hj, rfl, HAP, HRS⟩ := hrel
            by_cases hjl : j < a.f7.length
            · obtain ⟨A', c', he, hle', hC'⟩ := Kd.R_reads HRS.out.r7
              injection he with e1 e2 e3
              subst e1 e3
              obtain ⟨ad2, cs, rfl, hlen, hK, hc0⟩ := Kd.C_get hC' (⟨#[]⟩ : ByteArray) (j : Int) (by omega) (by omega)
              rw [Int.toNat_natCast] at hK hc0
              have hc : ∀ i u, cs[i]? = some u → wr.cell? (ad2.add (j * 1 + i)) = some u := hc0
              obtain rfl := strK_open hK
              have z0 : wr.cell? (ad2.add j) = some (.string (a.f7.getD j (⟨#[]⟩ : ByteArray))) := by have := hc 0 _ rfl; simpa using this
              have hmx : a.f7.getD j (⟨#[]⟩ : ByteArray) ∈ a.f7 := by simp [List.getElem?_eq_getElem hjl]
              generalize a.f7.getD j (⟨#[]⟩ : ByteArray) = x at *
              have hks := Nat.le_trans (key_size (HLA.out.key7 x hmx)) (show 32 ≤ maxLen by decide)
              have HKX := Aside0.mk (key_sk hks)
              have hcase := holds_watch HPA.out HHO.out HMEM.out hmx
              have hz1 : (a.f1 != 0) = true := by have := HA1.out; simp; omega
              clear hc hc0 hK hlen hC' hle' hmx hks
              rcases hcase with h | h
              · have HV : Aside0 ((fh (sk (kb x))).getD (.int .i64 0) = .int .i64 0) := ⟨by rw [h]; rfl⟩
                clear h hz1
                go_wp2_with (at_lookup; refine MapL.at_ HAP.out.holds keyedS rfl _ _ 67 3 rfl Try.underlying67 (zeroI _) rfl rfl HKX.out ?_; rw [HV.out])
                go_roundw
                case rel => exact ⟨j + 1, by omega, by go_num, HAP, HRS⟩
                case measure => simp [intOf]; omega
              · have HV : Aside0 ((fh (sk (kb x))).getD (.int .i64 0) = .int .i64 a.f1) := ⟨by rw [h]; rfl⟩
                clear h
                have hlk := (MapL.get_ HAP.out.holds keyedS Try.underlying67 (zeroI wr) HKX.out).1
                rw [HV.out] at hlk
                go_wp2_with fail
                go_roundw
                case rel => exact ⟨j + 1, by omega, by go_num, HAP, HRS⟩
                case measure => simp [intOf]; omega
            · obtain rfl : j = a.f7.length := by omega
              go_wp2_with fail
              go_roundw
              case rel => exact ⟨k + 1, by omega, by go_num, HAP, ⟨HRS.out.ro⟩⟩
              case measure => simp [intOf]; omega
        · obtain rfl : k = s.P.length := by omega
          have HB := Aside0.mk HAP.out.below
          go_wp2
          go_ret
          exact ⟨rfl, HB.out⟩
theorem shelfApart_walk (w : World) {l : List Rec} {A0 : Option Addr} {c0 : Nat} (hc0 : l.length ≤ c0) (hr0 : Kd.C k35 w A0 l.length l) (g0 : l.length * 120 ≤ 140737488351232 ∧ ∀ r, r ∈ l → okRec r) :
    Calls Try.prog 8 #[.slice A0 l.length c0] w fun e w' => e = .returned (.bool true) ∧ Below w.heap.size w w' := shelfApart_core w hr0 (fun r hr => sizesOk_rec (g0.2 r hr))
end Go.Proofs.Ytaldfbmjmpkmmaa.PL
