/- TxnPlays: the law's walk. -/
import Derived.Test.YteibcojjbcihbaaHStepT
import Derived.Test.YteibcojjbcihbaaHWorksT
namespace Go.Proofs.Yteibcojjbcihbaa.PT
open Go.RowKit Go.Proofs.YteibcojjbcihbaaW.PrintWords Go.Proofs.YteibcojjbcihbaaW.PrintLast Go.Proofs.YteibcojjbcihbaaW.PrintMore Go.Maps
open Mk (Up up_ext)
open Go.Proofs.Yteibcojjbcihbaa.Txn (Tab TabAt TxnAt tput it0 keyB wrongV noteV writeV getV unguard newBad k30 S30 at30 rd30 rd30_nat okAct bytesOfL)
attribute [local go_sem] Mk.str_leq Mk.str_gtr Mk.str_geq
set_option linter.unusedVariables false
set_option linter.unusedSimpArgs false
theorem bytes_keys (l : List S96) : bytesOfL (keysR l) = l.map (·.f0) := by
  unfold bytesOfL keysR
  rw [List.map_map]
  exact List.map_congr_left (fun x _ => by simp [kb])
theorem keys_are {ks : List (List UInt8)} {l : List S96} (h1 : Up ks) (h2 : ∀ x, x ∈ ks ↔ (lookR l x).isSome = true) (hu : Up (keysR l)) : bytesOfL ks = l.map (·.f0) := by
  rw [up_ext h1 hu (fun x => by rw [h2, look_mem])]
  exact bytes_keys l
set_option maxRecDepth 100000 in
/-- Ts. -/
theorem ts_walk (w : World) (b br bw : Nat) (num ts : Int) (N sr sw : Nat) (fr fw : Tab) (h : TxnAt w b br bw num ts N sr sw fr fw) : Calls Try.prog 22 #[.pointer (some ⟨b, 0, none⟩)] w fun e w' => e = .returned (.int .i64 ts) ∧ Below w.heap.size w w' := by
  obtain ⟨c1, c2, c3, c0⟩ := h.cells
  clear h
  go_enter Try.func22, Try.ntmps22
  go_wp2
  go_ret
  exact ⟨rfl, Below.refl _ _⟩
set_option maxRecDepth 100000 in
set_option maxHeartbeats 8000000 in
theorem txnPlays_walk (w : World) (n t : Int) {A0 : Option Addr} {c0 : Nat} {l : List S30} (hc0 : l.length ≤ c0) (hr0 : Kd.C k30 w A0 l.length l) (hg0 : l.length * 48 ≤ 140737488351232 ∧ ∀ r, r ∈ l → okAct r) :
    Calls Try.prog 4 #[.agg #[.int .i64 n, .int .i64 t], .slice A0 l.length c0] w fun e w' => e = .returned (.bool true) ∧ Below w.heap.size w w' := by
  have HR := Aside0.mk hr0
  have HG := Aside0.mk hg0.2
  have hl := Kd.C_max hr0
  clear hr0 hg0 hc0
  cases hbad : newBad n t with
  | true =>
    have HBD := Aside0.mk hbad
    clear hbad
    go_enter Try.func4, Try.ntmps4
    go_wp2_with fail
    refine (Txn.new_bad _ n t HBD.out).mono ?_
    rintro e w1 ⟨rfl, hb⟩
    have HX := Aside0.mk (blk_below (blk_new w (.cells #[.int .i64 n, .int .i64 t] 44)) hb)
    have HB : Aside0 (Below w.heap.size w w1) := ⟨(below_alloc (Below.refl _ w) _).trans (hb.mono (by simp))⟩
    clear hb
    obtain ⟨q0, q1⟩ := Txn.two_cells HX.out
    go_wp2_with fail
    refine (refNew_bad _ n t HBD.out).mono ?_
    rintro e w2 ⟨rfl, hb⟩
    have HB2 : Aside0 (Below w.heap.size w w2) := ⟨HB.out.trans (hb.mono HB.out.size)⟩
    clear hb HB HX q0 q1
    go_wp2_with fail
    refine (Txn.works_walk w2).mono ?_
    rintro e w3 ⟨rfl, hb⟩
    have HB3 : Aside0 (Below w.heap.size w w3) := ⟨HB2.out.trans (hb.mono HB2.out.size)⟩
    clear hb HB2
    go_wp2
    go_loopw [9] (fun i wr => i = .int .i64 0 ∧ wr = w3) (fun _ _ => 0)
    case atStart => exact ⟨rfl, rfl⟩
    case round =>
      obtain ⟨rfl, rfl⟩ := hrel
      go_wp2
      go_ret
      exact ⟨rfl, HB3.out⟩
  | false =>
    have HBD := Aside0.mk hbad
    clear hbad
    go_enter Try.func4, Try.ntmps4
    go_wp2_with fail
    refine (Txn.new_walk _ n t HBD.out).mono ?_
    rintro e w1 ⟨hb, b, br, bw, hb1, hb2, hb3, rfl, ht⟩
    have HX := Aside0.mk (blk_below (blk_new w (.cells #[.int .i64 n, .int .i64 t] 44)) hb)
    have HB : Aside0 (Below w.heap.size w w1) := ⟨(below_alloc (Below.refl _ w) _).trans (hb.mono (by simp))⟩
    have HT := Aside0.mk ht
    have HL : Aside0 (w.heap.size ≤ br ∧ w.heap.size ≤ bw) := ⟨by simp at hb2 hb3; omega⟩
    clear hb hb1 hb2 hb3 ht
    obtain ⟨q0, q1⟩ := Txn.two_cells HX.out
    go_wp2_with fail
    refine (refNew_walk _ n t HBD.out).mono ?_
    rintro e w2 ⟨hb, rb, hb1, rfl, hrf⟩
    have HP : Aside0 (PairAt w w2 b br bw rb n t 0 (.slice none 0 0) (.slice none 0 0) [] []) := ⟨⟨HT.out.below hb, hrf, List.Pairwise.nil, List.Pairwise.nil, Nat.zero_le _, Nat.zero_le _, HB.out.trans (hb.mono HB.out.size), HL.out.1, HL.out.2, Nat.le_trans HB.out.size hb1⟩⟩
    clear hb hb1 HB HX HT HL q0 q1 hrf
    go_wp2_with fail
    refine (Txn.works_walk w2).mono ?_
    rintro e w3 ⟨rfl, hb⟩
    have HP3 := Aside0.mk (HP.out.below hb)
    clear hb HP
    go_wp2
    go_loopg [9] (l.length + 1) (fun kq v9 wr => ∃ (k : Nat) (vR vW : Value) (R W : List S96), v9 = .int .i64 k ∧ k ≤ 100 ∧ k ≤ l.length ∧ k + kq = l.length + 1 ∧ Aside0 (PairAt w wr b br bw rb n t k vR vW R W))
    case atStart => exact ⟨0, _, _, _, _, rfl, by omega, by omega, by omega, HP3⟩
    case round =>
      clear HP3
      obtain ⟨k, vR, vW, R, W, rfl, hk100, hk, hkq, HP⟩ := hrel
      by_cases hlt : k < l.length ∧ k < 100
      · obtain ⟨hlt, hlt2⟩ := hlt
        obtain ⟨ad, rfl, q0, q1, q2, q3⟩ := at30 (Kd.C_below HR.out HP.out.bel) (k : Int) (by omega) (by omega)
        obtain ⟨x, hx⟩ : ∃ x, x = rd30 l (k : Int) := ⟨_, rfl⟩
        have HX : Aside0 (okAct x) := ⟨by rw [hx, rd30_nat l k hlt]; exact HG.out _ (List.getElem_mem hlt)⟩
        rw [Int.toNat_natCast] at q0 q1 q2 q3
        rw [← hx] at q0 q1 q2 q3
        clear hx
        obtain ⟨kd, key, val, fd⟩ := x
        have HS : Aside0 (key.size ≤ maxLen ∧ val.size ≤ maxLen ∧ k < maxLen) := ⟨Nat.le_trans HX.out.1 (by decide), Nat.le_trans HX.out.2 (by decide), by unfold maxLen; omega⟩
        go_wp2_with fail
        refine (step_walk w wr b br bw rb n t k vR vW R W HP.out kd key val fd HS.out.1 HS.out.2.1 HS.out.2.2).mono ?_
        rintro e ws ⟨vR1, vW1, R1, W1, rfl, hp⟩
        clear q0 q1 q2 q3 HP HX HS
        obtain ⟨A, c, rfl, hlc, hC⟩ := Kd.R_reads hp.ref.rr
        obtain ⟨B, d, rfl, hld, hD⟩ := Kd.R_reads hp.ref.ww
        have HP := Aside0.mk hp
        have HCC := Aside0.mk (And.intro hC hD)
        have HLC := Aside0.mk (And.intro hlc hld)
        clear hp hC hD hlc hld
        obtain ⟨K1, hK1⟩ := keys_f R1 (by have := HP.out.lR; omega)
        obtain ⟨K2, hK2⟩ := keys_f W1 (by have := HP.out.lW; omega)
        have hL1 : (R1.map (·.f0)).length ≤ 16 := by rw [List.length_map]; exact HP.out.lR
        have hL2 : (W1.map (·.f0)).length ≤ 16 := by rw [List.length_map]; exact HP.out.lW
        have HL1 : Aside0 (∀ ks, Up ks → (∀ x, x ∈ ks ↔ (lookR R1 x).isSome = true) → bytesOfL ks = R1.map (·.f0)) := ⟨fun ks h1 h2 => keys_are h1 h2 HP.out.upR⟩
        have HL2 : Aside0 (∀ ks, Up ks → (∀ x, x ∈ ks ↔ (lookR W1 x).isSome = true) → bytesOfL ks = W1.map (·.f0)) := ⟨fun ks h1 h2 => keys_are h1 h2 HP.out.upW⟩
        have HK1 : Aside0 (corncribref23_Keys.f K1 R1 = some (R1.map (·.f0)) ∧ corncribref23_Keys.f K2 W1 = some (W1.map (·.f0))) := ⟨hK1 K1 (Nat.le_refl _), hK2 K2 (Nat.le_refl _)⟩
        clear hK1 hK2
        generalize R1.map (·.f0) = L1 at *
        generalize W1.map (·.f0) = L2 at *
        obtain ⟨K3, hK3⟩ := sameTexts_f L1 (by omega)
        obtain ⟨K4, hK4⟩ := sameTexts_f L2 (by omega)
        obtain ⟨sp, K5, hK5⟩ := spoil_f L1 (by omega)
        have HK : Aside0 (corncribbook_SameTexts.f K3 L1 L1 = some true ∧ corncribbook_SameTexts.f K4 L2 L2 = some true ∧ corncribbook_SpoilTexts.f K5 L1 = some sp) :=
          ⟨hK3 K3 (Nat.le_refl _), hK4 K4 (Nat.le_refl _), hK5 K5 (Nat.le_refl _)⟩
        clear hK3 hK4 hK5
        go_wp2_with fail
        refine (Txn.reads_walk ws b br bw n t _ _ _ _ _ HP.out.txn (by omega)).mono ?_
        rintro e w5 ⟨v5, ks5, rfl, h1, h2, h3, h4, h5⟩
        rw [HL1.out _ h1 h2] at h4
        have HO5 := Aside0.mk h4
        obtain ⟨A5, c5, rfl, hlc5, hC5⟩ := Kd.R_reads h4
        have HC5 := Aside0.mk (And.intro hC5 hlc5)
        have HB5 := Aside0.mk h5
        clear h1 h2 h3 h4 h5 hlc5 hC5
        have HPd : Aside0 (PairAt w w5.drew b br bw rb n t (k + 1) (.slice A R1.length c) (.slice B W1.length d) R1 W1) := ⟨(HP.out.below HB5.out).below (below_drew1 (Below.refl _ _))⟩
        have HBd : Aside0 (Below ws.heap.size ws w5.drew) := ⟨below_drew1 HB5.out⟩
        have hkN : k + 1 ≤ 1000000 := by omega
        have s5 : w5.drew.cell? ⟨rb, 1, none⟩ = some (.int .i64 t) ∧ w5.drew.cell? ⟨rb, 2, none⟩ = some (.slice A R1.length c) ∧ w5.drew.cell? ⟨rb, 3, none⟩ = some (.slice B W1.length d) := ⟨HPd.out.ref.cells.1, HPd.out.ref.cells.2.1, HPd.out.ref.cells.2.2.1⟩
        go_wp2_with fail
        go_region_held3 (fun w' => w'.cell? ⟨rb, 1, none⟩ = some (.int .i64 t) ∧ w'.cell? ⟨rb, 2, none⟩ = some (.slice A R1.length c) ∧ w'.cell? ⟨rb, 3, none⟩ = some (.slice B W1.length d)) (assumption)
          (first
            | (go_at_call 22; refine (ts_walk _ b br bw n t _ _ _ _ _ HP10.out.txn).mono ?_; rintro e w11 ⟨rfl, hb11⟩; have HP11 := Aside0.mk (HP10.out.below hb11); have HB11 := Aside0.mk (HB10.out.trans (hb11.mono HB10.out.size)); have s11 : w11.cell? ⟨rb, 1, none⟩ = some (.int .i64 t) ∧ w11.cell? ⟨rb, 2, none⟩ = some (.slice A R1.length c) ∧ w11.cell? ⟨rb, 3, none⟩ = some (.slice B W1.length d) := ⟨HP11.out.ref.cells.1, HP11.out.ref.cells.2.1, HP11.out.ref.cells.2.2.1⟩; have HO11 := Aside0.mk (Kd.R_below HO10.out hb11); clear hb11)
            | (go_at_call 20; refine (corncribbook_SameTexts.calls K4 A8 c8 L2 A9 c9 L2 true _ HC9.out.2.2 HC8.out.2 HC9.out.1 HC9.out.2.1 HK.out.2.1).mono ?_; rintro e w10 ⟨rfl, n10, rfl⟩; have HP10 := Aside0.mk (HP9.out.below (pw_below_drewN (Below.refl _ _) n10)); have HB10 := Aside0.mk (HB9.out.trans ((pw_below_drewN (Below.refl _ w9) n10).mono HB9.out.size)); have s10 : (w9.drewN n10).cell? ⟨rb, 1, none⟩ = some (.int .i64 t) ∧ (w9.drewN n10).cell? ⟨rb, 2, none⟩ = some (.slice A R1.length c) ∧ (w9.drewN n10).cell? ⟨rb, 3, none⟩ = some (.slice B W1.length d) := ⟨HP10.out.ref.cells.1, HP10.out.ref.cells.2.1, HP10.out.ref.cells.2.2.1⟩; have HO10 := Aside0.mk (Kd.R_drewN HO9.out n10))
            | (go_at_call 21; refine (corncribref23_Keys.calls K2 B d W1 _ _ (Kd.C_below HCC.out.2 HB8.out) HLC.out.2 HK1.out.2).mono ?_; rintro e w9 ⟨v9, rfl, ho9, hb9⟩; obtain ⟨A9, c9, rfl, hlc9, hC9⟩ := Kd.R_reads ho9; have HP9 := Aside0.mk (HP8.out.below hb9); have HB9 := Aside0.mk (HB8.out.trans (hb9.mono HB8.out.size)); have HC9 := Aside0.mk (And.intro hC9 (And.intro hlc9 (Kd.C_below HC8.out.1 hb9))); have s9 : w9.cell? ⟨rb, 1, none⟩ = some (.int .i64 t) ∧ w9.cell? ⟨rb, 2, none⟩ = some (.slice A R1.length c) ∧ w9.cell? ⟨rb, 3, none⟩ = some (.slice B W1.length d) := ⟨HP9.out.ref.cells.1, HP9.out.ref.cells.2.1, HP9.out.ref.cells.2.2.1⟩; have HO9 := Aside0.mk (Kd.R_below HO8.out hb9); clear ho9 hb9 hlc9 hC9)
            | (go_at_call 17; refine (Txn.writes_walk _ b br bw n t _ _ _ _ _ HP7.out.txn hkN).mono ?_; rintro e w8 ⟨v8, ks8, rfl, h1, h2, h3, h4, h5⟩; rw [HL2.out _ h1 h2] at h4; obtain ⟨A8, c8, rfl, hlc8, hC8⟩ := Kd.R_reads h4; have HC8 := Aside0.mk (And.intro hC8 hlc8); have HP8 := Aside0.mk (HP7.out.below h5); have HB8 := Aside0.mk (HB7.out.trans (h5.mono HB7.out.size)); have s8 : w8.cell? ⟨rb, 1, none⟩ = some (.int .i64 t) ∧ w8.cell? ⟨rb, 2, none⟩ = some (.slice A R1.length c) ∧ w8.cell? ⟨rb, 3, none⟩ = some (.slice B W1.length d) := ⟨HP8.out.ref.cells.1, HP8.out.ref.cells.2.1, HP8.out.ref.cells.2.2.1⟩; have HO8 := Aside0.mk (Kd.R_below HO7.out h5); clear h1 h2 h3 h4 h5 hlc8 hC8)
            | (go_at_call 20; refine (corncribbook_SameTexts.calls K3 A5 c5 L1 A6 c6 L1 true _ HC6.out.2.2 HC5.out.2 HC6.out.1 HC6.out.2.1 HK.out.1).mono ?_; rintro e w7 ⟨rfl, n7, rfl⟩; have HP7 := Aside0.mk (HP6.out.below (pw_below_drewN (Below.refl _ _) n7)); have HB7 := Aside0.mk (HB6.out.trans ((pw_below_drewN (Below.refl _ w6) n7).mono HB6.out.size)); have s7 : (w6.drewN n7).cell? ⟨rb, 1, none⟩ = some (.int .i64 t) ∧ (w6.drewN n7).cell? ⟨rb, 2, none⟩ = some (.slice A R1.length c) ∧ (w6.drewN n7).cell? ⟨rb, 3, none⟩ = some (.slice B W1.length d) := ⟨HP7.out.ref.cells.1, HP7.out.ref.cells.2.1, HP7.out.ref.cells.2.2.1⟩; have HO7 := Aside0.mk (Kd.R_drewN HO6.out n7))
            | (go_at_call 21; refine (corncribref23_Keys.calls K1 A c R1 _ _ (Kd.C_below HCC.out.1 HBd.out) HLC.out.1 HK1.out.1).mono ?_; rintro e w6 ⟨v6, rfl, ho6, hb6⟩; obtain ⟨A6, c6, rfl, hlc6, hC6⟩ := Kd.R_reads ho6; have HP6 := Aside0.mk (HPd.out.below hb6); have HB6 := Aside0.mk (HBd.out.trans (hb6.mono HBd.out.size)); have HC6 := Aside0.mk (And.intro hC6 (And.intro hlc6 (Kd.C_below (Kd.C_drew HC5.out.1) hb6))); have s6 : w6.cell? ⟨rb, 1, none⟩ = some (.int .i64 t) ∧ w6.cell? ⟨rb, 2, none⟩ = some (.slice A R1.length c) ∧ w6.cell? ⟨rb, 3, none⟩ = some (.slice B W1.length d) := ⟨HP6.out.ref.cells.1, HP6.out.ref.cells.2.1, HP6.out.ref.cells.2.2.1⟩; have HO6 := Aside0.mk (Kd.R_below (Kd.R_drew HO5.out) hb6); clear ho6 hb6 hlc6 hC6))
        clear s5 s6 s7 s8 s9 s10 s11
        clear HP6 HB6 HC6 HP7 HB7 HP8 HB8 HC8 HP9 HB9 HC9 HP10 HB10 HO6 HO7 HO8 HO9 HO10 HP11
        go_wp2_with fail
        refine (corncribbook_SpoilTexts.calls K5 (fun _ => True) _ L1 sp ws w11 HB11.out HO11.out HK.out.2.2).mono ?_
        rintro e w12 ⟨rfl, _, hb12, _⟩
        have HP12 := Aside0.mk (HP.out.below hb12)
        clear hb12
        go_wp2
        go_roundg (gk - 1)
        case measure => omega
        case rel => exact ⟨k + 1, _, _, R1, W1, by go_num, by omega, by omega, by omega, HP12⟩
      · have h100 : k = l.length ∨ (k < l.length ∧ k = 100) := by omega
        rcases h100 with rfl | ⟨h100, rfl⟩
        · go_wp2
          go_ret
          exact ⟨rfl, HP.out.bel⟩
        · go_wp2
          go_ret
          exact ⟨rfl, HP.out.bel⟩
end Go.Proofs.Yteibcojjbcihbaa.PT
