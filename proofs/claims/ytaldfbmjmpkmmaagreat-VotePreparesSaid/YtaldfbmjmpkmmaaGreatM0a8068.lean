/- Texts of this proof, one behind the other (merged by a program of this session). -/
import Derived.Test.YtaldfbmjmpkmmaaGreatM5d554f
namespace Go.Proofs.YtaldfbmjmpkmmaaGreat.PL
open Go.RowKit Go.Proofs.YtaldfbmjmpkmmaaGreatW.PrintWords Go.Proofs.YtaldfbmjmpkmmaaGreatW.PrintLast Go.Proofs.YtaldfbmjmpkmmaaGreatW.PrintMore Go.Shelf Go.Maps Go.WideMaps Go.Proofs.YtaldfbmjmpkmmaaGreat.Mk
set_option linter.unusedVariables false
set_option linter.unusedSimpArgs false
set_option linter.unusedSectionVars false
set_option maxRecDepth 100000 in
set_option maxHeartbeats 4000000 in
theorem room1_walk {ok : Nat → Prop} {b N : Nat} {s : Sh} (W : World) (bt bx : Nat) (ts : Int) (ht : W.cell? ⟨bt, 0, none⟩ = some (.int .i64 ts)) (hx : W.cell? ⟨bx, 0, none⟩ = some (.pointer (some ⟨b, 0, none⟩))) (h : ShAt W ok b N s) (x : Wr) (hk : x.f0.size ≤ maxLen) :
 Calls Tryz.prog 80 (#[.agg #[.string x.f0, .string x.f1, .bool x.f2]] ++ #[.pointer (some ⟨bt, 0, none⟩), .pointer (some ⟨bx, 0, none⟩)]) W fun e W' => e = .returned (.bool (decide (ts ≤ lastV (look s.K (wkey x))))) ∧ Below W.heap.size W W' := by
 obtain ⟨x0, x1, x2⟩ := x
 show Calls Tryz.prog 80 #[.agg #[.string x0, .string x1, .bool x2], .pointer (some ⟨bt, 0, none⟩), .pointer (some ⟨bx, 0, none⟩)] W (fun e W' => e = .returned (.bool (decide (ts ≤ lastV (look s.K (kb x0))))) ∧ Below W.heap.size W W')
 simp only at hk
 have hb0 := below_alloc (Below.refl _ W) (.cells #[.string x0, .string x1, .bool x2] 57)
 have hbx := blk_new W (.cells #[.string x0, .string x1, .bool x2] 57)
 obtain ⟨W1, hW1⟩ : ∃ W1, W1 = W.alloc (.cells #[.string x0, .string x1, .bool x2] 57) := ⟨_, rfl⟩
 rw [← hW1] at hb0 hbx
 have ht2 := pw_cell_below hb0 ht
 have hx2 := pw_cell_below hb0 hx
 have HT := Aside0.mk ht2
 have HX := Aside0.mk hx2
 have HBX := Aside0.mk hbx
 have HH : Aside0 (∀ W2, Below W1.heap.size W1 W2 → Calls Tryz.prog 58 #[.pointer (some ⟨b, 0, none⟩), .string x0] W2 fun e w' => e = .returned (.int .i64 (lastV (look s.K (kb x0)))) ∧ Below W2.heap.size W2 w') := ⟨fun W2 h2 => lastS_walk ((h.below hb0).below h2) x0 hk⟩
 have HB0 := Aside0.mk hb0
 have HW1 := Aside0.mk hW1
 clear h hb0 hx ht hbx hk hW1
 generalize lastV (look s.K (kb x0)) = q at *
 go_enter Tryz.func80, Tryz.ntmps80
 go_wp2_with fail
 rw [← HW1.out]
 have z0 := blk_cell HBX.out 0
 go_region_law (go_simp; go_at_call 58; refine (HH.out _ (by repeat (first | exact Below.refl _ _ | apply below_drew1))).mono ?_; rintro e w3 ⟨rfl, hb3⟩; have HB3 := Aside0.mk hb3; have ht3 := pw_cell_below hb3 (pw_cell_below (below_drew1 (Below.refl _ _)) HT.out); have hx3 := pw_cell_below hb3 (pw_cell_below (below_drew1 (Below.refl _ _)) HX.out); clear hb3)
 all_goals (try go_wp2_with fail)
 all_goals go_ret
 all_goals
  have B1 : Below W.heap.size W W1.drew := below_drew1 HB0.out
  exact ⟨rfl, B1.trans (HB3.out.mono B1.size)⟩
set_option maxRecDepth 100000 in
set_option maxHeartbeats 8000000 in
theorem room_walk {w : World} {ok : Nat → Prop} {b N : Nat} {s : Sh} (h : ShAt w ok b N s) (A : Option Addr) (c : Nat) (l : List Wr) (hr : Kd.C k57 w A l.length l) (hl : l.length ≤ 1024) (hk : ∀ x ∈ l, x.f0.size ≤ maxLen) (ts : Int) :
 Calls Tryz.prog 36 #[.pointer (some ⟨b, 0, none⟩), .slice A l.length c, .int .i64 ts] w fun e w' => e = .returned (.int .i64 (roomV s l ts)) ∧ Below w.heap.size w w' := by
 obtain ⟨w2, hw2⟩ : ∃ w2, w2 = (w.alloc (.cells #[.pointer (some ⟨b, 0, none⟩)] 27)).alloc (.cells #[.int .i64 ts] 3) := ⟨_, rfl⟩
 have hB : Below w.heap.size w w2 := by rw [hw2]; exact below_alloc (below_alloc (Below.refl _ w) _) _
 have hx1 : w2.heap[w.heap.size]? = some (.cells #[.pointer (some ⟨b, 0, none⟩)] 27 (0, 0)) := by rw [hw2]; exact blk_alloc (blk_new _ _) _
 have hx2 : w2.heap[w.heap.size + 1]? = some (.cells #[.int .i64 ts] 3 (0, 0)) := by
  rw [hw2]
  have := blk_new (w.alloc (.cells #[.pointer (some ⟨b, 0, none⟩)] 27)) (.cells #[.int .i64 ts] 3)
  simpa using this
 have HW := Aside0.mk hw2
 have HB2 := Aside0.mk hB
 have HX1 := Aside0.mk hx1
 have HX2 := Aside0.mk hx2
 have HS2 := Aside0.mk (h.below hB)
 have HR := Aside0.mk (Kd.C_below hr hB)
 have HK := Aside0.mk hk
 have HC := Aside0.mk (contains_wrR w2 A c l (.pointer (some ⟨w.heap.size + 1, 0, none⟩)) (.pointer (some ⟨w.heap.size, 0, none⟩)) (fun x => decide (ts ≤ lastV (look s.K (wkey x)))) HR.out
  (fun W hW x hx => room1_walk W _ _ ts (by rw [blk_cell (blk_below HX2.out hW) 0]; rfl) (by rw [blk_cell (blk_below HX1.out hW) 0]; rfl) (HS2.out.below hW) x (HK.out x hx)))
 have HV : Aside0 (roomV s l ts = if (l.any fun w => decide (ts ≤ lastV (look s.K (wkey w)))) = true then 110 else roomN s.K s.K.length l) := ⟨rfl⟩
 clear hw2 hB hx1 hx2 h hr hk
 generalize (l.any fun w => decide (ts ≤ lastV (look s.K (wkey w)))) = q at *
 go_enter Tryz.func36, Tryz.ntmps36
 go_wp2_with fail
 rw [← HW.out]
 refine HC.out.mono ?_
 rintro e w3 ⟨rfl, hb3⟩
 have HB3 : Aside0 (Below w.heap.size w w3) := ⟨HB2.out.trans (hb3.mono HB2.out.size)⟩
 have HS3 := Aside0.mk (HS2.out.below hb3)
 have X3 := Aside0.mk (blk_below HX1.out hb3)
 have HR3 := Aside0.mk (Kd.C_below HR.out hb3)
 clear hb3 HC HS2 HX1 HX2 HR
 cases q with
 | true =>
  have HV2 : Aside0 (roomV s l ts = 110) := ⟨by rw [HV.out]; rfl⟩
  go_wp2_with fail
  go_ret
  exact ⟨by rw [HV2.out]; rfl, HB3.out⟩
 | false =>
  have HV2 : Aside0 (roomV s l ts = roomN s.K s.K.length l) := ⟨by rw [HV.out]; rfl⟩
  clear HV
  have x0 := blk_cell X3.out 0
  obtain ⟨bk, bp, ve, fk, fp, hp⟩ := HS3.out
  have HP := Aside0.mk hp
  obtain ⟨c0, c1, c2, c3⟩ := hp.cells
  have hfew := hp.good.keys.few
  have HPL : Aside0 (((keysK s.K).map sk).length = s.K.length) := ⟨by simp [keysK]⟩
  clear hp HS3
  go_wp2_with (at_len; refine MapL.len HP.out.keys keyedS rfl _ 65 74 rfl Tryz.underlying65 rfl ((keysK s.K).map sk) HP.out.keys_nodup HP.out.keys_iff ?_; rw [HPL.out])
  clear c0 c1 c2 c3 x0
  go_loopw [7, 22] (fun v7 i wr => ∃ k n : Nat, k ≤ l.length ∧ n ≤ s.K.length + k ∧ i = .int .i64 (k : Int) ∧ v7 = .int .i64 (n : Int) ∧ Aside0 (roomN s.K s.K.length l = roomN s.K n (l.drop k)) ∧ Aside0 (Below w3.heap.size w3 wr)) (fun _ i _ => l.length - (intOf i).toNat)
  case atStart => exact ⟨0, s.K.length, Nat.zero_le _, Nat.le_refl _, rfl, rfl, ⟨rfl⟩, ⟨Below.refl _ _⟩⟩
  case round =>
   obtain ⟨k, n, hk, hn, rfl, rfl, HF, HB⟩ := hrel
   have HBW : Aside0 (Below w.heap.size w wr) := ⟨HB3.out.trans (HB.out.mono HB3.out.size)⟩
   by_cases hlt : k < l.length
   ·obtain ⟨ad, cs, rfl, hlen, hK, hc0⟩ := Kd.C_get (Kd.C_below HR3.out HB.out) (⟨⟨#[]⟩, ⟨#[]⟩, false⟩ : Wr) (k : Int) (by omega) (by omega)
    rw [Int.toNat_natCast] at hK hc0
    have hc : ∀ j u, cs[j]? = some u → wr.cell? (ad.add (k * 3 + j)) = some u := hc0
    obtain rfl := k57_open hK
    have z0 : wr.cell? (ad.add (k * 3)) = some (.string (l.getD k (⟨⟨#[]⟩, ⟨#[]⟩, false⟩ : Wr)).f0) := hc 0 _ rfl
    have z1 : wr.cell? ⟨(ad.add (k * 3)).block, (ad.add (k * 3)).off + 1, none⟩ = some (.string (l.getD k (⟨⟨#[]⟩, ⟨#[]⟩, false⟩ : Wr)).f1) := by rw [← add_field _ _ 1 (by omega)]; exact hc 1 _ rfl
    have z2 : wr.cell? ⟨(ad.add (k * 3)).block, (ad.add (k * 3)).off + 2, none⟩ = some (.bool (l.getD k (⟨⟨#[]⟩, ⟨#[]⟩, false⟩ : Wr)).f2) := by rw [← add_field _ _ 2 (by omega)]; exact hc 2 _ rfl
    have hmem : l.getD k (⟨⟨#[]⟩, ⟨#[]⟩, false⟩ : Wr) ∈ l := by simp [List.getElem?_eq_getElem hlt]
    have hdrop : l.drop k = l.getD k (⟨⟨#[]⟩, ⟨#[]⟩, false⟩ : Wr) :: l.drop (k + 1) := by
     rw [List.drop_eq_getElem_cons hlt]; simp [List.getElem?_eq_getElem hlt]
    have HF2 := HF.out
    rw [hdrop] at HF2
    generalize l.getD k (⟨⟨#[]⟩, ⟨#[]⟩, false⟩ : Wr) = x at *
    have hks := HK.out x hmem
    obtain ⟨A2, ca, hv, hle, hC⟩ := HP.out.chain (wkey x)
    have hsm := HP.out.chain_some (wkey x)
    obtain ⟨wy, hwy⟩ : ∃ wy, wy = wr.alloc (.cells #[.string x.f0, .string x.f1, .bool x.f2] 57) := ⟨_, rfl⟩
    have hby : Below w3.heap.size w3 wy := by rw [hwy]; exact below_alloc HB.out _
    have hyx : wy.heap[wr.heap.size]? = some (.cells #[.string x.f0, .string x.f1, .bool x.f2] 57 (0, 0)) := by rw [hwy]; exact blk_new _ _
    have hkm := key_sk hks
    have HM : Aside0 (∀ W, Below w3.heap.size w3 W → Sem.run Tryz.prog (Instr.lookup 65 (.map (some bk)) (.string x.f0) true) W = .ok (.tuple #[.slice A2 (look s.K (wkey x)).length ca, .bool (!(look s.K (wkey x)).isEmpty)]) W ∧ Sem.run Tryz.prog (Instr.lookup 65 (.map (some bk)) (.string x.f0) false) W = .ok (.slice A2 (look s.K (wkey x)).length ca) W) := ⟨fun W hW => by
     have h1 := MapL.get_ (MapL.below HP.out.keys hW) keyedS Tryz.underlying65 (zeroC W) hkm
     have e1 : fk (sk (kb x.f0)) = fk (sk (wkey x)) := rfl
     rw [e1, hv, hsm] at h1
     exact ⟨h1.2, h1.1⟩⟩
    have hRN : roomN s.K s.K.length l = if 1024 ≤ (look s.K (wkey x)).length ∨ 1024 < cntK s.K n x then 2 else roomN s.K (cntK s.K n x) (l.drop (k + 1)) := HF2
    have hcn : cntK s.K n x = if (look s.K (wkey x)).isEmpty = true then n + 1 else n := rfl
    have hlen0 : (look s.K (wkey x)).isEmpty = true → (look s.K (wkey x)).length = 0 := fun h => by rw [List.isEmpty_iff.1 h]; rfl
    have hlen1 := (HP.out.good.keys.look (wkey x)).len
    have HRN := Aside0.mk hRN
    have HCN := Aside0.mk hcn
    have HL0 := Aside0.mk hlen0
    have hk1 := HM.out wy.drew (below_drew1 hby)
    have hk2 := HM.out wy.drew.drew (below_drew1 (below_drew1 hby))
    obtain ⟨hk1, -⟩ := hk1
    obtain ⟨-, hk2⟩ := hk2
    obtain ⟨c0, c1, c2, c3⟩ := (HP.out.below hby).cells
    have x0 := blk_cell (blk_below X3.out hby) 0
    have y0 := blk_cell hyx 0
    have HWY := Aside0.mk hwy
    have HBY := Aside0.mk hby
    clear hwy hby hyx hkm HM hRN hcn hlen0 hv hsm hC hle hks hmem hdrop HF2 HF hK hc0 hc hlen c1 c2 c3
    generalize cntK s.K n x = cn at *
    generalize (look s.K (wkey x)).length = ln at *
    generalize (look s.K (wkey x)).isEmpty = em at *
    have hgk : decide ((ln : Int) ≥ 1024) = decide (1024 ≤ ln) := by rw [Bool.eq_iff_iff, decide_eq_true_iff, decide_eq_true_iff]; omega
    cases em with
    | true =>
     have hl0 := HL0.out rfl
     subst hl0
     rw [if_pos rfl] at HCN
     have HN1 : Aside0 (roomN s.K s.K.length l = if 1024 < n + 1 then 2 else roomN s.K (n + 1) (l.drop (k + 1))) := ⟨by rw [HRN.out, HCN.out]; simp⟩
     clear HRN HCN HL0 hgk
     have B8 : Aside0 (Below w3.heap.size w3 wy.drew.drew) := ⟨below_drew1 (below_drew1 HBY.out)⟩
     have B9 : Aside0 (Below w.heap.size w wy.drew.drew) := ⟨HB3.out.trans (B8.out.mono HB3.out.size)⟩
     by_cases hn2 : 1024 < n + 1
     ·have HN2 : Aside0 (roomV s l ts = 2) := ⟨by rw [HV2.out, HN1.out, if_pos hn2]⟩
      go_wp2_with fail
      rw [← HWY.out]
      go_region
      all_goals (try go_wp2_with fail)
      all_goals go_region
      all_goals (try go_wp2_with fail)
      all_goals go_ret
      all_goals exact ⟨by rw [HN2.out]; rfl, B9.out⟩
     ·have HN2 : Aside0 (roomN s.K s.K.length l = roomN s.K (n + 1) (l.drop (k + 1))) := ⟨by rw [HN1.out, if_neg hn2]⟩
      go_wp2_with fail
      rw [← HWY.out]
      go_region
      all_goals (try go_wp2_with fail)
      all_goals go_region
      all_goals (try go_wp2_with fail)
      go_roundw
      case rel => exact ⟨k + 1, n + 1, by omega, by omega, by go_num, by first | rfl | go_num, HN2, B8⟩
      case measure => simp [intOf]; omega
    | false =>
     rw [if_neg (by simp)] at HCN
     have HN1 : Aside0 (roomN s.K s.K.length l = if 1024 ≤ ln ∨ 1024 < n then 2 else roomN s.K n (l.drop (k + 1))) := ⟨by rw [HRN.out, HCN.out]⟩
     have B8 : Aside0 (Below w3.heap.size w3 wy.drew.drew) := ⟨below_drew1 (below_drew1 HBY.out)⟩
     have B9 : Aside0 (Below w.heap.size w wy.drew.drew) := ⟨HB3.out.trans (B8.out.mono HB3.out.size)⟩
     clear HRN HCN HL0
     by_cases hln : 1024 ≤ ln
     ·have HN2 : Aside0 (roomV s l ts = 2) := ⟨by rw [HV2.out, HN1.out, if_pos (.inl hln)]⟩
      have hgk2 : decide ((ln : Int) ≥ 1024) = true := by rw [hgk]; exact decide_eq_true hln
      clear hgk
      go_wp2_with fail
      rw [← HWY.out]
      go_region
      all_goals (try go_wp2_with fail)
      all_goals go_region
      all_goals (try go_wp2_with fail)
      all_goals go_ret
      all_goals exact ⟨by rw [HN2.out]; rfl, B9.out⟩
     ·have hgk2 : decide ((ln : Int) ≥ 1024) = false := by rw [hgk]; exact decide_eq_false hln
      clear hgk
      by_cases hn2 : 1024 < n
      ·have HN2 : Aside0 (roomV s l ts = 2) := ⟨by rw [HV2.out, HN1.out, if_pos (.inr hn2)]⟩
       go_wp2_with fail
       rw [← HWY.out]
       go_region
       all_goals (try go_wp2_with fail)
       all_goals go_region
       all_goals (try go_wp2_with fail)
       all_goals go_ret
       all_goals exact ⟨by rw [HN2.out]; rfl, B9.out⟩
      ·have HN2 : Aside0 (roomN s.K s.K.length l = roomN s.K n (l.drop (k + 1))) := ⟨by rw [HN1.out, if_neg (by omega)]⟩
       go_wp2_with fail
       rw [← HWY.out]
       go_region
       all_goals (try go_wp2_with fail)
       all_goals go_region
       all_goals (try go_wp2_with fail)
       go_roundw
       case rel => exact ⟨k + 1, n, by omega, by omega, by go_num, by first | rfl | go_num, HN2, B8⟩
       case measure => simp [intOf]; omega
   ·obtain rfl : k = l.length := by omega
    have HV3 : Aside0 (roomV s l ts = 0) := ⟨by rw [HV2.out, HF.out, List.drop_of_length_le (Nat.le_refl _)]; rfl⟩
    go_wp2
    go_ret
    exact ⟨by rw [HV3.out]; rfl, HBW.out⟩
end Go.Proofs.YtaldfbmjmpkmmaaGreat.PL
namespace Go.Proofs.YtaldfbmjmpkmmaaGreat.PL
open Go.RowKit Go.Proofs.YtaldfbmjmpkmmaaGreatW.PrintWords Go.Proofs.YtaldfbmjmpkmmaaGreatW.PrintLast Go.Proofs.YtaldfbmjmpkmmaaGreatW.PrintMore Go.Shelf Go.Maps Go.WideMaps Go.Proofs.YtaldfbmjmpkmmaaGreat.Mk
set_option linter.unusedVariables false
set_option linter.unusedSimpArgs false
set_option linter.unusedSectionVars false
section
variable {ok : Nat → Prop} {w w' w1 : World} {b N : Nat} {s : Sh} {bk bp : Nat} {ve : Value} {fk fp : Lit → Option Value}
theorem Parts.put1 (h : Parts w ok b N s bk bp ve fk fp) (hg : w.grownBy w' (some bk)) {x : Wr} {ts : Int} {u : Value} (hm : MapL Tryz.prog 9 w' bk (N + 1) (lput fk (sk (wkey x)) u))
 (hu : Kd.R k43 43 w 0 ok u (look s.K (wkey x) ++ [⟨ts, x.f1, x.f2⟩])) (hk : KOk (put1 ts s.K x)) : Parts w' ok b (N + 1) { s with K := put1 ts s.K x } bk bp ve (lput fk (sk (wkey x)) u) fp :=
 have hb : ∀ cells q, w.heap[bk]? ≠ some (.cells cells q (0, 0)) := fun cells q => h.keys.not_cells
 have hself : ∀ k : Key, (sk k).sameKey (sk k) = true := fun k => by simp [sk, Lit.sameKey]
 ⟨blk_map h.box hg hb, hm, (h.preps.kept hg (fun e => h.ne (by injection e with e; exact e.symm))).mono (Nat.le_succ _), R_map h.ends hg hb, fun q v hq => by
  unfold lput at hq
  split at hq
  ·rename_i hq2
   obtain rfl := Option.some.inj hq
   refine ⟨wkey x, WideAt.sameKey_eq hq2, (kput_keys _ _ _ _).2 (.inl rfl), ?_⟩
   show Kd.R k43 43 w' 0 ok u (look (kput s.K (wkey x) _) (wkey x))
   rw [look_kput, if_pos rfl]
   exact R_map hu hg hb
  ·rename_i hq2
   obtain ⟨k, h1, h2, h3⟩ := h.kf q v hq
   refine ⟨k, h1, (kput_keys _ _ _ _).2 (.inr h2), ?_⟩
   show Kd.R k43 43 w' 0 ok v (look (kput s.K (wkey x) _) k)
   rw [look_kput, if_neg (fun e => hq2 (by rw [h1, ← e]; exact hself _))]
   exact R_map h3 hg hb, fun k hk' => by
  unfold lput
  split
  ·rfl
  ·rename_i hq2
   rcases (kput_keys _ _ _ _).1 hk' with rfl | hk'
   ·exact absurd (hself _) hq2
   ·exact h.kt k hk', fun q v hq => by
  obtain ⟨r, h1, h2, cs, h3, h4⟩ := h.pf q v hq
  exact ⟨r, h1, h2, cs, h3, M_map h4 hg hb⟩, h.pt, h.okb, h.okk, h.okp, h.ne, ⟨hk, h.good.rise, h.good.few, h.good.recs, h.good.ends, h.good.over⟩⟩
end
set_option maxRecDepth 100000 in
set_option maxHeartbeats 8000000 in
theorem put_walk {w : World} {ok : Nat → Prop} {b N : Nat} {s : Sh} (h : ShAt w ok b N s) (hok : ∀ g, w.heap.size ≤ g → ok g) (A : Option Addr) (c : Nat) (l : List Wr) (hr : Kd.R k57 57 w 0 ok (.slice A l.length c) l) (hl : l.length ≤ 1024) (hk : ∀ x ∈ l, x.f0.size ≤ maxLen)
 (ts : Int) (hp : PutOk s.K l ts) (hN : N + l.length < maxLen) :
 Calls Tryz.prog 37 #[.pointer (some ⟨b, 0, none⟩), .slice A l.length c, .int .i64 ts] w fun e w' => e = .returned (.tuple #[]) ∧ ShAt w' ok b (N + l.length) { s with K := putV s.K l ts } ∧ Chg ok w w' ∧ Still ok w w' := by
 have HS := Aside0.mk h
 have HOK := Aside0.mk hok
 have HR := Aside0.mk hr
 have HK := Aside0.mk hk
 have HPO := Aside0.mk (And.intro (let ⟨_, _, _, _, _, hp⟩ := h; hp.good.keys) hp)
 have HNN := Aside0.mk hN
 clear h hok hr hk hp hN
 go_enter Tryz.func37, Tryz.ntmps37
 go_wp2
 go_loopw [10] (fun i wr => ∃ (k : Nat) (K : List (Key × Chain)), k ≤ l.length ∧ i = .int .i64 (k : Int) ∧ Aside0 (putV s.K l ts = putV K (l.drop k) ts ∧ KOk K ∧ PutOk K (l.drop k) ts) ∧ Aside0 (ShAt wr ok b (N + k) { s with K := K }) ∧ Aside0 (Chg ok w wr) ∧ Aside0 (Still ok w wr)) (fun i _ => l.length - (intOf i).toNat)
 case atStart => exact ⟨0, s.K, Nat.zero_le _, rfl, ⟨rfl, HPO.out.1, HPO.out.2⟩, HS, ⟨Chg.of_below (Below.refl _ _)⟩, ⟨Still.of_below (Below.refl _ _)⟩⟩
 case round =>
  obtain ⟨k, K, hk, rfl, HF, HSH, HCH, HST⟩ := hrel
  by_cases hlt : k < l.length
  ·obtain ⟨A', c', he, hle', hC'⟩ := Kd.R_reads (R_still (by decide) HR.out HST.out)
   injection he with e1 e2 e3
   subst e1 e3
   obtain ⟨ad, cs, rfl, hlen, hK, hc0⟩ := Kd.C_get hC' (⟨⟨#[]⟩, ⟨#[]⟩, false⟩ : Wr) (k : Int) (by omega) (by omega)
   rw [Int.toNat_natCast] at hK hc0
   have hc : ∀ j u, cs[j]? = some u → wr.cell? (ad.add (k * 3 + j)) = some u := hc0
   obtain rfl := k57_open hK
   have z0 : wr.cell? (ad.add (k * 3)) = some (.string (l.getD k (⟨⟨#[]⟩, ⟨#[]⟩, false⟩ : Wr)).f0) := hc 0 _ rfl
   have z1 : wr.cell? ⟨(ad.add (k * 3)).block, (ad.add (k * 3)).off + 1, none⟩ = some (.string (l.getD k (⟨⟨#[]⟩, ⟨#[]⟩, false⟩ : Wr)).f1) := by rw [← add_field _ _ 1 (by omega)]; exact hc 1 _ rfl
   have z2 : wr.cell? ⟨(ad.add (k * 3)).block, (ad.add (k * 3)).off + 2, none⟩ = some (.bool (l.getD k (⟨⟨#[]⟩, ⟨#[]⟩, false⟩ : Wr)).f2) := by rw [← add_field _ _ 2 (by omega)]; exact hc 2 _ rfl
   have hmem : l.getD k (⟨⟨#[]⟩, ⟨#[]⟩, false⟩ : Wr) ∈ l := by simp [List.getElem?_eq_getElem hlt]
   have hdrop : l.drop k = l.getD k (⟨⟨#[]⟩, ⟨#[]⟩, false⟩ : Wr) :: l.drop (k + 1) := by
    rw [List.drop_eq_getElem_cons hlt]; simp [List.getElem?_eq_getElem hlt]
   have HF2 := HF.out
   rw [hdrop] at HF2
   generalize l.getD k (⟨⟨#[]⟩, ⟨#[]⟩, false⟩ : Wr) = x at *
   obtain ⟨hf1, hf2, hf3⟩ := HF2
   obtain ⟨n1, n2⟩ := put1_ok hf2 hf3
   have hf4 : putV K (x :: l.drop (k + 1)) ts = putV (put1 ts K x) (l.drop (k + 1)) ts := rfl
   have HF3 : Aside0 (putV s.K l ts = putV (put1 ts K x) (l.drop (k + 1)) ts ∧ KOk (put1 ts K x) ∧ PutOk (put1 ts K x) (l.drop (k + 1)) ts) := ⟨hf1.trans hf4, n1, n2⟩
   have hver := hf3.ver x List.mem_cons_self
   have hlast := hf3.last x List.mem_cons_self
   have hroom := (cntK_le hf3.room).1
   have hks := HK.out x hmem
   obtain ⟨bk, bp, ve, fk, fp, hpt⟩ := HSH.out
   obtain ⟨wy, hwy⟩ : ∃ wy, wy = wr.alloc (.cells #[.string x.f0, .string x.f1, .bool x.f2] 57) := ⟨_, rfl⟩
   have hby : Below wr.heap.size wr wy := by rw [hwy]; exact below_alloc (Below.refl _ _) _
   have hyx : wy.heap[wr.heap.size]? = some (.cells #[.string x.f0, .string x.f1, .bool x.f2] 57 (0, 0)) := by rw [hwy]; exact blk_new _ _
   have HPY := Aside0.mk (hpt.below hby)
   have hkm := key_sk hks
   have HKM := Aside0.mk hkm
   obtain ⟨A2, ca, hv, hle, hC⟩ := HPY.out.chain (wkey x)
   have hco : ChainOk (look K (wkey x)) := hf2.look _
   have HADD : Aside0 (∀ W, Below wy.heap.size wy W → Calls Tryz.prog 81 #[.slice A2 (look K (wkey x)).length ca, .agg #[.int .i64 ts, .string x.f1, .bool x.f2]] W fun e w' => ∃ u, e = .returned (.tuple #[u, .int .i64 0]) ∧ Kd.R k43 43 w' W.heap.size (fun _ => True) u (look K (wkey x) ++ [⟨ts, x.f1, x.f2⟩]) ∧ Below W.heap.size W w') := ⟨fun W hW => add_walk W A2 ca (look K (wkey x)) ⟨ts, x.f1, x.f2⟩ (Kd.C_below hC hW) hle hco hver hroom hlast⟩
   have hlk : Sem.run Tryz.prog (Instr.lookup 65 (.map (some bk)) (.string x.f0) false) wy.drew = .ok (.slice A2 (look K (wkey x)).length ca) wy.drew := by
    have h1 := (MapL.get_ (MapL.below HPY.out.keys (below_drew1 (Below.refl _ _))) keyedS Tryz.underlying65 (zeroC wy.drew) hkm).1
    have e1 : fk (sk (kb x.f0)) = fk (sk (wkey x)) := rfl
    rw [e1, hv] at h1
    exact h1
   obtain ⟨c0, -, -, -⟩ := HPY.out.cells
   have y0 := blk_cell hyx 0
   have y1 := blk_cell hyx 1
   have y2 := blk_cell hyx 2
   have HYX := Aside0.mk hyx
   have HWY := Aside0.mk hwy
   have HBY := Aside0.mk hby
   have hnn : N + k < maxLen := by have := HNN.out; omega
   have HN2 := Aside0.mk hnn
   clear hnn hwy hby hyx hkm hks hpt hmem hdrop hf1 hf2 hf3 hf4 n1 n2 hver hlast hroom hv hle hC hco HF hK hc0 hc hlen hC' hle' HSH
   generalize hch0 : look K (wkey x) = ch at *
   have HQ := Aside0.mk hch0
   clear hch0
   go_wp2_with fail
   rw [← HWY.out]
   go_region_held3 (fun w' => w'.cell? ⟨b, 0, none⟩ = some (.map (some bk)) ∧ w'.cell? ⟨wr.heap.size, 0, none⟩ = some (.string x.f0) ∧ w'.cell? ⟨wr.heap.size, 1, none⟩ = some (.string x.f1) ∧ w'.cell? ⟨wr.heap.size, 2, none⟩ = some (.bool x.f2)) (first | exact ⟨c0, y0, y1, y2⟩ | exact ⟨d0, u0, u1, u2⟩ | exact ⟨e0, v0, v1, v2⟩)
    (first
     | (go_simp; go_at_call 81; refine (HADD.out _ (by repeat (first | exact Below.refl _ _ | apply below_drew1))).mono ?_; rintro e w5 ⟨u, rfl, hu, hb5⟩; have HU := Aside0.mk hu; have HB5 := Aside0.mk hb5; have HP5 := Aside0.mk ((HPY.out.below (below_drew1 (Below.refl _ _))).below hb5); obtain ⟨w6, hrun, hm6, hg6⟩ := MapL.put_ HP5.out.keys keyedS Tryz.underlying65 HN2.out HKM.out u; have HM6 := Aside0.mk hm6; have HG6 := Aside0.mk hg6; have hY5 := blk_below (blk_drew HYX.out) hb5; have hY6 := blk_map hY5 hg6 (fun _ _ => HP5.out.keys.not_cells); have hb6 := blk_map HP5.out.box hg6 (fun _ _ => HP5.out.keys.not_cells); obtain ⟨d0, -, -, -⟩ := HP5.out.cells; have u0 := blk_cell hY5 0; have u1 := blk_cell hY5 1; have u2 := blk_cell hY5 2; have e0 := blk_cell hb6 0; have v0 := blk_cell hY6 0; have v1 := blk_cell hY6 1; have v2 := blk_cell hY6 2; clear hu hm6 hg6 hY5 hY6 hb6 hb5))
   all_goals (try go_wp2_with fail)
   have B5 : Aside0 (Below wr.heap.size wr w5) := ⟨(below_drew1 HBY.out).trans (HB5.out.mono (below_drew1 HBY.out).size)⟩
   have OK5 : Aside0 (∀ g, wy.drew.heap.size ≤ g → ok g) := ⟨fun g hg => HOK.out g (Nat.le_trans HCH.out.size (Nat.le_trans (below_drew1 HBY.out).size hg))⟩
   have P6 := Aside0.mk (HP5.out.put1 HG6.out HM6.out (by have := HU.out; rw [← HQ.out] at this; exact R_new this OK5.out) HF3.out.2.1)
   have CH6 : Aside0 (Chg ok w w6) := ⟨(HCH.out.trans (Chg.of_below B5.out)).trans (Chg.of_grown HG6.out HP5.out.okk (fun _ _ _ => HP5.out.keys.not_cells))⟩
   have ST6 : Aside0 (Still ok w w6) := ⟨(HST.out.trans (Still.of_below B5.out)).trans (Still.of_grown HG6.out (fun _ _ _ => HP5.out.keys.not_cells))⟩
   go_roundw
   case rel => exact ⟨k + 1, put1 ts K x, by omega, by go_num, HF3, ⟨⟨bk, bp, ve, _, fp, P6.out⟩⟩, CH6, ST6⟩
   case measure => simp [intOf]; omega
  ·obtain rfl : k = l.length := by omega
   have HV3 : Aside0 (putV s.K l ts = K) := ⟨by rw [HF.out.1, List.drop_of_length_le (Nat.le_refl _)]; rfl⟩
   go_wp2
   go_end0
   exact ⟨rfl, by rw [HV3.out]; exact HSH.out, HCH.out, HST.out⟩
end Go.Proofs.YtaldfbmjmpkmmaaGreat.PL
