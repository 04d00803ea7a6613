/- Texts of this proof, one behind the other (merged by a program of this session). -/
import Derived.Test.YtaldfbmjmpkmmaaGreatHRfE
import Derived.Test.YtaldfbmjmpkmmaaGreatHShU
namespace Go.Proofs.YtaldfbmjmpkmmaaGreat.PL
open Go.RowKit Go.Proofs.YtaldfbmjmpkmmaaGreatW.PrintWords Go.Proofs.YtaldfbmjmpkmmaaGreatW.PrintLast Go.Proofs.YtaldfbmjmpkmmaaGreatW.PrintMore
set_option linter.unusedVariables false
set_option linter.unusedSimpArgs false
set_option linter.unusedSectionVars false
theorem infoKC : (Tryz.prog.info? 133).map (fun i => (i.zero, i.size, i.bytes)) = some (some (.agg #[.string ⟨#[]⟩, .slice none 0 0]), 2, 40) := by kernel_rfl
theorem infoRc : (Tryz.prog.info? 26).map (fun i => (i.zero, i.size, i.bytes)) = some (some (.agg #[.int .i64 0, .int .i64 0, .int .i64 0, .int .i64 0, .string ⟨#[]⟩, .string ⟨#[]⟩, .bool false, .slice none 0 0, .slice none 0 0]), 9, 120) := by kernel_rfl
theorem infoEd : (Tryz.prog.info? 135).map (fun i => (i.zero, i.size, i.bytes)) = some (some (.agg #[.int .i64 0, .int .i64 0]), 2, 16) := by kernel_rfl
section
variable {α : Type} {d : Kd α} {e base : Nat} {w w9 : World} {ok : Nat → Prop} {A : Option Addr} {n m c : Nat} {xs : List α}
theorem F_take (h : Kd.F d w ok A xs.length xs) (hm : m ≤ xs.length) : Kd.F d w ok A (xs.take m).length (xs.take m) := fun W hW => Kd.C_take (h W hW) hm
theorem F_drop (h : Kd.F d w ok A xs.length xs) (hm : m ≤ xs.length) (hc : xs.length ≤ c) : Kd.F d w ok (if c = m then A else A.map (·.add (m * d.sz))) (xs.drop m).length (xs.drop m) := fun W hW => Kd.C_drop (h W hW) hm hc
theorem N_F (h : Kd.N d e w base ok (.slice A n c) xs) : Kd.F d w ok A xs.length xs := fun W hW => (Kd.N_reads' (Kd.N_step h hW)).2.2
theorem R_F (h : Kd.R d e w base ok (.slice A n c) xs) : Kd.F d w ok A xs.length xs := fun W hW => (Kd.R_reads' (Kd.R_step h hW)).2.2
end
section
variable {w w9 : World} {ok : Nat → Prop} {b : Nat} {s : Sh} {AK AP AE A3 : Option Addr} {cK cP cE c3 : Nat}
theorem RfP.setK (h : RfP w ok b s AK AP AE cK cP cE) (hb : Below w.heap.size w w9) {K' : List KC} (hF : Kd.F kKC w9 (fun g => ok g ∧ g ≠ b) A3 K'.length K') (hl : K'.length ≤ c3) (hs : ShOk { s with K := K' }) :
 RfP (w9.setCell ⟨b, 0, none⟩ (.slice A3 K'.length c3)) ok b { s with K := K' } A3 AP AE c3 cP cE :=
 have h9 := h.below hb
 ⟨blk_put h9.box 0 _ rfl, hl, h9.lP, h9.lE, Kd.F_step hF (fun k hk _ => Below.heap_setCell w9 ⟨b, 0, none⟩ _ k hk.2), Kd.F_step h9.fP (fun k hk _ => Below.heap_setCell w9 ⟨b, 0, none⟩ _ k hk.2), Kd.F_step h9.fE (fun k hk _ => Below.heap_setCell w9 ⟨b, 0, none⟩ _ k hk.2), h9.okb, h9.pos, h9.few, hs⟩
theorem RfP.setP (h : RfP w ok b s AK AP AE cK cP cE) (hb : Below w.heap.size w w9) {P' : List Rec} (hF : Kd.F k26 w9 (fun g => ok g ∧ g ≠ b) A3 P'.length P') (hl : P'.length ≤ c3) (hs : ShOk { s with P := P' }) :
 RfP (w9.setCell ⟨b, 1, none⟩ (.slice A3 P'.length c3)) ok b { s with P := P' } AK A3 AE cK c3 cE :=
 have h9 := h.below hb
 ⟨blk_put h9.box 1 _ rfl, h9.lK, hl, h9.lE, Kd.F_step h9.fK (fun k hk _ => Below.heap_setCell w9 ⟨b, 1, none⟩ _ k hk.2), Kd.F_step hF (fun k hk _ => Below.heap_setCell w9 ⟨b, 1, none⟩ _ k hk.2), Kd.F_step h9.fE (fun k hk _ => Below.heap_setCell w9 ⟨b, 1, none⟩ _ k hk.2), h9.okb, h9.pos, h9.few, hs⟩
theorem RfP.setO (h : RfP w ok b s AK AP AE cK cP cE) (hb : Below w.heap.size w w9) {t : Int} (hs : ShOk { s with over := t }) :
 RfP (w9.setCell ⟨b, 3, none⟩ (.int .i64 t)) ok b { s with over := t } AK AP AE cK cP cE :=
 have h9 := h.below hb
 ⟨blk_put h9.box 3 _ rfl, h9.lK, h9.lP, h9.lE, Kd.F_step h9.fK (fun k hk _ => Below.heap_setCell w9 ⟨b, 3, none⟩ _ k hk.2), Kd.F_step h9.fP (fun k hk _ => Below.heap_setCell w9 ⟨b, 3, none⟩ _ k hk.2), Kd.F_step h9.fE (fun k hk _ => Below.heap_setCell w9 ⟨b, 3, none⟩ _ k hk.2), h9.okb, h9.pos, h9.few, hs⟩
theorem Chg0.box_set (hb : Below w.heap.size w w9) (i : Nat) (v : Value) : Chg0 (fun g => g = b) w (w9.setCell ⟨b, i, none⟩ v) := (Chg0.of_below hb).trans (Chg0.of_grown (grown_set w9 ⟨b, i, none⟩ v) rfl)
end
theorem room_one {s : Sh} (x : Wr) (ts : Int) (hK : s.K.length ≤ 1024) : roomV s [x] ts = if ts ≤ lastV (look s.K (wkey x)) then 110 else if 1024 ≤ (look s.K (wkey x)).length then 2 else if (look s.K (wkey x)).isEmpty = true ∧ 1024 ≤ s.K.length then 2 else 0 := by
 unfold roomV
 simp only [List.any_cons, List.any_nil, Bool.or_false, decide_eq_true_eq]
 by_cases h1 : ts ≤ lastV (look s.K (wkey x))
 ·rw [if_pos h1, if_pos h1]
 ·rw [if_neg h1, if_neg h1]
  unfold roomN cntK
  by_cases h2 : 1024 ≤ (look s.K (wkey x)).length
  ·rw [if_pos (.inl h2), if_pos h2]
  ·rw [if_neg h2]
   by_cases h3 : (look s.K (wkey x)).isEmpty = true
   ·rw [if_pos h3]
    by_cases h4 : 1024 ≤ s.K.length
    ·rw [if_pos (.inr (by omega)), if_pos ⟨h3, h4⟩]
    ·rw [if_neg (by omega), if_neg (fun h => h4 h.2)]
     rfl
   ·rw [if_neg h3, if_neg (by omega), if_neg (fun h => h3 h.1)]
    rfl
theorem atB_empty {K : List (Key × Chain)} (h : KOk K) (q : Key) : atB K q = !(look K q).isEmpty := by
 cases hb : atB K q with
 | true =>
  obtain ⟨p, hp, rfl⟩ := atB_some hb
  have hm := List.mem_of_getElem? hp
  rw [at_look h.rise hp rfl]
  have := (h.chain p hm).1
  cases hc : p.2 with
  | nil => exact absurd hc this
  | cons _ _ => rfl
 | false =>
  rw [look_none (at_none h.rise hb)]
  rfl
set_option maxRecDepth 100000 in
set_option maxHeartbeats 8000000 in
theorem rmay_walk {w : World} {ok : Nat → Prop} {b : Nat} {s : Sh} (h : RfAt w ok b s) (x : Wr) (ts : Int) (hv : VerOk ⟨ts, x.f1, x.f2⟩) :
 Calls Tryz.prog 48 #[.pointer (some ⟨b, 0, none⟩), .string x.f0, .agg #[.int .i64 ts, .string x.f1, .bool x.f2]] w fun e w' => e = .returned (.int .i64 (roomV s [x] ts)) ∧ Below w.heap.size w w' := by
 have hgood : KOk s.K := by obtain ⟨AK, AP, AE, cK, cP, cE, hp⟩ := h; exact hp.good.keys
 have HRO := Aside0.mk (room_one (s := s) x ts hgood.few)
 have HBE := Aside0.mk (atB_empty hgood (wkey x))
 have HCO := Aside0.mk (hgood.look (wkey x))
 have HVO := Aside0.mk hv
 obtain ⟨wy, hwy⟩ : ∃ wy, wy = w.alloc (.cells #[.int .i64 ts, .string x.f1, .bool x.f2] 43) := ⟨_, rfl⟩
 have hby : Below w.heap.size w wy := by rw [hwy]; exact below_alloc (Below.refl _ _) _
 have hyx : wy.heap[w.heap.size]? = some (.cells #[.int .i64 ts, .string x.f1, .bool x.f2] 43 (0, 0)) := by rw [hwy]; exact blk_new _ _
 have HSY := Aside0.mk (h.below hby)
 have HWY := Aside0.mk hwy
 have HBY := Aside0.mk hby
 have HYX := Aside0.mk hyx
 have HCH : Aside0 (∀ W, Below wy.heap.size wy W → Calls Tryz.prog 97 #[.pointer (some ⟨b, 0, none⟩), .string x.f0] W fun e w' => ∃ A c, e = .returned (.slice A (look s.K (wkey x)).length c) ∧ (look s.K (wkey x)).length ≤ c ∧ Kd.C k43 w' A (look s.K (wkey x)).length (look s.K (wkey x)) ∧ Below W.heap.size W w') := ⟨fun W hW => rchain_walk (HSY.out.below hW) x.f0⟩
 have y0 := blk_cell hyx 0
 have y1 := blk_cell hyx 1
 have y2 := blk_cell hyx 2
 clear h hv hgood hwy hby hyx
 generalize hro : roomV s [x] ts = ro at *
 clear hro
 generalize hch : look s.K (wkey x) = ch at *
 clear hch
 go_enter Tryz.func48, Tryz.ntmps48
 go_wp2
 rw [← HWY.out]
 go_cut [8] (fun v8 wc => v8 = .int .i64 (addE ch ⟨ts, x.f1, x.f2⟩) ∧ Aside0 (Below wy.heap.size wy wc))
 case first =>
  go_region_held3 (fun w' => w'.cell? ⟨w.heap.size, 0, none⟩ = some (.int .i64 ts) ∧ w'.cell? ⟨w.heap.size, 1, none⟩ = some (.string x.f1) ∧ w'.cell? ⟨w.heap.size, 2, none⟩ = some (.bool x.f2)) (first | exact ⟨y0, y1, y2⟩ | exact ⟨u0, u1, u2⟩ | exact ⟨v0, v1, v2⟩)
   (first
    | (go_simp; go_at_call 99; refine (corncribref11_Add.calls 4000 A1 c1 ch ts x.f1 x.f2 _ _ _ (Kd.C_below HC1.out (by repeat (first | exact Below.refl _ _ | apply below_drew1 | apply pw_below_drewN))) HL1.out (radd_f HCO.out HVO.out)).mono ?_; rintro e w5 ⟨z5, rfl, hz5, hb5⟩; have HB5 : Aside0 (Below wy.heap.size wy w5) := ⟨(by repeat (first | exact HB1.out | apply below_drew1 | apply pw_below_drewN) : Below wy.heap.size wy _).trans (hb5.mono (by have := HB1.out.size; simpa using this))⟩; have hY5 := blk_below HYX.out HB5.out; have v0 := blk_cell hY5 0; have v1 := blk_cell hY5 1; have v2 := blk_cell hY5 2; clear hY5 hb5 hz5)
    | (go_simp; go_at_call 97; refine (HCH.out _ (by repeat (first | exact Below.refl _ _ | apply below_drew1 | apply pw_below_drewN))).mono ?_; rintro e w1 ⟨A1, c1, rfl, hl1, hC1, hb1⟩; have HC1 := Aside0.mk hC1; have HL1 := Aside0.mk hl1; have HB1 : Aside0 (Below wy.heap.size wy w1) := ⟨(by repeat (first | exact Below.refl _ _ | apply below_drew1 | apply pw_below_drewN) : Below wy.heap.size wy _).trans (hb1.mono (by simp))⟩; have hY1 := blk_below HYX.out HB1.out; have u0 := blk_cell hY1 0; have u1 := blk_cell hY1 1; have u2 := blk_cell hY1 2; clear hY1 hb1 hC1 hl1))
  all_goals (try go_wp2_with fail)
  all_goals go_meet
  all_goals (case rel => exact ⟨rfl, ⟨by repeat (first | exact HB5.out | apply below_drew1 | apply pw_below_drewN)⟩⟩)
 case rest =>
  obtain ⟨rfl, HB⟩ := hcut
  have HSC := Aside0.mk (HSY.out.below HB.out)
  have HBC : Aside0 (Below w.heap.size w wc) := ⟨HBY.out.trans (HB.out.mono HBY.out.size)⟩
  have HAE : Aside0 (addE ch ⟨ts, x.f1, x.f2⟩ = if ts ≤ lastV ch then 110 else if 1024 ≤ ch.length then 2 else 0) := ⟨rfl⟩
  clear y0 y1 y2 HCH HSY HB HBY HYX HWY HCO HVO
  generalize addE ch ⟨ts, x.f1, x.f2⟩ = ae at *
  by_cases h1 : ts ≤ lastV ch
  ·rw [if_pos h1] at HAE HRO
   obtain rfl := HAE.out
   obtain rfl := HRO.out
   clear HAE HRO h1
   go_wp2_with fail
   go_ret
   exact ⟨rfl, HBC.out⟩
  ·rw [if_neg h1] at HAE HRO
   by_cases h2 : 1024 ≤ ch.length
   ·rw [if_pos h2] at HAE HRO
    obtain rfl := HAE.out
    obtain rfl := HRO.out
    clear HAE HRO h1 h2
    go_wp2_with fail
    go_ret
    exact ⟨rfl, HBC.out⟩
   ·rw [if_neg h2] at HAE HRO
    obtain rfl := HAE.out
    have HAT := Aside0.mk (rat_walk HSC.out x.f0)
    rw [show kb x.f0 = wkey x from rfl, HBE.out] at HAT
    clear HAE h1 h2 HBE
    generalize atN s.K (wkey x) = n at *
    go_wp2_with fail
    refine HAT.out.mono ?_
    rintro e w2 ⟨rfl, hb2⟩
    obtain ⟨AK, AP, AE, cK, cP, cE, hp⟩ := HSC.out.below hb2
    obtain ⟨c0, -, -, -⟩ := hp.cells
    have hk4 := hp.good.keys.few
    have HB2 : Aside0 (Below w.heap.size w w2) := ⟨HBC.out.trans (hb2.mono HBC.out.size)⟩
    clear hp hb2 HAT HSC
    cases he : ch.isEmpty with
    | true =>
     rw [he] at HRO
     by_cases h4 : 1024 ≤ s.K.length
     ·rw [if_pos ⟨rfl, h4⟩] at HRO
      obtain rfl := HRO.out
      have d1 : decide ((s.K.length : Int) ≥ 1024) = true := decide_eq_true (by omega)
      have d2 : decide (1024 ≤ s.K.length) = true := decide_eq_true h4
      clear HRO he
      go_wp2_with fail
      go_ret
      exact ⟨rfl, HB2.out⟩
     ·rw [if_neg (fun h => h4 h.2)] at HRO
      obtain rfl := HRO.out
      have d1 : decide ((s.K.length : Int) ≥ 1024) = false := decide_eq_false (by omega)
      have d2 : decide (1024 ≤ s.K.length) = false := decide_eq_false h4
      clear HRO he
      go_wp2_with fail
      go_ret
      exact ⟨rfl, HB2.out⟩
    | false =>
     rw [he, if_neg (fun h => by cases h.1)] at HRO
     obtain rfl := HRO.out
     clear HRO he
     go_wp2_with fail
     go_ret
     exact ⟨rfl, HB2.out⟩
end Go.Proofs.YtaldfbmjmpkmmaaGreat.PL
namespace Go.Proofs.YtaldfbmjmpkmmaaGreat.PL
open Go.RowKit Go.Proofs.YtaldfbmjmpkmmaaGreatW.PrintWords Go.Proofs.YtaldfbmjmpkmmaaGreatW.PrintLast Go.Proofs.YtaldfbmjmpkmmaaGreatW.PrintMore
set_option linter.unusedVariables false
set_option linter.unusedSimpArgs false
set_option linter.unusedSectionVars false
theorem own_ne {α : Type} {d : Kd α} {e base : Nat} {w : World} {ok : Nat → Prop} {v : Value} {xs : List α} (h : Kd.N d e w base ok v xs) {k : Nat} (hk : k < base) : some k ≠ v.ownBlock := fun e => by
 have := Kd.N_base h k e.symm
 omega
set_option maxRecDepth 100000 in
set_option maxHeartbeats 8000000 in
theorem radd_walk {w : World} {ok : Nat → Prop} {b : Nat} {s : Sh} (h : RfAt w ok b s) (hok : ∀ g, w.heap.size ≤ g → ok g) (x : Wr) (ts : Int) (hv : VerOk ⟨ts, x.f1, x.f2⟩) (hlast : lastV (look s.K (wkey x)) < ts) (hroom : (look s.K (wkey x)).length < 1024) (hk : KOk (put1 ts s.K x)) :
 Calls Tryz.prog 49 #[.pointer (some ⟨b, 0, none⟩), .string x.f0, .agg #[.int .i64 ts, .string x.f1, .bool x.f2]] w fun e w' => e = .returned (.tuple #[]) ∧ RfAt w' ok b { s with K := put1 ts s.K x } ∧ Chg0 (fun g => g = b) w w' := by
 have hgood : ShOk s := by obtain ⟨AK, AP, AE, cK, cP, cE, hp⟩ := h; exact hp.good
 have hbl : b < w.heap.size := by obtain ⟨AK, AP, AE, cK, cP, cE, hp⟩ := h; exact blk_lt hp.box
 have HOK : Aside0 (∀ g, w.heap.size ≤ g → ok g ∧ g ≠ b) := ⟨fun g hg => ⟨hok g hg, by omega⟩⟩
 have HCO := Aside0.mk (hgood.keys.look (wkey x))
 have hadd : addE (look s.K (wkey x)) ⟨ts, x.f1, x.f2⟩ = 0 := by
  unfold addE
  rw [if_neg (by simp only; omega), if_neg (by omega)]
 have hadf := radd_f HCO.out hv
 have hal : addL (look s.K (wkey x)) ⟨ts, x.f1, x.f2⟩ = look s.K (wkey x) ++ [⟨ts, x.f1, x.f2⟩] := by unfold addL; rw [if_pos hadd]
 rw [hal, hadd] at hadf
 have HGS : Aside0 (ShOk { s with K := put1 ts s.K x }) := ⟨⟨hk, hgood.rise, hgood.few, hgood.recs, hgood.ends, hgood.over⟩⟩
 have hput : put1 ts s.K x = s.K.take (atN s.K (wkey x)) ++ (wkey x, look s.K (wkey x) ++ [⟨ts, x.f1, x.f2⟩]) :: s.K.drop (atN s.K (wkey x) + if atB s.K (wkey x) = true then 1 else 0) := kput_at _ _ _
 have hatle := atN_le s.K (wkey x)
 have hatlt : atB s.K (wkey x) = true → atN s.K (wkey x) < s.K.length := fun hb => by
  obtain ⟨p, hp, _⟩ := atB_some hb
  exact (List.getElem?_eq_some_iff.1 hp).1
 have hk4 := hgood.keys.few
 have hnl : (look s.K (wkey x) ++ [(⟨ts, x.f1, x.f2⟩ : Ver)]).length ≤ 1024 := by rw [List.length_append, List.length_singleton]; omega
 obtain ⟨wy, hwy⟩ : ∃ wy, wy = w.alloc (.cells #[.int .i64 ts, .string x.f1, .bool x.f2] 43) := ⟨_, rfl⟩
 have hby : Below w.heap.size w wy := by rw [hwy]; exact below_alloc (Below.refl _ _) _
 have hyx : wy.heap[w.heap.size]? = some (.cells #[.int .i64 ts, .string x.f1, .bool x.f2] 43 (0, 0)) := by rw [hwy]; exact blk_new _ _
 have HSY := Aside0.mk (h.below hby)
 have HWY := Aside0.mk hwy
 have HBY := Aside0.mk hby
 have HYX := Aside0.mk hyx
 have HCH : Aside0 (∀ W, Below wy.heap.size wy W → Calls Tryz.prog 97 #[.pointer (some ⟨b, 0, none⟩), .string x.f0] W fun e w' => ∃ A c, e = .returned (.slice A (look s.K (wkey x)).length c) ∧ (look s.K (wkey x)).length ≤ c ∧ Kd.C k43 w' A (look s.K (wkey x)).length (look s.K (wkey x)) ∧ Below W.heap.size W w') := ⟨fun W hW => rchain_walk (HSY.out.below hW) x.f0⟩
 have y0 := blk_cell hyx 0
 have y1 := blk_cell hyx 1
 have y2 := blk_cell hyx 2
 have HPUT := Aside0.mk hput
 have HADF := Aside0.mk hadf
 clear h hv hgood hwy hby hyx hok hadd hal hlast hroom hk hput hadf HCO hbl
 generalize put1 ts s.K x = K' at *
 generalize look s.K (wkey x) ++ [(⟨ts, x.f1, x.f2⟩ : Ver)] = nx at *
 generalize look s.K (wkey x) = ch at *
 go_enter Tryz.func49, Tryz.ntmps49
 go_wp2
 rw [← HWY.out]
 go_cut [6] (fun v6 wc => ∃ A6 c6, v6 = .slice A6 nx.length c6 ∧ Aside0 (nx.length ≤ c6) ∧ Aside0 (Kd.F k43 wc (fun g => w.heap.size ≤ g) A6 nx.length nx) ∧ Aside0 (Below wy.heap.size wy wc))
 case first =>
  go_region_held3 (fun w' => w'.cell? ⟨w.heap.size, 0, none⟩ = some (.int .i64 ts) ∧ w'.cell? ⟨w.heap.size, 1, none⟩ = some (.string x.f1) ∧ w'.cell? ⟨w.heap.size, 2, none⟩ = some (.bool x.f2)) (first | exact ⟨y0, y1, y2⟩ | exact ⟨u0, u1, u2⟩ | exact ⟨v0, v1, v2⟩)
   (first
    | (go_simp; go_at_call 99; refine (corncribref11_Add.calls 4000 A1 c1 ch ts x.f1 x.f2 _ _ _ (Kd.C_below HC1.out (by repeat (first | exact Below.refl _ _ | apply below_drew1 | apply pw_below_drewN))) HL1.out HADF.out).mono ?_; rintro e w5 ⟨z5, rfl, hz5, hb5⟩; have HB5 : Aside0 (Below wy.heap.size wy w5) := ⟨(by repeat (first | exact HB1.out | apply below_drew1 | apply pw_below_drewN) : Below wy.heap.size wy _).trans (hb5.mono (by have := HB1.out.size; simpa using this))⟩; have hY5 := blk_below HYX.out HB5.out; have v0 := blk_cell hY5 0; have v1 := blk_cell hY5 1; have v2 := blk_cell hY5 2; have hz6 : Kd.R k43 43 w5 0 (fun g => w.heap.size ≤ g) z5 nx := Kd.R_lower (Kd.R_mono (Kd.R_bound hz5) (fun g hg => Nat.le_trans (Nat.le_trans (Nat.le_trans HBY.out.size HB1.out.size) (by simp)) hg.2.1)) (Nat.zero_le _); obtain ⟨A6, c6, rfl⟩ := Kd.R_slice hz6; have HL6 := Aside0.mk (Kd.R_reads' hz6).2.1; have HZ6 := Aside0.mk (R_F hz6); clear hY5 hb5 hz5 hz6)
    | (go_simp; go_at_call 97; refine (HCH.out _ (by repeat (first | exact Below.refl _ _ | apply below_drew1 | apply pw_below_drewN))).mono ?_; rintro e w1 ⟨A1, c1, rfl, hl1, hC1, hb1⟩; have HC1 := Aside0.mk hC1; have HL1 := Aside0.mk hl1; have HB1 : Aside0 (Below wy.heap.size wy w1) := ⟨(by repeat (first | exact Below.refl _ _ | apply below_drew1 | apply pw_below_drewN) : Below wy.heap.size wy _).trans (hb1.mono (by simp))⟩; have hY1 := blk_below HYX.out HB1.out; have u0 := blk_cell hY1 0; have u1 := blk_cell hY1 1; have u2 := blk_cell hY1 2; clear hY1 hb1 hC1 hl1))
  all_goals (try go_wp2_with fail)
  all_goals go_meet
  all_goals (case rel => exact ⟨A6, c6, rfl, HL6, ⟨Kd.F_below HZ6.out (by repeat (first | exact Below.refl _ _ | apply below_drew1 | apply pw_below_drewN))⟩, ⟨by repeat (first | exact HB5.out | apply below_drew1 | apply pw_below_drewN)⟩⟩)
 case rest =>
  obtain ⟨A6, c6, rfl, HL6, HZ6, HB⟩ := hcut
  have HSC := Aside0.mk (HSY.out.below HB.out)
  have HBC : Aside0 (Below w.heap.size w wc) := ⟨HBY.out.trans (HB.out.mono HBY.out.size)⟩
  have HAT := Aside0.mk (rat_walk HSC.out x.f0)
  rw [show kb x.f0 = wkey x from rfl] at HAT
  clear y0 y1 y2 HCH HSY HB HBY HYX HWY HADF
  generalize atB s.K (wkey x) = tb at *
  generalize atN s.K (wkey x) = n at *
  go_wp2_with fail
  refine HAT.out.mono ?_
  rintro e w2 ⟨rfl, hb2⟩
  obtain ⟨AK, AP, AE, cK, cP, cE, hp⟩ := HSC.out.below hb2
  have HB2 : Aside0 (Below w.heap.size w w2) := ⟨HBC.out.trans (hb2.mono HBC.out.size)⟩
  have HZ2 := Aside0.mk (Kd.F_below HZ6.out hb2)
  have HP := Aside0.mk hp
  have OK2 : Aside0 (∀ g, w2.heap.size ≤ g → ok g ∧ g ≠ b) := ⟨fun g hg => HOK.out g (Nat.le_trans HB2.out.size hg)⟩
  obtain ⟨c0, -, -, -⟩ := hp.cells
  obtain ⟨i0, hi0, _, hsz, _⟩ := info_parts infoKC
  have hlK := hp.lK
  have hcut1 := cut_to (P := Tryz.prog) 48 133 .i64 Tryz.underlying48 hi0 AK s.K.length cK (n : Int) (by omega) (by omega) hlK
  rw [Int.toNat_natCast] at hcut1
  have HTK : Aside0 (Kd.F kKC w2 (fun g => ok g ∧ g ≠ b) AK n (s.K.take n)) := ⟨by have := F_take (m := n) hp.fK (by omega); rwa [show (s.K.take n).length = n by rw [List.length_take]; omega] at this⟩
  have hlt : (s.K.take n).length = n := by rw [List.length_take]; omega
  have HLT := Aside0.mk hlt
  clear hlt hp hb2 HAT HSC HBC HZ6
  obtain ⟨m, hm⟩ : ∃ m : Nat, m = n + if tb = true then 1 else 0 := ⟨_, rfl⟩
  rw [← hm] at HPUT
  have hmle : m ≤ s.K.length := by
   rw [hm]
   cases tb with
   | true => have := hatlt rfl; simp; omega
   | false => simp; omega
  have hcut2 := cut_from (P := Tryz.prog) 48 133 .i64 Tryz.underlying48 hi0 2 hsz AK s.K.length cK (m : Int) (by omega) (by omega)
  rw [Int.toNat_natCast] at hcut2
  have HDK : Aside0 (Kd.F kKC w2 (fun g => ok g ∧ g ≠ b) (if cK = m then AK else AK.map (·.add (m * 2))) (s.K.length - m) (s.K.drop m)) := ⟨by have := F_drop (m := m) HP.out.fK hmle hlK; rwa [show (s.K.drop m).length = s.K.length - m from List.length_drop] at this⟩
  generalize (if cK = m then AK else AK.map (·.add (m * 2))) = AD at *
  have HNUM : Aside0 (n ≤ 1024 ∧ s.K.length ≤ 1024) := ⟨by omega, hk4⟩
  have HM := Aside0.mk hm
  clear hi0 hsz hlK hatlt hm
  cases tb with
  | true =>
   have hmn : m = n + 1 := HM.out
   subst hmn
   rw [show ((n + 1 : Nat) : Int) = (n : Int) + 1 by omega] at hcut2
   go_wp2_with (first
    | (at_builtin; refine Kd.N_append_rows kKC (w0 := w2) w2.heap.size rfl (.tmp 25) (.tmp 31) 48 133 (.agg #[.string ⟨#[]⟩, .slice none 0 0]) 40 rfl Tryz.underlying48 infoKC rfl (by decide) (by omega) (.slice none 0 0) [] (s.K.take n) AK n cK (fun g => ok g ∧ g ≠ b) (fun g => ok g ∧ g ≠ b) rfl rfl (Kd.N_nil _ _ _ _ _) HTK.out (fun k hk => ⟨hk, by simp [Value.ownBlock]⟩) OK2.out (Below.refl _ _) (Nat.le_refl _) (by have := HNUM.out; simp; omega) ?_; intro v1 w3 hn1 hb3 hg3 _; rw [List.nil_append] at hn1; obtain ⟨A3, c3, rfl⟩ := Kd.N_slice hn1; rw [HLT.out]; rw [HLT.out] at hn1; have HN1 := Aside0.mk hn1; have HB3 := Aside0.mk hb3; clear hn1 hb3 hg3 c0; obtain ⟨c0, -, -, -⟩ := (HP.out.below HB3.out).cells)
    | (at_builtin; refine Kd.N_append kKC (w0 := w2) w2.heap.size rfl (.tmp 33) (.tmp 37) 48 133 (.agg #[.string ⟨#[]⟩, .slice none 0 0]) 40 rfl Tryz.underlying48 infoKC rfl (by decide) (by omega) (.slice A3 n c3) (s.K.take n) (wkey x, nx) [.string x.f0, .slice A6 nx.length c6] (fun g => ok g ∧ g ≠ b) (fun g => (ok g ∧ g ≠ b) ∧ g < w2.heap.size) rfl rfl (fun W hW => by
     have h1 := kKC_mk W (wkey x, nx) HL6.out (Kd.F_now (Kd.F_step (Kd.F_below (Kd.F_bound HZ2.out) HB3.out) (fun k hk hlt => hW k ⟨HOK.out k hk.1, hk.2⟩ hlt)))
     rw [show bs (wkey x, nx).1 = x.f0 from bs_kb x.f0] at h1
     exact h1) (fun k hk => ⟨hk.1, own_ne HN1.out hk.2⟩) (fun g hg => OK2.out g (Nat.le_trans HB3.out.size hg)) HN1.out HB3.out HB3.out.size (by have := HNUM.out; rw [HLT.out]; omega) ?_; intro v2 w4 hn2 hb4 hg4 _; obtain ⟨A4, c4, rfl⟩ := Kd.N_slice hn2; have hl2 : (s.K.take n ++ [(wkey x, nx)]).length = n + 1 := (by rw [List.length_append, HLT.out]; rfl); rw [hl2]; rw [hl2] at hn2; clear hl2; have HN2 := Aside0.mk hn2; have HB4 := Aside0.mk hb4; clear hn2 hb4 hg4 c0; obtain ⟨c0, -, -, -⟩ := (HP.out.below HB4.out).cells)
    | (at_builtin; refine Kd.N_append_rows kKC (w0 := w2) w2.heap.size rfl (.tmp 43) (.tmp 49) 48 133 (.agg #[.string ⟨#[]⟩, .slice none 0 0]) 40 rfl Tryz.underlying48 infoKC rfl (by decide) (by omega) _ (s.K.take n ++ [(wkey x, nx)]) (s.K.drop (n + 1)) AD (s.K.length - (n + 1)) (cK - (n + 1)) (fun g => ok g ∧ g ≠ b) (fun g => (ok g ∧ g ≠ b) ∧ g < w2.heap.size) rfl rfl HN2.out (Kd.F_below (Kd.F_bound HDK.out) HB4.out) (fun k hk => ⟨hk.1, own_ne HN2.out hk.2⟩) (fun g hg => OK2.out g (Nat.le_trans HB4.out.size hg)) HB4.out HB4.out.size (by have := HNUM.out; rw [List.length_append, HLT.out, List.length_singleton]; omega) ?_; intro v3 w5 hn3 hb5 hg5 _; rw [show (s.K.take n ++ [(wkey x, nx)]) ++ s.K.drop (n + 1) = K' from (by rw [HPUT.out]; simp)] at hn3; obtain ⟨A5, c5, rfl⟩ := Kd.N_slice hn3; have HN3 := Aside0.mk hn3; have HB5 := Aside0.mk hb5; clear hn3 hb5 hg5 c0; obtain ⟨c0, -, -, -⟩ := (HP.out.below HB5.out).cells; have f0 := blk_frozen (HP.out.below HB5.out).box 0))
   go_end0
   exact ⟨rfl, ⟨_, _, _, _, _, _, HP.out.setK HB5.out (N_F HN3.out) (Kd.N_reads' HN3.out).2.1 HGS.out⟩, (Chg0.of_below HB2.out).trans (Chg0.box_set HB5.out 0 _)⟩
  | false =>
   have hmn : n = m := HM.out.symm
   subst hmn
   go_wp2_with (first
    | (at_builtin; refine Kd.N_append_rows kKC (w0 := w2) w2.heap.size rfl (.tmp 25) (.tmp 31) 48 133 (.agg #[.string ⟨#[]⟩, .slice none 0 0]) 40 rfl Tryz.underlying48 infoKC rfl (by decide) (by omega) (.slice none 0 0) [] (s.K.take n) AK n cK (fun g => ok g ∧ g ≠ b) (fun g => ok g ∧ g ≠ b) rfl rfl (Kd.N_nil _ _ _ _ _) HTK.out (fun k hk => ⟨hk, by simp [Value.ownBlock]⟩) OK2.out (Below.refl _ _) (Nat.le_refl _) (by have := HNUM.out; simp; omega) ?_; intro v1 w3 hn1 hb3 hg3 _; rw [List.nil_append] at hn1; obtain ⟨A3, c3, rfl⟩ := Kd.N_slice hn1; rw [HLT.out]; rw [HLT.out] at hn1; have HN1 := Aside0.mk hn1; have HB3 := Aside0.mk hb3; clear hn1 hb3 hg3 c0; obtain ⟨c0, -, -, -⟩ := (HP.out.below HB3.out).cells)
    | (at_builtin; refine Kd.N_append kKC (w0 := w2) w2.heap.size rfl (.tmp 33) (.tmp 37) 48 133 (.agg #[.string ⟨#[]⟩, .slice none 0 0]) 40 rfl Tryz.underlying48 infoKC rfl (by decide) (by omega) (.slice A3 n c3) (s.K.take n) (wkey x, nx) [.string x.f0, .slice A6 nx.length c6] (fun g => ok g ∧ g ≠ b) (fun g => (ok g ∧ g ≠ b) ∧ g < w2.heap.size) rfl rfl (fun W hW => by
     have h1 := kKC_mk W (wkey x, nx) HL6.out (Kd.F_now (Kd.F_step (Kd.F_below (Kd.F_bound HZ2.out) HB3.out) (fun k hk hlt => hW k ⟨HOK.out k hk.1, hk.2⟩ hlt)))
     rw [show bs (wkey x, nx).1 = x.f0 from bs_kb x.f0] at h1
     exact h1) (fun k hk => ⟨hk.1, own_ne HN1.out hk.2⟩) (fun g hg => OK2.out g (Nat.le_trans HB3.out.size hg)) HN1.out HB3.out HB3.out.size (by have := HNUM.out; rw [HLT.out]; omega) ?_; intro v2 w4 hn2 hb4 hg4 _; obtain ⟨A4, c4, rfl⟩ := Kd.N_slice hn2; have hl2 : (s.K.take n ++ [(wkey x, nx)]).length = n + 1 := (by rw [List.length_append, HLT.out]; rfl); rw [hl2]; rw [hl2] at hn2; clear hl2; have HN2 := Aside0.mk hn2; have HB4 := Aside0.mk hb4; clear hn2 hb4 hg4 c0; obtain ⟨c0, -, -, -⟩ := (HP.out.below HB4.out).cells)
    | (at_builtin; refine Kd.N_append_rows kKC (w0 := w2) w2.heap.size rfl (.tmp 43) (.tmp 49) 48 133 (.agg #[.string ⟨#[]⟩, .slice none 0 0]) 40 rfl Tryz.underlying48 infoKC rfl (by decide) (by omega) _ (s.K.take n ++ [(wkey x, nx)]) (s.K.drop n) AD (s.K.length - n) (cK - n) (fun g => ok g ∧ g ≠ b) (fun g => (ok g ∧ g ≠ b) ∧ g < w2.heap.size) rfl rfl HN2.out (Kd.F_below (Kd.F_bound HDK.out) HB4.out) (fun k hk => ⟨hk.1, own_ne HN2.out hk.2⟩) (fun g hg => OK2.out g (Nat.le_trans HB4.out.size hg)) HB4.out HB4.out.size (by have := HNUM.out; rw [List.length_append, HLT.out, List.length_singleton]; omega) ?_; intro v3 w5 hn3 hb5 hg5 _; rw [show (s.K.take n ++ [(wkey x, nx)]) ++ s.K.drop n = K' from (by rw [HPUT.out]; simp)] at hn3; obtain ⟨A5, c5, rfl⟩ := Kd.N_slice hn3; have HN3 := Aside0.mk hn3; have HB5 := Aside0.mk hb5; clear hn3 hb5 hg5 c0; obtain ⟨c0, -, -, -⟩ := (HP.out.below HB5.out).cells; have f0 := blk_frozen (HP.out.below HB5.out).box 0))
   go_end0
   exact ⟨rfl, ⟨_, _, _, _, _, _, HP.out.setK HB5.out (N_F HN3.out) (Kd.N_reads' HN3.out).2.1 HGS.out⟩, (Chg0.of_below HB2.out).trans (Chg0.box_set HB5.out 0 _)⟩
end Go.Proofs.YtaldfbmjmpkmmaaGreat.PL
