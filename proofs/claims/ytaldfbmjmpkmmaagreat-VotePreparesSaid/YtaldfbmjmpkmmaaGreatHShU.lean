/- A shelf in memory: do. -/
import Derived.Test.YtaldfbmjmpkmmaaGreatM0a8068
namespace Go.Proofs.YtaldfbmjmpkmmaaGreat.PL
open Go.RowKit Go.Proofs.YtaldfbmjmpkmmaaGreatW.PrintWords Go.Proofs.YtaldfbmjmpkmmaaGreatW.PrintLast Go.Proofs.YtaldfbmjmpkmmaaGreatW.PrintMore Go.Shelf Go.Maps Go.WideMaps Go.Proofs.YtaldfbmjmpkmmaaGreat.Mk
set_option linter.unusedVariables false
set_option linter.unusedSimpArgs false
set_option linter.unusedSectionVars false
theorem grown_set (w : World) (a : Addr) (u : Value) : w.grownBy (w.setCell a u) (some a.block) :=
 ⟨rfl, rfl, rfl, by simp [World.setCell], fun k hk h => Below.heap_setCell _ _ _ _ (fun e => h (by rw [e]))⟩
theorem R_own {α : Type} {d : Kd α} {e base : Nat} {ok : Nat → Prop} {w : World} {v : Value} {xs : List α} (h : d.R e w base ok v xs) {k : Nat} (hk : v.ownBlock = some k) : ok k ∧ k < w.heap.size ∧ ∃ cells, w.heap[k]? = some (.cells cells e (0, 0)) := by
 have h1 := (Kd.R_bound h).1 k hk
 obtain ⟨h0, inner, ho, hr⟩ := h
 refine ⟨h1.1, h1.2.2.1, ?_⟩
 obtain ⟨_, h3⟩ := ho
 rcases h3 with ⟨e1, _⟩ | ⟨g, cap, cur, e1, _, e2, _⟩
 ·rw [e1] at hk
  cases hk
 ·rw [e1] at hk
  have : g = k := by simpa [Value.ownBlock] using hk
  subst this
  exact ⟨_, e2⟩
section
variable {ok : Nat → Prop} {w w' w6 w1 : World} {b N : Nat} {s : Sh} {bk bp : Nat} {ve : Value} {fk fp : Lit → Option Value}
theorem Parts.del (h : Parts w ok b N s bk bp ve fk fp) (hg : w.grownBy w' (some bp)) (t : Int) (hm : MapL Tryz.prog 3 w' bp N (ldel fp (ik t))) : Parts w' ok b N { s with P := s.P.filter (fun r => !decide (r.f1 = t)) } bk bp ve fk (ldel fp (ik t)) :=
 have hb : ∀ cells q, w.heap[bp]? ≠ some (.cells cells q (0, 0)) := fun cells q => h.preps.not_cells
 ⟨blk_map h.box hg hb, h.keys.kept hg (fun e => h.ne (by injection e)), hm, R_map h.ends hg hb, fun q v hq => by
  obtain ⟨k, h1, h2, h3⟩ := h.kf q v hq
  exact ⟨k, h1, h2, R_map h3 hg hb⟩, h.kt, fun q v hq => by
  unfold ldel at hq
  split at hq
  ·cases hq
  ·rename_i hq2
   obtain ⟨r', h1, h2, cs', h3, h4⟩ := h.pf q v hq
   refine ⟨r', List.mem_filter.2 ⟨h1, ?_⟩, h2, cs', h3, M_map h4 hg hb⟩
   rw [h2, sameKey_ik] at hq2
   simpa using hq2, fun x hx => by
  obtain ⟨h1, h2⟩ := List.mem_filter.1 hx
  unfold ldel
  rw [sameKey_ik]
  have : ¬ x.f1 = t := by simpa using h2
  rw [if_neg (by simpa using this)]
  exact h.pt x h1, h.okb, h.okk, h.okp, h.ne, ⟨h.good.keys, h.good.rise.filter _, Nat.le_trans (List.length_filter_le _ _) h.good.few, fun r hr => h.good.recs r (List.mem_filter.1 hr).1, h.good.ends, h.good.over⟩⟩
/-- The ended ones anew: written behind the old ones, or in a new place; then the box's cell. -/
theorem Parts.ended (h : Parts w ok b N s bk bp ve fk fp) (hg : w.grownBy w6 ve.ownBlock) {v1 : Value} {E : List (Int × Int)} (hE : kEnd.R 76 w6 0 ok v1 E) (hl : E.length ≤ 1025) : Parts (w6.setCell ⟨b, 2, none⟩ v1) ok b N { s with E := E } bk bp v1 fk fp := by
 have hown : ∀ k, ve.ownBlock = some k → ∃ cells, w.heap[k]? = some (.cells cells 76 (0, 0)) := fun k hk => (R_own h.ends hk).2.2
 have hne : ∀ (g : Nat) (cells : Array Value) (q : TypeId), q ≠ 76 → w.heap[g]? = some (.cells cells q (0, 0)) → some g ≠ ve.ownBlock := fun g cells q hq hc e => by
  obtain ⟨c2, h2⟩ := hown g e.symm
  rw [hc] at h2
  injection h2 with h2
  injection h2 with _ h2
  exact hq h2
 have hmap : ∀ g : Nat, (∀ (cells : Array Value) (q : TypeId), w.heap[g]? ≠ some (.cells cells q (0, 0))) → some g ≠ ve.ownBlock := fun g hn e => by
  obtain ⟨c2, h2⟩ := hown g e.symm
  exact hn _ _ h2
 have hbox6 : w6.heap[b]? = some (.cells #[.map (some bk), .map (some bp), ve, .int .i64 s.over] 69 (0, 0)) := (hg.block b (blk_lt h.box) (hne b _ _ (by decide) h.box)).trans h.box
 have hg7 := grown_set w6 ⟨b, 2, none⟩ v1
 have hk6 := h.keys.kept hg (hmap bk (fun _ _ => h.keys.not_cells))
 have hp6 := h.preps.kept hg (hmap bp (fun _ _ => h.preps.not_cells))
 have hstep : ∀ (g : Nat) (q : TypeId), q ≠ 76 → q ≠ 69 → ∀ cells : Array Value, w.heap[g]? = some (.cells cells q (0, 0)) → (w6.setCell ⟨b, 2, none⟩ v1).heap[g]? = w.heap[g]? := fun g q h1 h2 cells hc =>
  (Below.heap_setCell w6 ⟨b, 2, none⟩ v1 g (fun e => h2 (by
   have e : g = b := e
   subst e
   rw [h.box] at hc
   injection hc with hc
   injection hc with _ hc
   exact hc.symm))).trans (hg.block g (blk_lt hc) (hne g cells q h1 hc))
 exact ⟨blk_put hbox6 2 v1 rfl, hk6.kept hg7 (fun e => absurd hbox6 (by (have e2 : bk = b := by injection e); rw [← e2]; exact hk6.not_cells)), hp6.kept hg7 (fun e => absurd hbox6 (by (have e2 : bp = b := by injection e); rw [← e2]; exact hp6.not_cells)),
  R_keep hE (fun g _ q hq cells hc => Below.heap_setCell w6 ⟨b, 2, none⟩ v1 g (fun e => by
   have e : g = b := e
   subst e
   rw [hbox6] at hc
   injection hc with hc
   injection hc with _ hc
   have : q = 76 := (by decide : ∀ q, q ∈ 76 :: kEnd.E → q = 76) q hq
   rw [this] at hc
   cases hc)),
  fun q v hq => by
   obtain ⟨k, h1, h2, h3⟩ := h.kf q v hq
   exact ⟨k, h1, h2, R_keep h3 (fun g _ q hq cells hc => hstep g q ((by decide : ∀ q, q ∈ 43 :: k43.E → q ≠ 76) q hq) ((by decide : ∀ q, q ∈ 43 :: k43.E → q ≠ 69) q hq) cells hc)⟩, h.kt,
  fun q v hq => by
   obtain ⟨r, h1, h2, cs, h3, h4⟩ := h.pf q v hq
   exact ⟨r, h1, h2, cs, h3, M_keep h4 (fun g _ q hq cells hc => hstep g q ((by decide : ∀ q, q ∈ k26.E → q ≠ 76) q hq) ((by decide : ∀ q, q ∈ k26.E → q ≠ 69) q hq) cells hc)⟩, h.pt, h.okb, h.okk, h.okp, h.ne, ⟨h.good.keys, h.good.rise, h.good.few, h.good.recs, hl, h.good.over⟩⟩
theorem Parts.prep_rec (h : Parts w ok b N s bk bp ve fk fp) (r : Rec) (hr : r ∈ s.P) : ∃ v7 v8, fp (ik r.f1) = some (.agg #[.int .i64 r.f0, .int .i64 r.f1, .int .i64 r.f2, .int .i64 r.f3, .string r.f4, .string r.f5, .bool r.f6, v7, v8]) ∧ Kd.string.R 9 w 0 ok v7 r.f7 ∧ Kd.R k57 57 w 0 ok v8 r.f8 := by
 obtain ⟨v, hv⟩ := Option.isSome_iff_exists.1 (h.pt r hr)
 obtain ⟨r', h1, h2, cs, rfl, hM⟩ := h.pf _ v hv
 have h2' : r.f1 = r'.f1 := by unfold ik at h2; injection h2
 obtain rfl := prep_one h.good.rise hr h1 h2'
 obtain ⟨v7, v8, rfl, h7, h8⟩ := k26_openM hM
 exact ⟨v7, v8, hv, h7, h8⟩
theorem Parts.box6 (h : Parts w ok b N s bk bp ve fk fp) (hg : w.grownBy w6 ve.ownBlock) : w6.heap[b]? = some (.cells #[.map (some bk), .map (some bp), ve, .int .i64 s.over] 69 (0, 0)) :=
 (hg.block b (blk_lt h.box) (fun e => by
  obtain ⟨_, _, c2, h2⟩ := R_own h.ends e.symm
  rw [h.box] at h2
  injection h2 with h2
  injection h2 with _ h2
  cases h2)).trans h.box
theorem endV_few {s : Sh} {t ts : Int} (h : ¬ 1023 < s.E.length) : endV s t ts = { s with P := s.P.filter (fun r => !decide (r.f1 = t)), E := s.E ++ [(t, ts)] } := by
 unfold endV endE
 rw [if_neg (by rw [List.length_append, List.length_singleton]; omega)]
theorem endV_full {s : Sh} {t ts : Int} (h : 1023 < s.E.length) : endV s t ts = { s with P := s.P.filter (fun r => !decide (r.f1 = t)), E := (s.E ++ [(t, ts)]).drop 1 } := by
 unfold endV endE
 rw [if_pos (by rw [List.length_append, List.length_singleton]; omega)]
theorem ends_drop {w : World} {base : Nat} {A : Option Addr} {c : Nat} {E : List (Int × Int)} {x : Int × Int} (h : kEnd.R 76 w base ok (.slice A (E.length + 1) c) (E ++ [x])) (hE : E.length ≤ 1024) : ∃ A2, (∀ W, (Instr.slice 67 (.slice A (E.length + 1) c) (some (.int .i64 1)) none none).run Tryz.prog W = .ok (.slice A2 E.length (c - 1)) W) ∧
 Calls Tryz.prog 44 #[.slice A2 E.length (c - 1)] w fun e w' => ∃ v, e = .returned v ∧ Kd.R kEnd 76 w' w.heap.size (fun _ => True) v ((E ++ [x]).drop 1) ∧ Below w.heap.size w w' := by
 obtain ⟨A10, c10, he10, hle10, hC10⟩ := Kd.R_reads h
 injection he10 with e1 e2 e3
 subst e1 e3
 have hl : (E ++ [x]).length = E.length + 1 := by simp
 have hC11 := Kd.C_drop (m := 1) hC10 (by omega) hle10
 have hcl := clone_end w _ (c - 1) ((E ++ [x]).drop 1) hC11 (by rw [List.length_drop]; omega)
 rw [List.length_drop, hl] at hcl
 obtain ⟨i0, hi0, _, hsz, _⟩ := info_parts infoE
 have hcut := cut_from (P := Tryz.prog) 67 76 .i64 Tryz.underlying67 hi0 2 hsz A (E.length + 1) c (1 : Int) (by omega) (by omega)
 exact ⟨_, hcut, hcl⟩
theorem Chg.ended (h : Parts w ok b N s bk bp ve fk fp) (hg : w.grownBy w6 ve.ownBlock) (v1 : Value) : Chg ok w (w6.setCell ⟨b, 2, none⟩ v1) :=
 have h1 : Chg ok w w6 := ⟨⟨hg.os, hg.tape, hg.output, hg.size, fun g hg' hn => hg.block g hg' (fun e => hn (R_own h.ends e.symm).1)⟩, fun g hg' q cells hq hc => hg.block g (blk_lt hc) (fun e => by
  obtain ⟨cs, hcs⟩ := Kd.R_typed h.ends g e.symm
  exact absurd hc (other_type hcs (by decide) (by decide) (by decide) q cells hq))⟩
 Chg.trans h1 (Chg.of_grown (grown_set w6 ⟨b, 2, none⟩ v1) h.okb (other_type (h.box6 hg) (by decide) (by decide) (by decide)))
end

set_option maxRecDepth 100000 in
set_option maxHeartbeats 8000000 in
theorem do_walk {w : World} {ok : Nat → Prop} {b N : Nat} {s : Sh} (h : ShAt w ok b N s) (hE : s.E.length ≤ 1024) (hok : ∀ g, w.heap.size ≤ g → ok g) (hN : N + 1024 < maxLen) (t ts : Int) (ht : 0 ≤ t ∧ t ≤ 1125899906842623) (hts : 0 ≤ ts ∧ ts ≤ 1125899906842624) :
 Calls Tryz.prog 34 #[.pointer (some ⟨b, 0, none⟩), .int .i64 t, .int .i64 ts] w fun e w' => e = .returned (.int .i64 (doV s t ts).1) ∧ ShAt w' ok b (N + 16) (doV s t ts).2 ∧ Chg ok w w' := by
 have HST := Aside0.mk (state_walk h t (by omega))
 have HS := Aside0.mk h
 have HEN := Aside0.mk hE
 have HOK := Aside0.mk hok
 have HNN := Aside0.mk hN
 have HT := Aside0.mk (And.intro ht hts)
 have HDV : Aside0 (doV s t ts = if 1 < (stateV s t).1 ∧ (stateV s t).2 = ts then (6, s)
  else if 1 < (stateV s t).1 then (120, s)
  else if (stateV s t).1 = 1 ∧ 0 < ts then
   (if roomV s (writesOf s t) ts = 0 then (0, endV { s with K := putV s.K (writesOf s t) ts } t ts) else (roomV s (writesOf s t) ts, s))
  else (0, endV s t ts)) := ⟨rfl⟩
 have HSC := Aside0.mk (state_cases s t)
 have HWO := Aside0.mk (fun hz => writesOf_some (s := s) (t := t) hz)
 have HDP := Aside0.mk (fun (q : ShOk s) (p : 0 < ts ∧ ts ≤ 1125899906842624) h1 h0 => do_put (s := s) (t := t) (ts := ts) q p h1 h0)
 clear h hok hN ht hE
 go_enter Tryz.func34, Tryz.ntmps34
 go_wp2_with fail
 refine HST.out.mono ?_
 rintro e w1 ⟨rfl, hb1⟩
 have HB1 := Aside0.mk hb1
 have HS1 := Aside0.mk (HS.out.below hb1)
 clear hb1 HST HS
 generalize (stateV s t).1 = st at *
 generalize (stateV s t).2 = was at *
 by_cases hst : 1 < st
 ·have g1 : decide (st > 1) = true := decide_eq_true hst
  by_cases hw : was = ts
  ·have HDV2 : Aside0 (doV s t ts = (6, s)) := ⟨by rw [HDV.out, if_pos ⟨hst, hw⟩]⟩
   have g2 : (was == ts) = true := by simpa using hw
   clear HDV HSC HWO HDP hw hst
   go_wp2_with fail
   go_ret
   exact ⟨by rw [HDV2.out]; rfl, by rw [HDV2.out]; exact HS1.out.mono (Nat.le_add_right _ _), Chg.of_below HB1.out⟩
  ·have HDV2 : Aside0 (doV s t ts = (120, s)) := ⟨by rw [HDV.out, if_neg (fun h => hw h.2), if_pos hst]⟩
   have g2 : (was == ts) = false := by simpa using hw
   clear HDV HSC HWO HDP hw hst
   go_wp2_with fail
   go_ret
   exact ⟨by rw [HDV2.out]; rfl, by rw [HDV2.out]; exact HS1.out.mono (Nat.le_add_right _ _), Chg.of_below HB1.out⟩
 ·have g1 : decide (st > 1) = false := decide_eq_false hst
  have HD2 : Aside0 (doV s t ts = if st = 1 ∧ 0 < ts then (if roomV s (writesOf s t) ts = 0 then (0, endV { s with K := putV s.K (writesOf s t) ts } t ts) else (roomV s (writesOf s t) ts, s)) else (0, endV s t ts)) := ⟨by rw [HDV.out, if_neg (fun h => hst h.1), if_neg hst]⟩
  clear HDV hst
  by_cases hs1 : st = 1 ∧ 0 < ts
  ·obtain ⟨rfl, hts0⟩ := hs1
   obtain ⟨r, hr, hrt, hwo⟩ := HWO.out rfl
   have g4 : decide (ts > 0) = true := decide_eq_true hts0
   obtain ⟨bk, bp, ve, fk, fp, hp⟩ := HS1.out
   obtain ⟨v7, v8, hfv, hR7, hR8⟩ := hp.prep_rec r hr
   obtain ⟨A7, c7, rfl, hle7, hC7⟩ := Kd.R_reads hR7
   obtain ⟨A8, c8, rfl, hle8, hC8⟩ := Kd.R_reads hR8
   rw [hrt] at hfv
   have HV : Aside0 ((fp (ik t)).getD (.agg #[.int .i64 0, .int .i64 0, .int .i64 0, .int .i64 0, .string ⟨#[]⟩, .string ⟨#[]⟩, .bool false, .slice none 0 0, .slice none 0 0]) = .agg #[.int .i64 r.f0, .int .i64 t, .int .i64 r.f2, .int .i64 r.f3, .string r.f4, .string r.f5, .bool r.f6, .slice A7 r.f7.length c7, .slice A8 r.f8.length c8]) := ⟨by rw [hfv]; rfl⟩
   have hfd : ∀ W, (Instr.field 26 (.agg #[.int .i64 r.f0, .int .i64 t, .int .i64 r.f2, .int .i64 r.f3, .string r.f4, .string r.f5, .bool r.f6, .slice A7 r.f7.length c7, .slice A8 r.f8.length c8]) 8).run Tryz.prog W = .ok (.slice A8 r.f8.length c8) W := fun W => by kernel_rfl
   have hls := (prep_lists (hp.good.recs r hr).1 (hp.good.recs r hr).2).1
   have HKS : Aside0 (∀ x ∈ r.f8, x.f0.size ≤ maxLen) := ⟨fun x hx => Nat.le_trans (key_size (hls.key8 x hx)) (by decide)⟩
   have hf16 := hls.few8
   rw [hwo] at HD2 HDP
   have HRM := Aside0.mk (room_walk HS1.out A8 c8 r.f8 hC8 (by omega) HKS.out ts)
   have HPO : Aside0 (roomV s r.f8 ts = 0 → PutOk s.K r.f8 ts) := ⟨fun h => HDP.out hp.good ⟨hts0, HT.out.2.2⟩ rfl h⟩
   have HR8 := Aside0.mk hR8
   have HD3 : Aside0 (doV s t ts = if roomV s r.f8 ts = 0 then (0, endV { s with K := putV s.K r.f8 ts } t ts) else (roomV s r.f8 ts, s)) := ⟨by rw [HD2.out, if_pos ⟨rfl, hts0⟩]⟩
   have HP1 := Aside0.mk hp
   obtain ⟨c0, c1, c2, c3⟩ := hp.cells
   clear hp hR7 hle7 hC7 hR8 hle8 hC8 hfv hls hwo hrt hr HD2 HDP HWO HSC
   generalize roomV s r.f8 ts = rv at *
   go_wp2_with (at_lookup; refine MapL.at_ HP1.out.preps keyedI rfl _ _ 66 26 rfl Tryz.underlying66 (zeroR _) rfl rfl (key_ik (t := t) (by have := HT.out; omega)) ?_; rw [HV.out])
   refine HRM.out.mono ?_
   rintro e w2 ⟨rfl, hb2⟩
   have HB2 : Aside0 (Below w.heap.size w w2) := ⟨HB1.out.trans (hb2.mono HB1.out.size)⟩
   have HS2 := Aside0.mk (HS1.out.below hb2)
   have HR9 := Aside0.mk (Kd.R_below HR8.out hb2)
   clear hb2 c0 c1 c2 c3 HP1 HV hfd HRM HS1 HR8
   by_cases hm : rv = 0
   ·subst hm
    rw [if_pos rfl] at HD3
    have OK2 : Aside0 (∀ g, w2.heap.size ≤ g → ok g) := ⟨fun g hg => HOK.out g (Nat.le_trans HB2.out.size hg)⟩
    have HPU := Aside0.mk (put_walk HS2.out OK2.out A8 c8 r.f8 HR9.out (by omega) HKS.out ts (HPO.out rfl) (by have := HNN.out; omega))
    go_wp2_with fail
    refine HPU.out.mono ?_
    rintro e w3 ⟨rfl, hs3, hch3, -⟩
    have CH3 : Aside0 (Chg ok w w3) := ⟨(Chg.of_below HB2.out).trans hch3⟩
    obtain ⟨bk, bp, ve, fk, fp, hp⟩ := hs3
    have HP3 := Aside0.mk (hp.mono (show N + r.f8.length ≤ N + 16 by omega))
    have OK3 : Aside0 (∀ g, w3.heap.size ≤ g → ok g) := ⟨fun g hg => HOK.out g (Nat.le_trans CH3.out.size hg)⟩
    clear hp hch3 HPU HS2 HPO HR9 hf16
    by_cases hf : 1023 < s.E.length
    ·have g5 : decide (((s.E.length : Nat) : Int) + 1 > 1024) = true := decide_eq_true (by omega)
     obtain ⟨c0, c1, c2, c3⟩ := HP3.out.cells
     go_wp2_with (first
      | (at_delete; refine MapL.drop HP3.out.preps keyedI rfl _ _ 66 26 rfl Tryz.underlying66 rfl rfl (key_ik (t := t) (by have := HT.out; omega)) ?_; intro w7 hm7 hg7; have HG7 := Aside0.mk hg7; have HP7 := Aside0.mk (HP3.out.del hg7 t hm7); clear c0 c1 c2 c3 hm7 hg7; obtain ⟨c0, c1, c2, c3⟩ := HP7.out.cells)
      | (at_builtin; refine Kd.R_append kEnd (w0 := w7) 0 rfl (.tmp 62) (.tmp 66) 67 76 (.agg #[.int .i64 0, .int .i64 0]) 16 rfl Tryz.underlying67 infoE rfl (by decide) (by omega) _ s.E (t, ts) [.int .i64 t, .int .i64 ts] ok (fun _ => False) rfl rfl (kEnd_mkM _ _ _ _) (fun _ hk => hk.elim) (fun j hj => OK3.out j (Nat.le_trans HG7.out.size hj)) HP7.out.ends (Below.refl _ _) (Nat.zero_le _) (by have := HEN.out; omega) ?_; intro v1 w8 ho hb hg hat; obtain ⟨A9, c9, hs9⟩ := Kd.R_slice ho; subst hs9; rw [List.length_append, List.length_singleton] at *; have HE8 := Aside0.mk ho; have HG8 := Aside0.mk hg; have hbx8 := HP7.out.box6 hg; clear ho hb hg hat c0 c1 c2 c3; have c2 := blk_cell hbx8 2; have f2 := blk_frozen hbx8 2; clear hbx8; have P9 := Aside0.mk (HP7.out.ended HG8.out HE8.out (by rw [List.length_append, List.length_singleton]; have := HEN.out; omega)); obtain ⟨A2, hc, hcl⟩ := ends_drop P9.out.ends HEN.out; have HCL := Aside0.mk hcl; clear hcl))
     refine HCL.out.mono ?_
     rintro e w10 ⟨v2, rfl, hv2, hb10⟩
     obtain ⟨A12, c12, hs12⟩ := Kd.R_slice hv2
     subst hs12
     have hln : ((s.E ++ [(t, ts)]).drop 1).length = s.E.length := by rw [List.length_drop, List.length_append, List.length_singleton]; omega
     rw [hln] at hv2 ⊢
     clear hln
     have HV10 := Aside0.mk hv2
     have HB10 := Aside0.mk hb10
     have hbx10 := blk_below P9.out.box hb10
     clear hv2 hb10 c2 f2 HCL hc
     have c2 := blk_cell hbx10 2
     have f2 := blk_frozen hbx10 2
     clear hbx10
     go_wp2_with fail
     go_ret
     have P11 := (P9.out.ended (grownBy_of_below HB10.out _) (R_new HV10.out (fun g hg => OK3.out g (Nat.le_trans (Nat.le_trans HG7.out.size (Chg.ended HP7.out HG8.out _).size) hg))) (by rw [List.length_drop, List.length_append, List.length_singleton]; have := HEN.out; omega))
     exact ⟨by rw [HD3.out]; rfl, by rw [HD3.out, endV_full (s := { s with K := putV s.K r.f8 ts }) hf]; exact ⟨bk, bp, _, fk, _, P11⟩, (((CH3.out.trans (Chg.of_grown HG7.out HP3.out.okp (fun _ _ _ => HP3.out.preps.not_cells))).trans (Chg.ended HP7.out HG8.out _))).trans (Chg.ended P9.out (grownBy_of_below HB10.out _) _)⟩
    ·have g5 : decide (((s.E.length : Nat) : Int) + 1 > 1024) = false := decide_eq_false (by omega)
     obtain ⟨c0, c1, c2, c3⟩ := HP3.out.cells
     go_wp2_with (first
      | (at_delete; refine MapL.drop HP3.out.preps keyedI rfl _ _ 66 26 rfl Tryz.underlying66 rfl rfl (key_ik (t := t) (by have := HT.out; omega)) ?_; intro w7 hm7 hg7; have HG7 := Aside0.mk hg7; have HP7 := Aside0.mk (HP3.out.del hg7 t hm7); clear c0 c1 c2 c3 hm7 hg7; obtain ⟨c0, c1, c2, c3⟩ := HP7.out.cells)
      | (at_builtin; refine Kd.R_append kEnd (w0 := w7) 0 rfl (.tmp 62) (.tmp 66) 67 76 (.agg #[.int .i64 0, .int .i64 0]) 16 rfl Tryz.underlying67 infoE rfl (by decide) (by omega) _ s.E (t, ts) [.int .i64 t, .int .i64 ts] ok (fun _ => False) rfl rfl (kEnd_mkM _ _ _ _) (fun _ hk => hk.elim) (fun j hj => OK3.out j (Nat.le_trans HG7.out.size hj)) HP7.out.ends (Below.refl _ _) (Nat.zero_le _) (by have := HEN.out; omega) ?_; intro v1 w8 ho hb hg hat; obtain ⟨A9, c9, hs9⟩ := Kd.R_slice ho; subst hs9; rw [List.length_append, List.length_singleton] at *; have HE8 := Aside0.mk ho; have HG8 := Aside0.mk hg; have hbx8 := HP7.out.box6 hg; clear ho hb hg hat c0 c1 c2 c3; have c2 := blk_cell hbx8 2; have f2 := blk_frozen hbx8 2; clear hbx8))
     go_ret
     have P9 := HP7.out.ended HG8.out HE8.out (by rw [List.length_append, List.length_singleton]; have := HEN.out; omega)
     exact ⟨by rw [HD3.out]; rfl, by rw [HD3.out, endV_few (s := { s with K := putV s.K r.f8 ts }) hf]; exact ⟨bk, bp, _, fk, _, P9⟩, (CH3.out.trans (Chg.of_grown HG7.out HP3.out.okp (fun _ _ _ => HP3.out.preps.not_cells))).trans (Chg.ended HP7.out HG8.out _)⟩
   ·have HD4 : Aside0 (doV s t ts = (rv, s)) := ⟨by rw [HD3.out, if_neg hm]⟩
    have g5 : (rv != 0) = true := by simpa using hm
    clear hm HD3 HPO
    go_wp2_with fail
    go_ret
    exact ⟨by rw [HD4.out]; rfl, by rw [HD4.out]; exact HS2.out.mono (Nat.le_add_right _ _), Chg.of_below HB2.out⟩
  ·have HDV2 : Aside0 (doV s t ts = (0, endV s t ts)) := ⟨by rw [HD2.out, if_neg hs1]⟩
   have CH1 : Aside0 (Chg ok w w1) := ⟨Chg.of_below HB1.out⟩
   obtain ⟨bk, bp, ve, fk, fp, hp⟩ := HS1.out
   have HP1 := Aside0.mk (hp.mono (Nat.le_add_right N 16))
   clear hp HS1
   have OK1 : Aside0 (∀ g, w1.heap.size ≤ g → ok g) := ⟨fun g hg => HOK.out g (Nat.le_trans CH1.out.size hg)⟩
   by_cases hs2 : st = 1
   ·have g3 : (st == 1) = true := by simpa using hs2
    have g4 : decide (ts > 0) = false := decide_eq_false (fun h => hs1 ⟨hs2, h⟩)
    clear hs1 hs2 HD2 HSC HWO HDP
    by_cases hf : 1023 < s.E.length
    ·have g5 : decide (((s.E.length : Nat) : Int) + 1 > 1024) = true := decide_eq_true (by omega)
     obtain ⟨c0, c1, c2, c3⟩ := HP1.out.cells
     go_wp2_with (first
      | (at_delete; refine MapL.drop HP1.out.preps keyedI rfl _ _ 66 26 rfl Tryz.underlying66 rfl rfl (key_ik (t := t) (by have := HT.out; omega)) ?_; intro w7 hm7 hg7; have HG7 := Aside0.mk hg7; have HP7 := Aside0.mk (HP1.out.del hg7 t hm7); clear c0 c1 c2 c3 hm7 hg7; obtain ⟨c0, c1, c2, c3⟩ := HP7.out.cells)
      | (at_builtin; refine Kd.R_append kEnd (w0 := w7) 0 rfl (.tmp 62) (.tmp 66) 67 76 (.agg #[.int .i64 0, .int .i64 0]) 16 rfl Tryz.underlying67 infoE rfl (by decide) (by omega) _ s.E (t, ts) [.int .i64 t, .int .i64 ts] ok (fun _ => False) rfl rfl (kEnd_mkM _ _ _ _) (fun _ hk => hk.elim) (fun j hj => OK1.out j (Nat.le_trans HG7.out.size hj)) HP7.out.ends (Below.refl _ _) (Nat.zero_le _) (by have := HEN.out; omega) ?_; intro v1 w8 ho hb hg hat; obtain ⟨A9, c9, hs9⟩ := Kd.R_slice ho; subst hs9; rw [List.length_append, List.length_singleton] at *; have HE8 := Aside0.mk ho; have HG8 := Aside0.mk hg; have hbx8 := HP7.out.box6 hg; clear ho hb hg hat c0 c1 c2 c3; have c2 := blk_cell hbx8 2; have f2 := blk_frozen hbx8 2; clear hbx8; have P9 := Aside0.mk (HP7.out.ended HG8.out HE8.out (by rw [List.length_append, List.length_singleton]; have := HEN.out; omega)); obtain ⟨A2, hc, hcl⟩ := ends_drop P9.out.ends HEN.out; have HCL := Aside0.mk hcl; clear hcl))
     refine HCL.out.mono ?_
     rintro e w10 ⟨v2, rfl, hv2, hb10⟩
     obtain ⟨A12, c12, hs12⟩ := Kd.R_slice hv2
     subst hs12
     have hln : ((s.E ++ [(t, ts)]).drop 1).length = s.E.length := by rw [List.length_drop, List.length_append, List.length_singleton]; omega
     rw [hln] at hv2 ⊢
     clear hln
     have HV10 := Aside0.mk hv2
     have HB10 := Aside0.mk hb10
     have hbx10 := blk_below P9.out.box hb10
     clear hv2 hb10 c2 f2 HCL hc
     have c2 := blk_cell hbx10 2
     have f2 := blk_frozen hbx10 2
     clear hbx10
     go_wp2_with fail
     go_ret
     have P11 := (P9.out.ended (grownBy_of_below HB10.out _) (R_new HV10.out (fun g hg => OK1.out g (Nat.le_trans (Nat.le_trans HG7.out.size (Chg.ended HP7.out HG8.out _).size) hg))) (by rw [List.length_drop, List.length_append, List.length_singleton]; have := HEN.out; omega))
     exact ⟨by rw [HDV2.out]; rfl, by rw [HDV2.out, endV_full (s := s) hf]; exact ⟨bk, bp, _, fk, _, P11⟩, (((CH1.out.trans (Chg.of_grown HG7.out HP1.out.okp (fun _ _ _ => HP1.out.preps.not_cells))).trans (Chg.ended HP7.out HG8.out _))).trans (Chg.ended P9.out (grownBy_of_below HB10.out _) _)⟩
    ·have g5 : decide (((s.E.length : Nat) : Int) + 1 > 1024) = false := decide_eq_false (by omega)
     obtain ⟨c0, c1, c2, c3⟩ := HP1.out.cells
     go_wp2_with (first
      | (at_delete; refine MapL.drop HP1.out.preps keyedI rfl _ _ 66 26 rfl Tryz.underlying66 rfl rfl (key_ik (t := t) (by have := HT.out; omega)) ?_; intro w7 hm7 hg7; have HG7 := Aside0.mk hg7; have HP7 := Aside0.mk (HP1.out.del hg7 t hm7); clear c0 c1 c2 c3 hm7 hg7; obtain ⟨c0, c1, c2, c3⟩ := HP7.out.cells)
      | (at_builtin; refine Kd.R_append kEnd (w0 := w7) 0 rfl (.tmp 62) (.tmp 66) 67 76 (.agg #[.int .i64 0, .int .i64 0]) 16 rfl Tryz.underlying67 infoE rfl (by decide) (by omega) _ s.E (t, ts) [.int .i64 t, .int .i64 ts] ok (fun _ => False) rfl rfl (kEnd_mkM _ _ _ _) (fun _ hk => hk.elim) (fun j hj => OK1.out j (Nat.le_trans HG7.out.size hj)) HP7.out.ends (Below.refl _ _) (Nat.zero_le _) (by have := HEN.out; omega) ?_; intro v1 w8 ho hb hg hat; obtain ⟨A9, c9, hs9⟩ := Kd.R_slice ho; subst hs9; rw [List.length_append, List.length_singleton] at *; have HE8 := Aside0.mk ho; have HG8 := Aside0.mk hg; have hbx8 := HP7.out.box6 hg; clear ho hb hg hat c0 c1 c2 c3; have c2 := blk_cell hbx8 2; have f2 := blk_frozen hbx8 2; clear hbx8))
     go_ret
     have P9 := HP7.out.ended HG8.out HE8.out (by rw [List.length_append, List.length_singleton]; have := HEN.out; omega)
     exact ⟨by rw [HDV2.out]; rfl, by rw [HDV2.out, endV_few (s := s) hf]; exact ⟨bk, bp, _, fk, _, P9⟩, (CH1.out.trans (Chg.of_grown HG7.out HP1.out.okp (fun _ _ _ => HP1.out.preps.not_cells))).trans (Chg.ended HP7.out HG8.out _)⟩
   ·have g3 : (st == 1) = false := by simpa using hs2
    clear hs1 hs2 HD2 HSC HWO HDP
    by_cases hf : 1023 < s.E.length
    ·have g5 : decide (((s.E.length : Nat) : Int) + 1 > 1024) = true := decide_eq_true (by omega)
     obtain ⟨c0, c1, c2, c3⟩ := HP1.out.cells
     go_wp2_with (first
      | (at_delete; refine MapL.drop HP1.out.preps keyedI rfl _ _ 66 26 rfl Tryz.underlying66 rfl rfl (key_ik (t := t) (by have := HT.out; omega)) ?_; intro w7 hm7 hg7; have HG7 := Aside0.mk hg7; have HP7 := Aside0.mk (HP1.out.del hg7 t hm7); clear c0 c1 c2 c3 hm7 hg7; obtain ⟨c0, c1, c2, c3⟩ := HP7.out.cells)
      | (at_builtin; refine Kd.R_append kEnd (w0 := w7) 0 rfl (.tmp 62) (.tmp 66) 67 76 (.agg #[.int .i64 0, .int .i64 0]) 16 rfl Tryz.underlying67 infoE rfl (by decide) (by omega) _ s.E (t, ts) [.int .i64 t, .int .i64 ts] ok (fun _ => False) rfl rfl (kEnd_mkM _ _ _ _) (fun _ hk => hk.elim) (fun j hj => OK1.out j (Nat.le_trans HG7.out.size hj)) HP7.out.ends (Below.refl _ _) (Nat.zero_le _) (by have := HEN.out; omega) ?_; intro v1 w8 ho hb hg hat; obtain ⟨A9, c9, hs9⟩ := Kd.R_slice ho; subst hs9; rw [List.length_append, List.length_singleton] at *; have HE8 := Aside0.mk ho; have HG8 := Aside0.mk hg; have hbx8 := HP7.out.box6 hg; clear ho hb hg hat c0 c1 c2 c3; have c2 := blk_cell hbx8 2; have f2 := blk_frozen hbx8 2; clear hbx8; have P9 := Aside0.mk (HP7.out.ended HG8.out HE8.out (by rw [List.length_append, List.length_singleton]; have := HEN.out; omega)); obtain ⟨A2, hc, hcl⟩ := ends_drop P9.out.ends HEN.out; have HCL := Aside0.mk hcl; clear hcl))
     refine HCL.out.mono ?_
     rintro e w10 ⟨v2, rfl, hv2, hb10⟩
     obtain ⟨A12, c12, hs12⟩ := Kd.R_slice hv2
     subst hs12
     have hln : ((s.E ++ [(t, ts)]).drop 1).length = s.E.length := by rw [List.length_drop, List.length_append, List.length_singleton]; omega
     rw [hln] at hv2 ⊢
     clear hln
     have HV10 := Aside0.mk hv2
     have HB10 := Aside0.mk hb10
     have hbx10 := blk_below P9.out.box hb10
     clear hv2 hb10 c2 f2 HCL hc
     have c2 := blk_cell hbx10 2
     have f2 := blk_frozen hbx10 2
     clear hbx10
     go_wp2_with fail
     go_ret
     have P11 := (P9.out.ended (grownBy_of_below HB10.out _) (R_new HV10.out (fun g hg => OK1.out g (Nat.le_trans (Nat.le_trans HG7.out.size (Chg.ended HP7.out HG8.out _).size) hg))) (by rw [List.length_drop, List.length_append, List.length_singleton]; have := HEN.out; omega))
     exact ⟨by rw [HDV2.out]; rfl, by rw [HDV2.out, endV_full (s := s) hf]; exact ⟨bk, bp, _, fk, _, P11⟩, (((CH1.out.trans (Chg.of_grown HG7.out HP1.out.okp (fun _ _ _ => HP1.out.preps.not_cells))).trans (Chg.ended HP7.out HG8.out _))).trans (Chg.ended P9.out (grownBy_of_below HB10.out _) _)⟩
    ·have g5 : decide (((s.E.length : Nat) : Int) + 1 > 1024) = false := decide_eq_false (by omega)
     obtain ⟨c0, c1, c2, c3⟩ := HP1.out.cells
     go_wp2_with (first
      | (at_delete; refine MapL.drop HP1.out.preps keyedI rfl _ _ 66 26 rfl Tryz.underlying66 rfl rfl (key_ik (t := t) (by have := HT.out; omega)) ?_; intro w7 hm7 hg7; have HG7 := Aside0.mk hg7; have HP7 := Aside0.mk (HP1.out.del hg7 t hm7); clear c0 c1 c2 c3 hm7 hg7; obtain ⟨c0, c1, c2, c3⟩ := HP7.out.cells)
      | (at_builtin; refine Kd.R_append kEnd (w0 := w7) 0 rfl (.tmp 62) (.tmp 66) 67 76 (.agg #[.int .i64 0, .int .i64 0]) 16 rfl Tryz.underlying67 infoE rfl (by decide) (by omega) _ s.E (t, ts) [.int .i64 t, .int .i64 ts] ok (fun _ => False) rfl rfl (kEnd_mkM _ _ _ _) (fun _ hk => hk.elim) (fun j hj => OK1.out j (Nat.le_trans HG7.out.size hj)) HP7.out.ends (Below.refl _ _) (Nat.zero_le _) (by have := HEN.out; omega) ?_; intro v1 w8 ho hb hg hat; obtain ⟨A9, c9, hs9⟩ := Kd.R_slice ho; subst hs9; rw [List.length_append, List.length_singleton] at *; have HE8 := Aside0.mk ho; have HG8 := Aside0.mk hg; have hbx8 := HP7.out.box6 hg; clear ho hb hg hat c0 c1 c2 c3; have c2 := blk_cell hbx8 2; have f2 := blk_frozen hbx8 2; clear hbx8))
     go_ret
     have P9 := HP7.out.ended HG8.out HE8.out (by rw [List.length_append, List.length_singleton]; have := HEN.out; omega)
     exact ⟨by rw [HDV2.out]; rfl, by rw [HDV2.out, endV_few (s := s) hf]; exact ⟨bk, bp, _, fk, _, P9⟩, (CH1.out.trans (Chg.of_grown HG7.out HP1.out.okp (fun _ _ _ => HP1.out.preps.not_cells))).trans (Chg.ended HP7.out HG8.out _)⟩
end Go.Proofs.YtaldfbmjmpkmmaaGreat.PL
