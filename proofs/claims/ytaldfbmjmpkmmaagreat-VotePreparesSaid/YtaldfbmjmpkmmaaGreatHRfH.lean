/- The document's shelf, walked: end. -/
import Derived.Test.YtaldfbmjmpkmmaaGreatMeabf80
namespace Go.Proofs.YtaldfbmjmpkmmaaGreat.PL
open Go.RowKit Go.Proofs.YtaldfbmjmpkmmaaGreatW.PrintWords Go.Proofs.YtaldfbmjmpkmmaaGreatW.PrintLast Go.Proofs.YtaldfbmjmpkmmaaGreatW.PrintMore
set_option linter.unusedVariables false
set_option linter.unusedSimpArgs false
set_option linter.unusedSectionVars false
/-- A literal '[]T{}'. -/
theorem N_empty {α : Type} (d : Kd α) (e : Nat) (W : World) {base : Nat} {ok : Nat → Prop} (hb : base ≤ W.heap.size) (ho : ok W.heap.size) : Kd.N d e (W.alloc (.cells #[] e)) base ok (.slice (some ⟨W.heap.size, 0, none⟩) 0 0) [] := by
 refine Kd.R_N ⟨fun k hk => ?_, [], ?_, Reps.none _ _⟩
 ·have : W.heap.size = k := by simpa [Value.ownBlock] using hk
  subst this
  exact ho
 ·have h2 := World.ownsRow_lit (base := base) (e := e) (size := d.sz) W #[] 0 hb (by simp) (by simp)
  simpa using h2
section
variable {w w9 w' : World} {ok : Nat → Prop} {b : Nat} {s : Sh} {AK AP AE A3 : Option Addr} {cK cP cE c3 : Nat}
theorem RfP.setE (h : RfP w ok b s AK AP AE cK cP cE) (hb : Below w.heap.size w w9) (hm : ∀ k, k ≠ b → w'.heap[k]? = w9.heap[k]?) {E' : List (Int × Int)} (hbox : w'.heap[b]? = some (.cells #[.slice AK s.K.length cK, .slice AP s.P.length cP, .slice A3 E'.length c3, .int .i64 s.over] 51 (0, 0)))
 (hF : Kd.F kEnd w9 (fun g => ok g ∧ g ≠ b) A3 E'.length E') (hl : E'.length ≤ c3) (hpos : ∀ e ∈ E', 0 ≤ e.2) (hfew : E'.length ≤ 1024) : RfP w' ok b { s with E := E' } AK AP A3 cK cP c3 :=
 have h9 := h.below hb
 ⟨hbox, h9.lK, h9.lP, hl, Kd.F_step h9.fK (fun k hk _ => hm k hk.2), Kd.F_step h9.fP (fun k hk _ => hm k hk.2), Kd.F_step hF (fun k hk _ => hm k hk.2), h9.okb, hpos, hfew, ⟨h9.good.keys, h9.good.rise, h9.good.few, h9.good.recs, Nat.le_trans hfew (by decide), h9.good.over⟩⟩
end
theorem filter_at (t : Int) : ∀ (P : List Rec) (k : Nat) (hk : k < P.length), P.Pairwise (fun a b => a.f1 < b.f1) → P[k].f1 = t → P.filter (fun r => !decide (r.f1 = t)) = P.take k ++ P.drop (k + 1)
 | [], k, hk, _, _ => by simp at hk
 | p :: r, 0, hk, hp, h => by
  obtain ⟨h1, h2⟩ := List.pairwise_cons.1 hp
  have hpt : p.f1 = t := h
  rw [List.filter_cons, hpt]
  simp only [decide_true, Bool.not_true, Bool.false_eq_true, if_false, List.take_zero, List.nil_append, List.drop_succ_cons, List.drop_zero]
  exact List.filter_eq_self.2 (fun a ha => by have := h1 a ha; simp; omega)
 | p :: r, k + 1, hk, hp, h => by
  obtain ⟨h1, h2⟩ := List.pairwise_cons.1 hp
  have hk2 : k < r.length := by simpa using hk
  have hr : r[k].f1 = t := by simpa using h
  have hlt := h1 r[k] (List.getElem_mem hk2)
  rw [List.filter_cons]
  have hd : (!decide (p.f1 = t)) = true := by simp; omega
  rw [if_pos hd, filter_at t r k hk2 h2 hr]
  simp
theorem filter_none (t : Int) (P : List Rec) (h : ∀ r ∈ P, r.f1 ≠ t) : P.filter (fun r => !decide (r.f1 = t)) = P := List.filter_eq_self.2 (fun a ha => by simpa using h a ha)
theorem filter_ok {s : Sh} (h : ShOk s) (t : Int) : ShOk { s with P := s.P.filter (fun r => !decide (r.f1 = t)) } :=
 ⟨h.keys, h.rise.sublist List.filter_sublist, Nat.le_trans (List.length_filter_le _ _) h.few, fun r hr => h.recs r (List.mem_filter.1 hr).1, h.ends, h.over⟩


set_option maxRecDepth 100000 in
set_option maxHeartbeats 8000000 in
theorem rend_walk {w : World} {ok : Nat → Prop} {b : Nat} {s : Sh} (h : RfAt w ok b s) (hok : ∀ g, w.heap.size ≤ g → ok g) (t ts : Int) (hts : 0 ≤ ts) :
 Calls Tryz.prog 98 #[.pointer (some ⟨b, 0, none⟩), .int .i64 t, .int .i64 ts] w fun e w' => e = .returned (.tuple #[]) ∧ RfAt w' ok b (endV s t ts) ∧ Chg0 (fun g => g = b) w w' := by
 have HPR := Aside0.mk (rprep_walk h t)
 have hgood : ShOk s := by obtain ⟨AK, AP, AE, cK, cP, cE, hp⟩ := h; exact hp.good
 have hbl : b < w.heap.size := by obtain ⟨AK, AP, AE, cK, cP, cE, hp⟩ := h; exact blk_lt hp.box
 have HOK : Aside0 (∀ g, w.heap.size ≤ g → ok g ∧ g ≠ b) := ⟨fun g hg => ⟨hok g hg, by omega⟩⟩
 have HS := Aside0.mk h
 have HG := Aside0.mk hgood
 have HTS := Aside0.mk hts
 clear h hok hgood hbl hts
 go_enter Tryz.func98, Tryz.ntmps98
 go_upto_if 11 with (fail)
 refine HPR.out.mono ?_
 rintro e w1 ⟨i, rfl, hi, hb1⟩
 have HS1 := Aside0.mk (HS.out.below hb1)
 have HB1 := Aside0.mk hb1
 have OK1 : Aside0 (∀ g, w1.heap.size ≤ g → ok g ∧ g ≠ b) := ⟨fun g hg => HOK.out g (Nat.le_trans HB1.out.size hg)⟩
 clear hb1 HPR HS
 go_upto_if 11 with (fail)
 go_cut [6] (fun v6 wc => v6 = .int .i64 i ∧ Aside0 (RfAt wc ok b { s with P := s.P.filter (fun r => !decide (r.f1 = t)) }) ∧ Aside0 (Chg0 (fun g => g = b) w wc))
 case first =>
  rcases hi with ⟨rfl, hno⟩ | ⟨k, hk, rfl, hkt⟩
  ·have hf := filter_none t s.P hno
   have HS2 : Aside0 (RfAt w1 ok b { s with P := s.P.filter (fun r => !decide (r.f1 = t)) }) := ⟨by rw [hf]; exact HS1.out⟩
   clear hf hno
   go_wp2_with fail
   go_meet
   case rel => exact ⟨rfl, HS2, ⟨Chg0.of_below HB1.out⟩⟩
  ·have HFI := Aside0.mk (filter_at t s.P k hk HG.out.rise hkt)
   have HFO := Aside0.mk (filter_ok HG.out t)
   have hP4 := HG.out.few
   obtain ⟨AK, AP, AE, cK, cP, cE, hp⟩ := HS1.out
   have HP := Aside0.mk hp
   obtain ⟨-, c1, -, -⟩ := hp.cells
   obtain ⟨i0, hi0, _, hsz, _⟩ := info_parts infoRc
   have hlP := hp.lP
   have hcut1 := cut_to (P := Tryz.prog) 22 26 .i64 Tryz.underlying22 hi0 AP s.P.length cP (k : Int) (by omega) (by omega) hlP
   have hcut2 := cut_from (P := Tryz.prog) 22 26 .i64 Tryz.underlying22 hi0 9 hsz AP s.P.length cP ((k + 1 : Nat) : Int) (by omega) (by omega)
   rw [Int.toNat_natCast] at hcut1 hcut2
   have HLT : Aside0 ((s.P.take k).length = k) := ⟨by rw [List.length_take]; omega⟩
   have HTP : Aside0 (Kd.F k26 w1 (fun g => ok g ∧ g ≠ b) AP k (s.P.take k)) := ⟨by have := F_take (m := k) hp.fP (by omega); rwa [HLT.out] at this⟩
   have HDP : Aside0 (Kd.F k26 w1 (fun g => ok g ∧ g ≠ b) (if cP = k + 1 then AP else AP.map (·.add ((k + 1) * 9))) (s.P.length - (k + 1)) (s.P.drop (k + 1))) := ⟨by have := F_drop (m := k + 1) hp.fP (by omega) hlP; rwa [show (s.P.drop (k + 1)).length = s.P.length - (k + 1) from List.length_drop] at this⟩
   generalize (if cP = k + 1 then AP else AP.map (·.add ((k + 1) * 9))) = AD at *
   rw [show ((k + 1 : Nat) : Int) = (k : Int) + 1 by omega] at hcut2
   have HNUM : Aside0 (k < s.P.length ∧ s.P.length ≤ 1024) := ⟨hk, hP4⟩
   have hwr : IntKind.i64.wrap ((k : Int) + 1) = (k : Int) + 1 := by rw [i64_w, w64 _ (by omega) (by omega)]
   clear hp hi0 hsz hlP hkt
   have c1b : (w1.drew).cell? ⟨b, 1, none⟩ = some (.slice AP s.P.length cP) := pw_cell_below (below_drew1 (Below.refl _ _)) c1
   have c1c : (w1.alloc (.cells #[] 26)).drew.cell? ⟨b, 1, none⟩ = some (.slice AP s.P.length cP) := pw_cell_below (below_drew1 (below_alloc (Below.refl _ _) _)) c1
   go_wp2_with fail
   go_region_law (first
    | (refine Kd.N_append_rows_step k26 (w0 := w1) w1.heap.size (by rfl) (.tmp 13) (.tmp 19) 22 26 (.agg #[.int .i64 0, .int .i64 0, .int .i64 0, .int .i64 0, .string ⟨#[]⟩, .string ⟨#[]⟩, .bool false, .slice none 0 0, .slice none 0 0]) 120 rfl Tryz.underlying22 infoRc rfl (by decide) (by omega) (.slice (some ⟨w1.heap.size, 0, none⟩) 0 0) [] (s.P.take k) AP k cP (fun g => ok g ∧ g ≠ b) (fun g => (ok g ∧ g ≠ b) ∧ g < w1.heap.size) rfl rfl (Kd.N_drew (N_empty _ _ w1 (Nat.le_refl _) (OK1.out _ (Nat.le_refl _)))) (Kd.F_below (Kd.F_bound HTP.out) (below_drew1 (below_alloc (Below.refl _ _) _))) (fun j hj => ⟨hj.1, fun e => by simp [Value.ownBlock] at e; omega⟩) (fun g hg => OK1.out g (Nat.le_trans (by simp) hg)) (below_drew1 (below_alloc (Below.refl _ _) _)) (by simp) (by have := HNUM.out; simp; omega) ?_; intro v1 w3 hn1 hb3 hg3 _; rw [List.nil_append] at hn1; obtain ⟨A3, c3, rfl⟩ := Kd.N_slice hn1; rw [HLT.out]; rw [HLT.out] at hn1; have HN1 := Aside0.mk hn1; have HB3 := Aside0.mk hb3; clear hn1 hb3 hg3; obtain ⟨-, d1, -, -⟩ := (HP.out.below HB3.out).cells)
    | (refine Kd.N_append_rows_step k26 (w0 := w1) w1.heap.size (by rfl) (.tmp 20) (.tmp 27) 22 26 (.agg #[.int .i64 0, .int .i64 0, .int .i64 0, .int .i64 0, .string ⟨#[]⟩, .string ⟨#[]⟩, .bool false, .slice none 0 0, .slice none 0 0]) 120 rfl Tryz.underlying22 infoRc rfl (by decide) (by omega) _ (s.P.take k) (s.P.drop (k + 1)) AD (s.P.length - (k + 1)) (cP - (k + 1)) (fun g => ok g ∧ g ≠ b) (fun g => (ok g ∧ g ≠ b) ∧ g < w1.heap.size) rfl rfl HN1.out (Kd.F_below (Kd.F_bound HDP.out) HB3.out) (fun j hj => ⟨hj.1, own_ne HN1.out hj.2⟩) (fun g hg => OK1.out g (Nat.le_trans HB3.out.size hg)) HB3.out HB3.out.size (by have := HNUM.out; rw [HLT.out]; omega) ?_; intro v2 w4 hn2 hb4 hg4 _; rw [← HFI.out] at hn2; obtain ⟨A4, c4, rfl⟩ := Kd.N_slice hn2; have HN2 := Aside0.mk hn2; have HB4 := Aside0.mk hb4; clear hn2 hb4 hg4; obtain ⟨-, e1, -, -⟩ := (HP.out.below HB4.out).cells; have f1 := blk_frozen (HP.out.below HB4.out).box 1))
   all_goals (try go_wp2_with fail)
   all_goals go_meet
   all_goals (case rel => exact ⟨rfl, ⟨⟨_, _, _, _, _, _, HP.out.setP HB4.out (N_F HN2.out) (Kd.N_reads' HN2.out).2.1 HFO.out⟩⟩, ⟨(Chg0.of_below HB1.out).trans (Chg0.box_set HB4.out 1 _)⟩⟩)
 case rest =>
  obtain ⟨rfl, HS2, CH2⟩ := hcut
  have OKC : Aside0 (∀ g, wc.heap.size ≤ g → ok g ∧ g ≠ b) := ⟨fun g hg => HOK.out g (Nat.le_trans CH2.out.size hg)⟩
  obtain ⟨AK, AP, AE, cK, cP, cE, hp⟩ := HS2.out
  have HP := Aside0.mk hp
  obtain ⟨-, -, c2, -⟩ := hp.cells
  have c2a : (wc.alloc (.cells #[] 135)).cell? ⟨b, 2, none⟩ = some (.slice AE s.E.length cE) := pw_cell_below (below_alloc (Below.refl _ _) _) c2
  obtain ⟨i0, hi0, _, hsz, _⟩ := info_parts infoEd
  have HI := Aside0.mk hi0
  have HSZ := Aside0.mk hsz
  have hE4 : s.E.length ≤ 1024 := hp.few
  have HPO : Aside0 (∀ e ∈ s.E, 0 ≤ e.2) := ⟨hp.pos⟩
  have HNUM : Aside0 (s.E.length ≤ 1024) := ⟨hE4⟩
  have HL1 : Aside0 ((s.E ++ [(t, ts)]).length = s.E.length + 1) := ⟨by rw [List.length_append]; rfl⟩
  clear hi hi0 hsz hp HS2 HG HB1 HS1 OK1
  by_cases hf : 1023 < s.E.length
  ·have g5 : decide (((s.E.length : Nat) : Int) + 1 > 1024) = true := decide_eq_true (by omega)
   have g6 : decide (1024 < ((s.E.length : Nat) : Int) + 1) = true := decide_eq_true (by omega)
   have HEE : Aside0 (endE s.E (t, ts) = (s.E ++ [(t, ts)]).drop 1) := ⟨by unfold endE; rw [if_pos (by rw [HL1.out]; omega)]⟩
   go_wp2_with (first
    | (at_builtin; refine Kd.N_append_rows kEnd (w0 := wc) wc.heap.size rfl (.tmp 32) (.tmp 36) 49 135 (.agg #[.int .i64 0, .int .i64 0]) 16 rfl Tryz.underlying49 infoEd rfl (by decide) (by omega) (.slice (some ⟨wc.heap.size, 0, none⟩) 0 0) [] s.E AE s.E.length cE (fun g => ok g ∧ g ≠ b) (fun g => (ok g ∧ g ≠ b) ∧ g < wc.heap.size) rfl rfl (N_empty _ _ wc (Nat.le_refl _) (OKC.out _ (Nat.le_refl _))) (Kd.F_below (Kd.F_bound HP.out.fE) (below_alloc (Below.refl _ _) _)) (fun j hj => ⟨hj.1, fun e => by simp [Value.ownBlock] at e; omega⟩) (fun g hg => OKC.out g (Nat.le_trans (by simp) hg)) (below_alloc (Below.refl _ _) _) (by simp) (by have := HNUM.out; simp; omega) ?_; intro v1 w3 hn1 hb3 hg3 _; rw [List.nil_append] at hn1; obtain ⟨A3, c3, rfl⟩ := Kd.N_slice hn1; have HN1 := Aside0.mk hn1; have HB3 := Aside0.mk hb3; clear hn1 hb3 hg3 c2 c2a)
    | (at_builtin; refine Kd.N_append kEnd (w0 := wc) wc.heap.size rfl (.tmp 37) (.tmp 41) 49 135 (.agg #[.int .i64 0, .int .i64 0]) 16 rfl Tryz.underlying49 infoEd rfl (by decide) (by omega) (.slice A3 s.E.length c3) s.E (t, ts) [.int .i64 t, .int .i64 ts] (fun g => ok g ∧ g ≠ b) (fun _ => False) rfl rfl (fun W _ => kEnd_mk W (t, ts)) (fun j hj => hj.elim) (fun g hg => OKC.out g (Nat.le_trans HB3.out.size hg)) HN1.out HB3.out HB3.out.size (by have := HNUM.out; omega) ?_; intro v2 w4 hn2 hb4 hg4 _; obtain ⟨A4, c4, rfl⟩ := Kd.N_slice hn2; rw [HL1.out]; rw [HL1.out] at hn2; have HN2 := Aside0.mk hn2; have HB4 := Aside0.mk hb4; clear hn2 hb4 hg4; obtain ⟨-, -, c2, -⟩ := (HP.out.below HB4.out).cells; have f2 := blk_frozen (HP.out.below HB4.out).box 2; have hcut3 := cut_from (P := Tryz.prog) 49 135 .i64 Tryz.underlying49 HI.out 2 HSZ.out A4 (s.E.length + 1) c4 (1 : Int) (by omega) (by omega); obtain ⟨A5, hA5⟩ : ∃ A5, (if c4 = (1 : Int).toNat then A4 else A4.map (·.add ((1 : Int).toNat * 2))) = A5 := ⟨_, rfl⟩; rw [hA5] at hcut3; have HA5 := Aside0.mk hA5; clear hA5))
   go_end0
   have hl4 := (Kd.N_reads' HN2.out).2.1
   have hF := F_drop (m := 1) (N_F HN2.out) (by rw [HL1.out]; omega) (by rw [HL1.out]; exact hl4)
   have hF2 : Kd.F kEnd w4 (fun g => ok g ∧ g ≠ b) A5 ((s.E ++ [(t, ts)]).drop 1).length ((s.E ++ [(t, ts)]).drop 1) := by rw [← HA5.out]; exact hF
   have hdl : ((s.E ++ [(t, ts)]).drop 1).length = s.E.length := by rw [List.length_drop, HL1.out]; omega
   refine ⟨rfl, ⟨AK, AP, A5, cK, cP, c4 - 1, ?_⟩, ((CH2.out.trans (Chg0.box_set HB4.out 2 _)).trans (Chg0.of_grown (grown_set _ ⟨b, 2, none⟩ _) rfl))⟩
   show RfP _ ok b { s with P := s.P.filter (fun r => !decide (r.f1 = t)), E := endE s.E (t, ts) } AK AP A5 cK cP (c4 - 1)
   rw [HEE.out]
   refine HP.out.setE HB4.out (fun k hk => (Below.heap_setCell _ ⟨b, 2, none⟩ _ k hk).trans (Below.heap_setCell _ ⟨b, 2, none⟩ _ k hk)) ?_ hF2 (by rw [hdl]; omega) (fun e he => ?_) (by rw [hdl]; exact hE4)
   ·rw [hdl]
    exact blk_put (cs' := #[.slice AK s.K.length cK, .slice AP (s.P.filter (fun r => !decide (r.f1 = t))).length cP, .slice A5 s.E.length (c4 - 1), .int .i64 s.over]) (blk_put (cs' := #[.slice AK s.K.length cK, .slice AP (s.P.filter (fun r => !decide (r.f1 = t))).length cP, .slice A4 (s.E.length + 1) c4, .int .i64 s.over]) (HP.out.below HB4.out).box 2 _ rfl) 2 _ rfl
   ·have h1 := List.mem_of_mem_drop he
    rcases List.mem_append.1 h1 with h2 | h2
    ·exact HPO.out e h2
    ·rw [List.mem_singleton.1 h2]; exact HTS.out
  ·have g5 : decide (((s.E.length : Nat) : Int) + 1 > 1024) = false := decide_eq_false (by omega)
   have g6 : decide (1024 < ((s.E.length : Nat) : Int) + 1) = false := decide_eq_false (by omega)
   have HEE : Aside0 (endE s.E (t, ts) = s.E ++ [(t, ts)]) := ⟨by unfold endE; rw [if_neg (by rw [HL1.out]; omega)]⟩
   go_wp2_with (first
    | (at_builtin; refine Kd.N_append_rows kEnd (w0 := wc) wc.heap.size rfl (.tmp 32) (.tmp 36) 49 135 (.agg #[.int .i64 0, .int .i64 0]) 16 rfl Tryz.underlying49 infoEd rfl (by decide) (by omega) (.slice (some ⟨wc.heap.size, 0, none⟩) 0 0) [] s.E AE s.E.length cE (fun g => ok g ∧ g ≠ b) (fun g => (ok g ∧ g ≠ b) ∧ g < wc.heap.size) rfl rfl (N_empty _ _ wc (Nat.le_refl _) (OKC.out _ (Nat.le_refl _))) (Kd.F_below (Kd.F_bound HP.out.fE) (below_alloc (Below.refl _ _) _)) (fun j hj => ⟨hj.1, fun e => by simp [Value.ownBlock] at e; omega⟩) (fun g hg => OKC.out g (Nat.le_trans (by simp) hg)) (below_alloc (Below.refl _ _) _) (by simp) (by have := HNUM.out; simp; omega) ?_; intro v1 w3 hn1 hb3 hg3 _; rw [List.nil_append] at hn1; obtain ⟨A3, c3, rfl⟩ := Kd.N_slice hn1; have HN1 := Aside0.mk hn1; have HB3 := Aside0.mk hb3; clear hn1 hb3 hg3 c2 c2a)
    | (at_builtin; refine Kd.N_append kEnd (w0 := wc) wc.heap.size rfl (.tmp 37) (.tmp 41) 49 135 (.agg #[.int .i64 0, .int .i64 0]) 16 rfl Tryz.underlying49 infoEd rfl (by decide) (by omega) (.slice A3 s.E.length c3) s.E (t, ts) [.int .i64 t, .int .i64 ts] (fun g => ok g ∧ g ≠ b) (fun _ => False) rfl rfl (fun W _ => kEnd_mk W (t, ts)) (fun j hj => hj.elim) (fun g hg => OKC.out g (Nat.le_trans HB3.out.size hg)) HN1.out HB3.out HB3.out.size (by have := HNUM.out; omega) ?_; intro v2 w4 hn2 hb4 hg4 _; obtain ⟨A4, c4, rfl⟩ := Kd.N_slice hn2; rw [HL1.out]; rw [HL1.out] at hn2; have HN2 := Aside0.mk hn2; have HB4 := Aside0.mk hb4; clear hn2 hb4 hg4; obtain ⟨-, -, c2, -⟩ := (HP.out.below HB4.out).cells; have f2 := blk_frozen (HP.out.below HB4.out).box 2; have hcut3 := cut_from (P := Tryz.prog) 49 135 .i64 Tryz.underlying49 HI.out 2 HSZ.out A4 (s.E.length + 1) c4 (1 : Int) (by omega) (by omega)))
   go_end0
   refine ⟨rfl, ⟨AK, AP, A4, cK, cP, c4, ?_⟩, (CH2.out.trans (Chg0.box_set HB4.out 2 _))⟩
   show RfP _ ok b { s with P := s.P.filter (fun r => !decide (r.f1 = t)), E := endE s.E (t, ts) } AK AP A4 cK cP c4
   rw [HEE.out]
   refine HP.out.setE HB4.out (fun k hk => Below.heap_setCell _ ⟨b, 2, none⟩ _ k hk) ?_ (N_F HN2.out) (by rw [HL1.out]; exact (Kd.N_reads' HN2.out).2.1) (fun e he => ?_) (by rw [HL1.out]; omega)
   ·rw [HL1.out]
    exact blk_put (cs' := #[.slice AK s.K.length cK, .slice AP (s.P.filter (fun r => !decide (r.f1 = t))).length cP, .slice A4 (s.E.length + 1) c4, .int .i64 s.over]) (HP.out.below HB4.out).box 2 _ rfl
   ·rcases List.mem_append.1 he with h2 | h2
    ·exact HPO.out e h2
    ·rw [List.mem_singleton.1 h2]; exact HTS.out
end Go.Proofs.YtaldfbmjmpkmmaaGreat.PL
