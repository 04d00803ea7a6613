/- Texts of this proof, one behind the other (merged by a program of this session). -/
import Derived.Test.YtaldfbmjmpkmmaaGreatHShU
namespace Go.Proofs.YtaldfbmjmpkmmaaGreat.PL
open Go.RowKit Go.Proofs.YtaldfbmjmpkmmaaGreatW.PrintWords Go.Proofs.YtaldfbmjmpkmmaaGreatW.PrintLast Go.Proofs.YtaldfbmjmpkmmaaGreatW.PrintMore Go.Shelf Go.Maps Go.WideMaps Go.Proofs.YtaldfbmjmpkmmaaGreat.Mk
set_option linter.unusedVariables false
set_option linter.unusedSimpArgs false
set_option linter.unusedSectionVars false
/-- A shelf in memory, but for its chains. -/
structure Half (w : World) (ok : Nat → Prop) (b N : Nat) (s : Sh) (bk bp : Nat) (ve : Value) (fp : Lit → Option Value) : Prop where
 box : w.heap[b]? = some (.cells #[.map (some bk), .map (some bp), ve, .int .i64 s.over] 69 (0, 0))
 preps : MapL Tryz.prog 3 w bp N fp
 ends : kEnd.R 76 w 0 ok ve s.E
 pf : ∀ q v, fp q = some v → ∃ r, r ∈ s.P ∧ q = ik r.f1 ∧ ∃ cs, v = .agg cs.toArray ∧ k26.M w 0 ok r cs
section
variable {ok : Nat → Prop} {w w' : World} {b N : Nat} {s : Sh} {bk bp : Nat} {ve : Value} {fk fp : Lit → Option Value}
theorem Half.below (h : Half w ok b N s bk bp ve fp) (hb : Below w.heap.size w w') : Half w' ok b N s bk bp ve fp :=
 ⟨blk_below h.box hb, h.preps.below hb, Kd.R_below h.ends hb, fun q v hq => by
  obtain ⟨r, h1, h2, cs, h3, h4⟩ := h.pf q v hq
  exact ⟨r, h1, h2, cs, h3, Kd.M_below h4 hb⟩⟩
theorem Half.grown {x : Nat} (h : Half w ok b N s bk bp ve fp) (hg : w.grownBy w' (some x)) (hb : ∀ cells q, w.heap[x]? ≠ some (.cells cells q (0, 0))) (hne : x ≠ bp) : Half w' ok b N s bk bp ve fp :=
 ⟨blk_map h.box hg hb, h.preps.kept hg (fun e => hne (by injection e with e; exact e.symm)), R_map h.ends hg hb, fun q v hq => by
  obtain ⟨r, h1, h2, cs, h3, h4⟩ := h.pf q v hq
  exact ⟨r, h1, h2, cs, h3, M_map h4 hg hb⟩⟩
/-- The time is set. -/
theorem Parts.set_over (h : Parts w ok b N s bk bp ve fk fp) (t : Int) : Half (w.setCell ⟨b, 3, none⟩ (.int .i64 t)) ok b N { s with over := t } bk bp ve fp ∧ MapL Tryz.prog 9 (w.setCell ⟨b, 3, none⟩ (.int .i64 t)) bk N fk ∧
 ∀ v l, Kd.R k43 43 w 0 ok v l → Kd.R k43 43 (w.setCell ⟨b, 3, none⟩ (.int .i64 t)) 0 ok v l := by
 have hg := grown_set w ⟨b, 3, none⟩ (.int .i64 t)
 have hbx := h.box
 have hstep : ∀ (g : Nat) (q : TypeId), q ≠ 69 → ∀ cells : Array Value, w.heap[g]? = some (.cells cells q (0, 0)) → (w.setCell ⟨b, 3, none⟩ (.int .i64 t)).heap[g]? = w.heap[g]? := fun g q h2 cells hc =>
  Below.heap_setCell w ⟨b, 3, none⟩ (.int .i64 t) g (fun e => h2 (by
   have e : g = b := e
   subst e
   rw [hbx] at hc
   injection hc with hc
   injection hc with _ hc
   exact hc.symm))
 refine ⟨⟨blk_put h.box 3 _ rfl, h.preps.kept hg (fun e => absurd hbx (by (have e2 : bp = b := by injection e); rw [← e2]; exact h.preps.not_cells)),
  R_keep h.ends (fun g _ q hq cells hc => hstep g q ((by decide : ∀ q, q ∈ 76 :: kEnd.E → q ≠ 69) q hq) cells hc), fun q v hq => ?_⟩,
  h.keys.kept hg (fun e => absurd hbx (by (have e2 : bk = b := by injection e); rw [← e2]; exact h.keys.not_cells)), fun v l hR => R_keep hR (fun g _ q hq cells hc => hstep g q ((by decide : ∀ q, q ∈ 43 :: k43.E → q ≠ 69) q hq) cells hc)⟩
 obtain ⟨r, h1, h2, cs, h3, h4⟩ := h.pf q v hq
 exact ⟨r, h1, h2, cs, h3, M_keep h4 (fun g _ q hq cells hc => hstep g q ((by decide : ∀ q, q ∈ k26.E → q ≠ 69) q hq) cells hc)⟩
/-- The chains, some of which are swept. -/
def SwK (w : World) (ok : Nat → Prop) (K : List (Key × Chain)) (t : Int) (f : Lit → Option Value) (left : Lit → Bool) : Prop :=
 ∀ q v, f q = some v → ∃ k, q = sk k ∧ k ∈ keysK K ∧ Kd.R k43 43 w 0 ok v (if left (sk k) = true then look K k else sweepC (look K k) t)
theorem SwK.map {K : List (Key × Chain)} {t : Int} {f : Lit → Option Value} {left : Lit → Bool} (h : SwK w ok K t f left) {x : Nat} (hg : w.grownBy w' (some x)) (hb : ∀ cells q, w.heap[x]? ≠ some (.cells cells q (0, 0))) : SwK w' ok K t f left := fun q v hq => by
 obtain ⟨k, h1, h2, h3⟩ := h q v hq
 exact ⟨k, h1, h2, R_map h3 hg hb⟩
theorem SwK.below {K : List (Key × Chain)} {t : Int} {f : Lit → Option Value} {left : Lit → Bool} (h : SwK w ok K t f left) (hb : Below w.heap.size w w') : SwK w' ok K t f left := fun q v hq => by
 obtain ⟨k, h1, h2, h3⟩ := h q v hq
 exact ⟨k, h1, h2, Kd.R_below h3 hb⟩
theorem sk_same (k k' : Key) : (sk k).sameKey (sk k') = decide (k = k') := by
 unfold sk
 by_cases e : k = k'
 ·subst e
  simp [Lit.sameKey]
 ·rw [sameKey_ne (fun h => e (by injection h))]
  simp [e]
theorem SwK.put {K : List (Key × Chain)} {t : Int} {f : Lit → Option Value} {left : Lit → Bool} (h : SwK w ok K t f left) {k : Key} (hk : k ∈ keysK K) {u : Value} (hu : Kd.R k43 43 w 0 ok u (sweepC (look K k) t)) :
 SwK w ok K t (lput f (sk k) u) (fun z => left z && !z.sameKey (sk k)) := fun q v hq => by
 unfold lput at hq
 split at hq
 ·rename_i hs
  obtain rfl := Option.some.inj hq
  refine ⟨k, WideAt.sameKey_eq hs, hk, ?_⟩
  show Kd.R _ _ _ _ _ _ (if (left (sk k) && !(sk k).sameKey (sk k)) = true then _ else _)
  rw [sk_same, decide_eq_true rfl, if_neg (by simp)]
  exact hu
 ·rename_i hs
  obtain ⟨k', h1, h2, h3⟩ := h q v hq
  refine ⟨k', h1, h2, ?_⟩
  have : (sk k').sameKey (sk k) = false := by rw [← h1]; simpa using hs
  show Kd.R _ _ _ _ _ _ (if (left (sk k') && !(sk k').sameKey (sk k)) = true then _ else _)
  rw [this]
  simpa using h3
def isNone (_ : Lit) (v : Value) : Bool := match v with | .slice _ n _ => n == 0 | _ => false
/-- All are swept, and the empty ones struck. -/
theorem Half.whole {t : Int} (h : Half w ok b N { s with over := t } bk bp ve fp) (hg : ShOk s) (ht : 0 ≤ t ∧ t ≤ 1125899906842624) {f : Lit → Option Value} {left : Lit → Bool} (hs : SwK w ok s.K t f left) (hl : ∀ q, left q = false) (hi : ∀ k, k ∈ keysK s.K → (f (sk k)).isSome = true)
 (hm : MapL Tryz.prog 9 w bk N (strikeF f isNone)) (hpt : ∀ r, r ∈ s.P → (fp (ik r.f1)).isSome = true) (okb : ok b) (okk : ok bk) (okp : ok bp) (ne : bk ≠ bp) : Parts w ok b N { s with over := t, K := sweepK s.K t } bk bp ve (strikeF f isNone) fp :=
 have hval : ∀ k v, f (sk k) = some v → Kd.R k43 43 w 0 ok v (sweepC (look s.K k) t) ∧ ∃ A c, v = .slice A (sweepC (look s.K k) t).length c := fun k v hv => by
  obtain ⟨k', h1, h2, h3⟩ := hs _ v hv
  have : k = k' := by
   unfold sk at h1
   injection h1
  subst this
  rw [hl, if_neg (by simp)] at h3
  obtain ⟨A, c, e, _, _⟩ := Kd.R_reads h3
  exact ⟨h3, A, c, e⟩
 have hok : KOk (sweepK s.K t) := hg.keys.sweep t
 ⟨h.box, hm, h.preps, h.ends, fun q v hq => by
  unfold strikeF at hq
  split at hq
  ·rename_i v' hv'
   split at hq
   ·cases hq
   ·rename_i hn
    obtain rfl := Option.some.inj hq
    obtain ⟨k, rfl, _, _⟩ := hs q v' hv'
    obtain ⟨h1, A, c, h2⟩ := hval k v' hv'
    refine ⟨k, rfl, ?_, by show Kd.R k43 43 w 0 ok v' (look (sweepK s.K t) k); rw [look_sweep hg.keys.rise]; exact h1⟩
    show k ∈ keysK (sweepK s.K t)
    by_cases hk : k ∈ keysK (sweepK s.K t)
    ·exact hk
    ·have e := (hok.iff k).2 hk
     rw [look_sweep hg.keys.rise] at e
     rw [h2, e] at hn
     exact absurd rfl hn
  ·exact absurd hq (by simp), fun k hk => by
  have hk : k ∈ keysK (sweepK s.K t) := hk
  have hne : look (sweepK s.K t) k ≠ [] := fun e => (hok.iff k).1 e hk
  rw [look_sweep hg.keys.rise] at hne
  have hks : k ∈ keysK s.K := by
   by_cases hks : k ∈ keysK s.K
   ·exact hks
   ·rw [look_none hks] at hne
    exact absurd (by unfold sweepC; simp) hne
  obtain ⟨v, hv⟩ := Option.isSome_iff_exists.1 (hi k hks)
  obtain ⟨_, A, c, h2⟩ := hval k v hv
  unfold strikeF
  rw [hv]
  simp only
  rw [if_neg (by rw [h2]; simp [isNone, hne])]
  rfl, h.pf, hpt, okb, okk, okp, ne, ⟨hok, hg.rise, hg.few, hg.recs, hg.ends, ht⟩⟩
end
set_option maxRecDepth 100000 in
theorem sweep1_walk (W : World) (key : Value) (A : Option Addr) (n c : Nat) :
 Calls Tryz.prog 79 #[key, .slice A n c] W fun e W' => e = .returned (.bool (n == 0)) ∧ W' = W := by
 have HV : Aside0 ((((n : Nat) : Int) == 0) = (n == 0)) := ⟨by rw [Bool.eq_iff_iff, beq_iff_eq, beq_iff_eq]; omega⟩
 generalize (n == 0) = q at *
 go_enter Tryz.func79, Tryz.ntmps79
 go_wp2
 go_ret
 exact ⟨by rw [← HV.out]; rfl, rfl⟩
set_option maxRecDepth 100000 in
set_option maxHeartbeats 8000000 in
theorem sweep_walk {w : World} {ok : Nat → Prop} {b N : Nat} {s : Sh} (h : ShAt w ok b N s) (hok : ∀ g, w.heap.size ≤ g → ok g) (hN : N < maxLen) (t : Int) (ht : t ≤ 1125899906842624) :
 Calls Tryz.prog 35 #[.pointer (some ⟨b, 0, none⟩), .int .i64 t] w fun e w' => e = .returned (.int .i64 (sweepV s t).1) ∧ ShAt w' ok b N (sweepV s t).2 ∧ Chg ok w w' := by
 obtain ⟨bk, bp, ve, fk, fp, hp⟩ := h
 have HP := Aside0.mk hp
 have HSV : Aside0 (sweepV s t = if t < s.over then (110, s) else (0, { s with over := t, K := sweepK s.K t })) := ⟨rfl⟩
 have HOK := Aside0.mk hok
 have HNN := Aside0.mk hN
 have HT := Aside0.mk ht
 obtain ⟨c0, c1, c2, c3⟩ := hp.cells
 have f3 := blk_frozen hp.box 3
 clear hp hok hN ht
 by_cases ho : t < s.over
 ·have HS2 : Aside0 (sweepV s t = (110, s)) := ⟨by rw [HSV.out, if_pos ho]⟩
  go_enter Tryz.func35, Tryz.ntmps35
  go_wp2_with fail
  go_ret
  exact ⟨by rw [HS2.out]; rfl, by rw [HS2.out]; exact ⟨bk, bp, ve, fk, fp, HP.out⟩, Chg.of_below (Below.refl _ _)⟩
 ·have HS2 : Aside0 (sweepV s t = (0, { s with over := t, K := sweepK s.K t })) := ⟨by rw [HSV.out, if_neg ho]⟩
  have HO : Aside0 (0 ≤ t) := ⟨by have := HP.out.good.over; omega⟩
  obtain ⟨h1, hk1, hr1⟩ := HP.out.set_over t
  have H1 := Aside0.mk h1
  have HK1 := Aside0.mk hk1
  have HSW : Aside0 (SwK (w.setCell ⟨b, 3, none⟩ (.int .i64 t)) ok s.K t fk (fun q => (fk q).isSome)) := ⟨fun q v hq => by
   obtain ⟨k, e1, e2, e3⟩ := HP.out.kf q v hq
   refine ⟨k, e1, e2, ?_⟩
   rw [if_pos (by show (fk (sk k)).isSome = true; rw [← e1, hq]; rfl)]
   exact hr1 v _ e3⟩
  have CH1 : Aside0 (Chg ok w (w.setCell ⟨b, 3, none⟩ (.int .i64 t))) := ⟨Chg.of_grown (grown_set w ⟨b, 3, none⟩ _) HP.out.okb (other_type HP.out.box (by decide) (by decide) (by decide))⟩
  have e0 := (blk_cell h1.box 0).trans rfl
  clear HSV h1 hk1 hr1 c1 c2
  go_enter Tryz.func35, Tryz.ntmps35
  go_wp2_with (at_range; refine MapL.range HK1.out keyedS rfl _ 65 74 rfl Tryz.underlying65 rfl ?_; intro w2 cnt0 hrg0 hb0 hsz0)
  have hsz : (w.setCell ⟨b, 3, none⟩ (.int .i64 t)).heap.size = w.heap.size := by simp [World.setCell]
  rw [hsz] at hrg0
  have HRG0 := Aside0.mk hrg0
  have HF0 := Aside0.mk (H1.out.below hb0)
  have HSW0 := Aside0.mk (HSW.out.below hb0)
  have CH0 : Aside0 (Chg ok w w2) := ⟨CH1.out.trans (Chg.of_below hb0)⟩
  have NE : Aside0 (w.heap.size ≠ bp) := ⟨by have := HP.out.preps.lt; omega⟩
  have OKI : Aside0 (ok w.heap.size) := ⟨HOK.out _ (Nat.le_refl _)⟩
  clear hrg0 hb0 hsz0 hsz H1 HK1 HSW CH1 e0 c0 c3 f3
  go_loopw [22] (fun _ wz => ∃ f left cnt, Aside0 (RangeL Tryz.prog 9 wz bk w.heap.size N f left cnt) ∧ Aside0 (SwK wz ok s.K t f left) ∧ Aside0 (∀ q, (f q).isSome = (fk q).isSome) ∧ Aside0 (Half wz ok b N { s with over := t } bk bp ve fp) ∧ Aside0 (Chg ok w wz))
   (fun _ wz => wz.rangeLeft bk w.heap.size)
  case atStart => exact ⟨_, _, _, HRG0, HSW0, ⟨fun _ => rfl⟩, HF0, CH0⟩
  case round =>
   clear HRG0 HSW0 HF0 CH0
   obtain ⟨f, left, cnt, HRG, HSK, HIS, HH, HCH⟩ := hrel
   have e0 := (blk_cell HH.out.box 0).trans rfl
   have HLE := Aside0.mk HRG.out.left_eq
   go_wp2_with (at_next; refine RangeL.next HRG.out keyedS rfl _ rfl rfl ?_ ?_)
   ·intro _ hl0
    have HL0 := Aside0.mk hl0
    clear hl0
    have hst := MapL.strike Tryz.delK keyedS HRG.out.map (fun v => ∃ A n c, v = .slice A n c) (fun q v hq => by
     obtain ⟨k, _, _, h3⟩ := HSK.out q v hq
     obtain ⟨A, c, e, _, _⟩ := Kd.R_reads h3
     exact ⟨A, _, c, e⟩) isNone 79 #[] (enters_of Tryz.func79 (by kernel_rfl) rfl) (fun W key val q hg hk hv => by
     obtain ⟨A, n, c, rfl⟩ := hv
     refine (sweep1_walk W key A n c).mono ?_
     rintro e w' ⟨h1, rfl⟩
     exact ⟨h1, ⟨rfl, rfl, rfl, Nat.le_refl _, fun _ _ _ => rfl⟩⟩)
    change Calls Tryz.prog 78 _ _ _ at hst
    have HST := Aside0.mk hst
    clear hst
    go_wp2_with fail
    refine HST.out.mono ?_
    rintro e w4 ⟨rfl, hm4, hg4⟩
    have HM4 := Aside0.mk hm4
    have HG4 := Aside0.mk hg4
    clear hm4 hg4 e0
    go_wp2_with fail
    go_ret
    have hb : ∀ cells q, wr.heap[bk]? ≠ some (.cells cells q (0, 0)) := fun cells q => HRG.out.map.not_cells
    exact ⟨by rw [HS2.out]; rfl, by rw [HS2.out]; exact ⟨bk, bp, ve, _, fp, (HH.out.grown HG4.out hb HP.out.ne).whole HP.out.good ⟨HO.out, HT.out⟩ (HSK.out.map HG4.out hb) HL0.out (fun k hk => by rw [HIS.out]; exact HP.out.kt k hk) HM4.out HP.out.pt HP.out.okb HP.out.okk HP.out.okp HP.out.ne⟩, HCH.out.trans (Chg.of_grown HG4.out HP.out.okk (fun q cells _ => hb cells q))⟩
   ·intro key q v w3 cnt2 hkey hlq hfv hrg2 hlt hg2 hs2 hen
    obtain ⟨k, rfl, hk, hR⟩ := HSK.out q v hfv
    rw [if_pos hlq] at hR
    have hbi : ∀ cells q, wr.heap[w.heap.size]? ≠ some (.cells cells q (0, 0)) := fun cells q => HRG.out.not_cells
    have hR3 := R_map hR hg2 hbi
    have HSK3 := Aside0.mk (HSK.out.map hg2 hbi)
    have HH3 := Aside0.mk (HH.out.grown hg2 hbi NE.out)
    have CH3 : Aside0 (Chg ok w w3) := ⟨HCH.out.trans (Chg.of_grown hg2 OKI.out (fun q cells _ => hbi cells q))⟩
    obtain ⟨A, c, rfl, hle, hC⟩ := Kd.R_reads hR3
    have hco := HP.out.good.keys.look k
    have HSWP : Aside0 (∀ W, Below w3.heap.size w3 W → Calls Tryz.prog 77 #[.slice A (look s.K k).length c, .int .i64 t] W fun e w' => ∃ v, e = .returned (.tuple #[v, .int .i64 0]) ∧ Kd.R k43 43 w' W.heap.size (fun _ => True) v (sweepC (look s.K k) t) ∧ Below W.heap.size W w') := ⟨fun W hW => sweepC_walk W A c (look s.K k) t (Kd.C_below hC hW) hle hco⟩
    have HKEY := Aside0.mk hkey
    have HRG3 := Aside0.mk hrg2
    have HLT := Aside0.mk hlt
    have HIQ : Aside0 ((f (sk k)).isSome = true) := ⟨by rw [hfv]; rfl⟩
    have HKK := Aside0.mk hk
    have HBX := Aside0.mk HH3.out.box
    clear hkey hlq hfv hrg2 hlt hg2 hs2 hR hR3 hle hC hco hbi hk e0
    have e0 := (blk_cell HBX.out 0).trans rfl
    generalize hch : look s.K k = ch at *
    have HCHQ := Aside0.mk hch
    clear hch
    go_wp2_with fail
    go_region_held3 (fun w' => w'.cell? ⟨b, 0, none⟩ = some (.map (some bk))) (first | exact e0 | exact d0 | exact g0)
     (first
      | (go_simp; go_at_call 77; refine (HSWP.out _ (by repeat (first | exact Below.refl _ _ | apply below_drew1))).mono ?_; rintro e w5 ⟨u, rfl, hu, hb5⟩; have HU := Aside0.mk hu; have HB5 := Aside0.mk hb5; have HR5 := Aside0.mk ((HRG3.out.below (below_drew1 (Below.refl _ _))).below hb5); obtain ⟨w6, hrun, hr6, hg6⟩ := RangeL.put_ HR5.out keyedS Tryz.underlying65 HNN.out HKEY.out u HIQ.out; have HR6 := Aside0.mk hr6; have HG6 := Aside0.mk hg6; have hb6 := blk_map (blk_below (blk_drew HBX.out) hb5) hg6 (fun _ _ => HR5.out.map.not_cells); have d0 := (blk_cell (blk_below (blk_drew HBX.out) hb5) 0).trans rfl; have g0 := (blk_cell hb6 0).trans rfl; clear hu hr6 hg6 hb6 hb5))
    all_goals (try go_wp2_with fail)
    have B5 : Aside0 (Below w3.heap.size w3 w5) := ⟨(below_drew1 (Below.refl w3.heap.size w3)).trans (HB5.out.mono (below_drew1 (Below.refl w3.heap.size w3)).size)⟩
    have hb : ∀ cells q, w5.heap[bk]? ≠ some (.cells cells q (0, 0)) := fun cells q => HR5.out.map.not_cells
    have hu5 := R_new (ok := ok) HU.out (fun g hg => HOK.out g (Nat.le_trans CH3.out.size (Nat.le_trans (below_drew1 (Below.refl w3.heap.size w3)).size hg)))
    rw [← HCHQ.out] at hu5
    have SK6 := Aside0.mk (((HSK3.out.below B5.out).put HKK.out hu5).map HG6.out hb)
    have H6 := Aside0.mk ((HH3.out.below B5.out).grown HG6.out hb HP.out.ne)
    have CH6 : Aside0 (Chg ok w w6) := ⟨(CH3.out.trans (Chg.of_below B5.out)).trans (Chg.of_grown HG6.out HP.out.okk (fun q cells _ => hb cells q))⟩
    have IS6 : Aside0 (∀ x, (lput f (sk k) u x).isSome = (fk x).isSome) := ⟨fun x => by
     rw [← HIS.out]
     unfold lput
     split
     ·rename_i hs
      rw [WideAt.sameKey_eq hs, HIQ.out]
      rfl
     ·rfl⟩
    clear hb hu5
    go_roundw
    case rel => exact ⟨_, _, _, HR6, SK6, IS6, H6, CH6⟩
    case measure => rw [HR6.out.left_eq, HLE.out]; exact HLT.out
end Go.Proofs.YtaldfbmjmpkmmaaGreat.PL
namespace Go.Proofs.YtaldfbmjmpkmmaaGreat.PL
open Go.RowKit Go.Proofs.YtaldfbmjmpkmmaaGreatW.PrintWords Go.Proofs.YtaldfbmjmpkmmaaGreatW.PrintLast Go.Proofs.YtaldfbmjmpkmmaaGreatW.PrintMore Go.Shelf Go.Maps Go.WideMaps Go.Proofs.YtaldfbmjmpkmmaaGreat.Mk
set_option linter.unusedVariables false
set_option linter.unusedSimpArgs false
set_option linter.unusedSectionVars false
/-- A row of one element, written out. -/
theorem R_one {α : Type} {d : Kd α} {e g : Nat} {ok : Nat → Prop} {w : World} {cs : List Value} {x : α} (hb : w.heap[g]? = some (.cells cs.toArray e (0, 0))) (hM : d.M w 0 (fun k => ok k ∧ some k ≠ some g) x cs) (hg : ok g) : d.R e w 0 ok (.slice (some ⟨g, 0, none⟩) 1 1) [x] :=
 have hl : cs.length = d.sz := d.K_len (d.K_of_M hM)
 ⟨fun k hk => by
  have : g = k := by simpa [Value.ownBlock] using hk
  rw [← this]
  exact hg, cs, ⟨by simp [hl], .inr ⟨g, 1, cs.toArray, rfl, Nat.zero_le _, hb, Nat.le_refl _, by decide, by simp [hl], by simp [← hl]⟩⟩, Reps.front (cs := []) (by simpa [Value.ownBlock] using hM) hl (Reps.none _ _) (by simp)⟩
def sizesOk (r : Rec) : Prop := r.f7.length < 8796093022208 ∧ r.f8.length < 8796093022208
theorem check_f (r : Rec) (h : sizesOk r) : record_Check.f r.f0 r.f1 r.f2 r.f3 r.f4 r.f5 r.f6 r.f7 r.f8 = some (okR r) := by
 unfold record_Check.f
 rw [if_pos (show _ ∧ _ from h)]
 rfl
set_option maxRecDepth 100000 in
set_option maxHeartbeats 8000000 in
theorem apply_walk {w : World} {ok : Nat → Prop} {b N : Nat} {s : Sh} (h : ShAt w ok b N s) (hE : s.E.length ≤ 1024) (hok : ∀ g, w.heap.size ≤ g → ok g) (hN : N + 1024 < maxLen) (r : Rec) (cs : List Value) (hK : k26.K w r cs) (hs : sizesOk r) :
 Calls Tryz.prog 10 #[.pointer (some ⟨b, 0, none⟩), .agg cs.toArray] w fun e w' => e = .returned (.int .i64 (applyV s r).1) ∧ ShAt w' ok b (N + 16) (applyV s r).2 ∧ Chg ok w w' := by
 obtain ⟨A7, c7, A8, c8, rfl, l7, g7, l8, g8⟩ := k26_open hK
 obtain ⟨w2, hw2⟩ : ∃ w2, w2 = w.alloc (.cells #[.int .i64 r.f0, .int .i64 r.f1, .int .i64 r.f2, .int .i64 r.f3, .string r.f4, .string r.f5, .bool r.f6, .slice A7 r.f7.length c7, .slice A8 r.f8.length c8] 26) := ⟨_, rfl⟩
 have hB : Below w.heap.size w w2 := by rw [hw2]; exact below_alloc (Below.refl _ w) _
 have hx : w2.heap[w.heap.size]? = some (.cells #[.int .i64 r.f0, .int .i64 r.f1, .int .i64 r.f2, .int .i64 r.f3, .string r.f4, .string r.f5, .bool r.f6, .slice A7 r.f7.length c7, .slice A8 r.f8.length c8] 26 (0, 0)) := by rw [hw2]; exact blk_new _ _
 have HW := Aside0.mk hw2
 have HB2 := Aside0.mk hB
 have HX := Aside0.mk hx
 have HS2 := Aside0.mk (h.below hB)
 have HK2 := Aside0.mk (k26.K_below hB hK)
 have HCK := Aside0.mk (record_Check.calls r.f0 r.f1 r.f2 r.f3 r.f4 r.f5 r.f6 A7 c7 r.f7 A8 c8 r.f8 (okR r) w2 (Kd.C_below g7 hB) l7 (Kd.C_below g8 hB) l8 (check_f r hs))
 have HOK := Aside0.mk hok
 have HNN := Aside0.mk hN
 have HEN := Aside0.mk hE
 have HAV : Aside0 (applyV s r = if okR r = 0 then
  (if r.f0 = 1 then prepV s r
  else if r.f0 = 2 then doV s r.f1 r.f2
  else if r.f0 = 4 then sweepV s r.f2
  else if r.f0 = 3 then (if roomV s [verW r] r.f2 = 0 then (0, { s with K := putV s.K [verW r] r.f2 }) else (roomV s [verW r] r.f2, s))
  else (80, s))
 else (okR r, s)) := ⟨rfl⟩
 have HOR : Aside0 (okR r = 0 → (0 ≤ r.f1 ∧ r.f1 ≤ 1125899906842623) ∧ (0 ≤ r.f2 ∧ r.f2 ≤ 1125899906842624)) := ⟨fun h => ⟨(okR_all h).1, (okR_all h).2.1⟩⟩
 have HVF : Aside0 (r.f0 = 3 → okR r = 0 → r.f4.size ≤ maxLen) := ⟨fun h0 h => Nat.le_trans (key_size (ver_facts h0 h).2.1) (by decide)⟩
 have HVP : Aside0 (∀ s : Sh, r.f0 = 3 → okR r = 0 → roomV s [verW r] r.f2 = 0 → PutOk s.K [verW r] r.f2) := ⟨fun s h0 h hm => ver_put h0 h hm⟩
 have HPW : Aside0 (r.f0 = 1 → okR r = 0 → ∀ W, Below w2.heap.size w2 W → Calls Tryz.prog 33 #[.pointer (some ⟨b, 0, none⟩), .agg #[.int .i64 r.f0, .int .i64 r.f1, .int .i64 r.f2, .int .i64 r.f3, .string r.f4, .string r.f5, .bool r.f6, .slice A7 r.f7.length c7, .slice A8 r.f8.length c8]] W fun e w' => e = .returned (.int .i64 (prepV s r).1) ∧ ShAt w' ok b (N + 1) (prepV s r).2 ∧ Chg ok W w') := ⟨fun h0 hr W hW =>
  prepare_walk (HS2.out.below hW) (fun g hg => hok g (Nat.le_trans hB.size (Nat.le_trans hW.size hg))) (by omega) r _ (k26.K_below hW HK2.out) h0 hr⟩
 clear hw2 hB hx h g7 g8 l7 l8 hK hok hN hE hs
 have y0 := blk_cell HX.out 0
 have y1 := blk_cell HX.out 1
 have y2 := blk_cell HX.out 2
 have y3 := blk_cell HX.out 3
 have y4 := blk_cell HX.out 4
 have y5 := blk_cell HX.out 5
 have y6 := blk_cell HX.out 6
 have y7 := blk_cell HX.out 7
 have y8 := blk_cell HX.out 8
 go_enter Tryz.func10, Tryz.ntmps10
 go_wp2_with fail
 rw [← HW.out]
 refine HCK.out.mono ?_
 rintro e w3 ⟨rfl, hb3⟩
 have HB3 : Aside0 (Below w.heap.size w w3) := ⟨HB2.out.trans (hb3.mono HB2.out.size)⟩
 have HS3 := Aside0.mk (HS2.out.below hb3)
 have X3 := Aside0.mk (blk_below HX.out hb3)
 have HB23 := Aside0.mk hb3
 have OK3 : Aside0 (∀ g, w3.heap.size ≤ g → ok g) := ⟨fun g hg => HOK.out g (Nat.le_trans HB3.out.size hg)⟩
 clear hb3 y0 y1 y2 y3 y4 y5 y6 y7 y8 HCK HX
 have y0 := blk_cell X3.out 0
 have y1 := blk_cell X3.out 1
 have y2 := blk_cell X3.out 2
 have y3 := blk_cell X3.out 3
 have y4 := blk_cell X3.out 4
 have y5 := blk_cell X3.out 5
 have y6 := blk_cell X3.out 6
 have y7 := blk_cell X3.out 7
 have y8 := blk_cell X3.out 8
 by_cases hr : okR r = 0
 ·rw [if_pos hr] at HAV
  have HR := Aside0.mk hr
  have hro := HOR.out hr
  have HRO := Aside0.mk hro
  rw [hr]
  by_cases k1 : r.f0 = 1
  ·rw [if_pos k1] at HAV
   have HPC := Aside0.mk (HPW.out k1 hr w3 HB23.out)
   have d1 : (r.f0 == 1) = true := by simpa using k1
   clear hr hro k1 HOR HVF HVP HPW
   go_wp2_with fail
   refine HPC.out.mono ?_
   rintro e w4 ⟨rfl, hs4, hc4⟩
   have HR4 := Aside0.mk (And.intro hs4 hc4)
   clear hs4 hc4 HPC y0 y1 y2 y3 y4 y5 y6 y7 y8
   rw [← HAV.out] at *
   go_wp2_with fail
   go_ret
   exact ⟨rfl, HR4.out.1.mono (by omega), (Chg.of_below HB3.out).trans HR4.out.2⟩
  ·rw [if_neg k1] at HAV
   have d1 : (r.f0 == 1) = false := by simpa using k1
   by_cases k2 : r.f0 = 2
   ·rw [if_pos k2] at HAV
    have HPC := Aside0.mk (do_walk HS3.out HEN.out OK3.out HNN.out r.f1 r.f2 hro.1 hro.2)
    have d2 : (r.f0 == 2) = true := by simpa using k2
    clear hr hro k1 k2 HOR HVF HVP HPW
    go_wp2_with fail
    refine HPC.out.mono ?_
    rintro e w4 ⟨rfl, hs4, hc4⟩
    have HR4 := Aside0.mk (And.intro hs4 hc4)
    clear hs4 hc4 HPC y0 y1 y2 y3 y4 y5 y6 y7 y8
    rw [← HAV.out] at *
    go_wp2_with fail
    go_ret
    exact ⟨rfl, HR4.out.1, (Chg.of_below HB3.out).trans HR4.out.2⟩
   ·rw [if_neg k2] at HAV
    have d2 : (r.f0 == 2) = false := by simpa using k2
    by_cases k4 : r.f0 = 4
    ·rw [if_pos k4] at HAV
     have HPC := Aside0.mk (sweep_walk HS3.out OK3.out (by have := HNN.out; omega) r.f2 hro.2.2)
     have d4 : (r.f0 == 4) = true := by simpa using k4
     clear hr hro k1 k2 k4 HOR HVF HVP HPW
     go_wp2_with fail
     refine HPC.out.mono ?_
     rintro e w4 ⟨rfl, hs4, hc4⟩
     have HR4 := Aside0.mk (And.intro hs4 hc4)
     clear hs4 hc4 HPC y0 y1 y2 y3 y4 y5 y6 y7 y8
     rw [← HAV.out] at *
     go_wp2_with fail
     go_ret
     exact ⟨rfl, HR4.out.1.mono (by omega), (Chg.of_below HB3.out).trans HR4.out.2⟩
    ·rw [if_neg k4] at HAV
     have d4 : (r.f0 == 4) = false := by simpa using k4
     by_cases k3 : r.f0 = 3
     ·rw [if_pos k3] at HAV
      have d3 : (r.f0 == 3) = true := by simpa using k3
      have hvf := HVF.out k3 hr
      have HPO : Aside0 (roomV s [verW r] r.f2 = 0 → PutOk s.K [verW r] r.f2) := ⟨fun hm => HVP.out s k3 hr hm⟩
      obtain ⟨w4, hw4⟩ : ∃ w4, w4 = w3.alloc (.cells #[.string r.f4, .string r.f5, .bool r.f6] 57) := ⟨_, rfl⟩
      have hb4 : Below w3.heap.size w3 w4 := by rw [hw4]; exact below_alloc (Below.refl _ _) _
      have hx4 : w4.heap[w3.heap.size]? = some (.cells #[.string r.f4, .string r.f5, .bool r.f6] 57 (0, 0)) := by rw [hw4]; exact blk_new _ _
      have hrow : Kd.R k57 57 w4 0 ok (.slice (some ⟨w3.heap.size, 0, none⟩) 1 1) [verW r] := R_one (cs := [.string r.f4, .string r.f5, .bool r.f6]) hx4 (k57_mkM _ _ _ (verW r)) (OK3.out _ (Nat.le_refl _))
      have hks : ∀ x ∈ [verW r], x.f0.size ≤ maxLen := fun x hx => by rw [List.mem_singleton.1 hx]; exact hvf
      have hrm : Calls Tryz.prog 36 #[.pointer (some ⟨b, 0, none⟩), .slice (some ⟨w3.heap.size, 0, none⟩) 1 1, .int .i64 r.f2] w4 fun e w' => e = .returned (.int .i64 (roomV s [verW r] r.f2)) ∧ Below w4.heap.size w4 w' := room_walk (HS3.out.below hb4) (some ⟨w3.heap.size, 0, none⟩) 1 [verW r] (Kd.R_reads' hrow).2.2 (by simp) hks r.f2
      have HRM := Aside0.mk hrm
      have HW4 := Aside0.mk hw4
      have HS4 := Aside0.mk (HS3.out.below hb4)
      have HRW := Aside0.mk hrow
      have HKS := Aside0.mk hks
      have B4 : Aside0 (Below w.heap.size w w4) := ⟨HB3.out.trans (hb4.mono HB3.out.size)⟩
      have X4 := Aside0.mk (blk_below X3.out hb4)
      clear hr hro k1 k2 k3 k4 HOR HVF HVP HPW hvf hb4 hx4 hrow hks hrm hw4
      generalize roomV s [verW r] r.f2 = rv at *
      generalize hvw : [verW r] = lw at *
      have HVW := Aside0.mk hvw
      clear hvw
      have y2b := blk_cell X4.out 2
      rw [HW4.out] at y2b
      go_wp2_with fail
      rw [← HW4.out]
      refine HRM.out.mono ?_
      rintro e w5 ⟨rfl, hb5⟩
      have B5 : Aside0 (Below w.heap.size w w5) := ⟨B4.out.trans (hb5.mono B4.out.size)⟩
      have HS5 := Aside0.mk (HS4.out.below hb5)
      have HR5 := Aside0.mk (Kd.R_below HRW.out hb5)
      have X5 := Aside0.mk (blk_below X4.out hb5)
      clear hb5 y2b y0 y1 y2 y3 y4 y5 y6 y7 y8 HRM HS4 HRW
      have y2 := blk_cell X5.out 2
      by_cases hm : rv = 0
      ·subst hm
       rw [if_pos rfl] at HAV
       have OK5 : Aside0 (∀ g, w5.heap.size ≤ g → ok g) := ⟨fun g hg => HOK.out g (Nat.le_trans B5.out.size hg)⟩
       have hl1 : lw.length = 1 := by rw [← HVW.out]; rfl
       have hpu := put_walk HS5.out OK5.out (some ⟨w3.heap.size, 0, none⟩) 1 lw (by rw [hl1]; exact HR5.out) (by omega) HKS.out r.f2 (HPO.out rfl) (by have := HNN.out; omega)
       rw [hl1] at hpu
       have HPU := Aside0.mk hpu
       clear hl1 hpu
       go_wp2_with fail
       refine HPU.out.mono ?_
       rintro e w6 ⟨rfl, hs6, hc6, -⟩
       have HR6 := Aside0.mk (And.intro hs6 hc6)
       clear hs6 hc6 HPU y2
       go_wp2_with fail
       go_ret
       exact ⟨by rw [HAV.out]; rfl, by rw [HAV.out]; exact HR6.out.1.mono (by omega), (Chg.of_below B5.out).trans HR6.out.2⟩
      ·rw [if_neg hm] at HAV
       have g5 : (rv == 0) = false := by simpa using hm
       clear hm HPO
       go_wp2_with fail
       go_ret
       exact ⟨by rw [HAV.out]; rfl, by rw [HAV.out]; exact HS5.out.mono (by omega), Chg.of_below B5.out⟩
     ·rw [if_neg k3] at HAV
      have d3 : (r.f0 == 3) = false := by simpa using k3
      clear hr hro k1 k2 k3 k4 HOR HVF HVP HPW
      go_wp2_with fail
      go_ret
      exact ⟨by rw [HAV.out]; rfl, by rw [HAV.out]; exact HS3.out.mono (by omega), Chg.of_below HB3.out⟩
 ·rw [if_neg hr] at HAV
  have g5 : (okR r != 0) = true := by simpa using hr
  clear hr HOR HVF HVP HPW
  generalize okR r = rv at *
  go_wp2_with fail
  go_ret
  exact ⟨by rw [HAV.out]; rfl, by rw [HAV.out]; exact HS3.out.mono (by omega), Chg.of_below HB3.out⟩
end Go.Proofs.YtaldfbmjmpkmmaaGreat.PL
namespace Go.Proofs.YtaldfbmjmpkmmaaGreat.PL
open Go.RowKit Go.Proofs.YtaldfbmjmpkmmaaGreatW.PrintWords Go.Proofs.YtaldfbmjmpkmmaaGreatW.PrintLast Go.Proofs.YtaldfbmjmpkmmaaGreatW.PrintMore Go.Shelf Go.Maps Go.WideMaps Go.Proofs.YtaldfbmjmpkmmaaGreat.Mk
set_option linter.unusedVariables false
set_option linter.unusedSimpArgs false
set_option linter.unusedSectionVars false
def ex1 : Rec := ⟨1, 5, 0, 0, ⟨#[]⟩, ⟨#[]⟩, false, [], [⟨⟨#[107]⟩, ⟨#[120]⟩, false⟩]⟩
def ex2 : Rec := ⟨2, 5, 9, 0, ⟨#[]⟩, ⟨#[]⟩, false, [], []⟩






theorem C_one {α : Type} {d : Kd α} {g : Nat} {e : TypeId} {w : World} {cs : List Value} {x : α} (hb : w.heap[g]? = some (.cells cs.toArray e (0, 0))) (hK : d.K w x cs) : Kd.C d w (some ⟨g, 0, none⟩) 1 [x] := by
 refine ⟨rfl, by decide, fun _ => ⟨⟨g, 0, none⟩, rfl, fun j p hj => ?_⟩⟩
 cases j with
 | succ j => simp at hj
 | zero =>
  simp at hj
  subst hj
  refine ⟨cs, d.K_len hK, hK, fun i u hu => ?_⟩
  have e : ∀ j : Nat, (⟨g, 0, none⟩ : Addr).add j = ⟨g, j, none⟩ := fun j => by unfold Addr.add; split <;> simp_all
  rw [e, Nat.zero_mul, Nat.zero_add, blk_cell hb i]
  simpa using hu

theorem made_take (l : List Rec) (k : Nat) (hk : k < l.length) : (l.take (k + 1)).foldl (fun s r => (applyV s r).2) sh0 = (applyV ((l.take k).foldl (fun s r => (applyV s r).2) sh0) (l[k])).2 := by
 rw [List.take_succ_eq_append_getElem hk, List.foldl_append]
 rfl
end Go.Proofs.YtaldfbmjmpkmmaaGreat.PL
