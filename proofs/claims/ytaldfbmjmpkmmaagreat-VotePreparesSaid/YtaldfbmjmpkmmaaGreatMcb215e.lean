/- Texts of this proof, one behind the other (merged by a program of this session). -/
import Derived.Test.YtaldfbmjmpkmmaaGreatMe20451
import Derived.Test.YtaldfbmjmpkmmaaGreatM7386df
namespace Go.Proofs.YtaldfbmjmpkmmaaGreat.PL
open Go.RowKit Go.Proofs.YtaldfbmjmpkmmaaGreatW.PrintWords Go.Proofs.YtaldfbmjmpkmmaaGreatW.PrintLast Go.Proofs.YtaldfbmjmpkmmaaGreatW.PrintMore Go.Shelf Go.Maps Go.WideMaps Go.Proofs.YtaldfbmjmpkmmaaGreat.Mk
set_option linter.unusedVariables false
set_option linter.unusedSimpArgs false
set_option linter.unusedSectionVars false
/-- Prepared ones: who writes is alone. -/
structure PApart (P : List Rec) : Prop where
 ww : ∀ a ∈ P, ∀ c ∈ P, a.f1 ≠ c.f1 → ∀ k, wrote a k = true → wrote c k = false
 wk : ∀ a ∈ P, ∀ c ∈ P, a.f1 ≠ c.f1 → ∀ k, wrote a k = true → watches c k = false
theorem wrote_mem {r : Rec} {k : Key} (h : wrote r k = true) : ∃ w ∈ r.f8, wkey w = k := by
 obtain ⟨w, hw, he⟩ := List.any_eq_true.1 h
 exact ⟨w, hw, by simpa [wkey] using he⟩

theorem watch_mem {r : Rec} {k : Key} (h : watches r k = true) : ∃ q ∈ r.f7, kb q = k := by
 obtain ⟨q, hq, he⟩ := List.any_eq_true.1 h
 exact ⟨q, hq, by simpa using he⟩

theorem held_none {s : Sh} {k : Key} {wt : Bool} (h : heldV s k wt = false) : ∀ r ∈ s.P, wrote r k = false ∧ (wt = true → watches r k = false) := fun r hr => by
 have h1 := List.any_eq_false.1 h r hr
 unfold heldR at h1
 rw [Bool.not_eq_true, Bool.or_eq_false_iff] at h1
 exact ⟨h1.1, fun e => by subst e; simpa using h1.2⟩
theorem papart_prep {s : Sh} {r : Rec} (h : PApart s.P) : PApart (prepV s r).2.P := by
 unfold prepV
 split
 ·exact h
 ·split
  ·exact h
  ·rename_i hh
   split
   ·exact h
   ·rw [Bool.or_eq_true, not_or, Bool.not_eq_true, Bool.not_eq_true] at hh
    have h1 : ∀ k, watches r k = true → ∀ a ∈ s.P, wrote a k = false := fun k hk a ha => by
     obtain ⟨q, hq, rfl⟩ := watch_mem hk
     have := List.any_eq_false.1 hh.1 q hq
     rw [Bool.not_eq_true] at this
     exact (held_none this a ha).1
    have h2 : ∀ k, wrote r k = true → ∀ a ∈ s.P, wrote a k = false ∧ watches a k = false := fun k hk a ha => by
     obtain ⟨w, hw, rfl⟩ := wrote_mem hk
     have := List.any_eq_false.1 hh.2 w hw
     rw [Bool.not_eq_true] at this
     have := held_none this a ha
     exact ⟨this.1, this.2 rfl⟩
    refine ⟨fun a ha c hc hne k hk => ?_, fun a ha c hc hne k hk => ?_⟩
    ·rcases (pput_mem r a s.P).1 ha with rfl | ha'
     ·rcases (pput_mem a c s.P).1 hc with rfl | hc
      ·exact absurd rfl hne
      ·exact (h2 k hk c hc).1
     ·rcases (pput_mem r c s.P).1 hc with rfl | hc
      ·cases hw : wrote c k with
       | false => rfl
       | true => rw [(h2 k hw a ha').1] at hk; cases hk
      ·exact h.ww a ha' c hc hne k hk
    ·rcases (pput_mem r a s.P).1 ha with rfl | ha'
     ·rcases (pput_mem a c s.P).1 hc with rfl | hc
      ·exact absurd rfl hne
      ·exact (h2 k hk c hc).2
     ·rcases (pput_mem r c s.P).1 hc with rfl | hc
      ·cases hw : watches c k with
       | false => rfl
       | true => rw [h1 k hw a ha'] at hk; cases hk
      ·exact h.wk a ha' c hc hne k hk
theorem papart_sub {P Q : List Rec} (h : PApart P) (hs : ∀ r ∈ Q, r ∈ P) : PApart Q := ⟨fun a ha c hc => h.ww a (hs a ha) c (hs c hc), fun a ha c hc => h.wk a (hs a ha) c (hs c hc)⟩
theorem papart_end {s : Sh} (h : PApart s.P) (t ts : Int) : PApart (endV s t ts).P := papart_sub h (fun r hr => (List.mem_filter.1 hr).1)







/-- What 'holds' has: of the first i, and of the i-th one's first j writes. -/
def HoldsOk (P : List Rec) (i j : Nat) (f : Lit → Option Value) : Prop :=
 ∀ q v, f q = some v → ∃ a k, q = sk k ∧ v = .int .i64 a.f1 ∧ ((a ∈ P.take i ∧ wrote a k = true) ∨ (P[i]? = some a ∧ ∃ w ∈ a.f8.take j, wkey w = k))




/-- What is known in the loops: the two maps, and the shelf beside them. -/
structure ApSt (w : World) (n0 b bh bw : Nat) (s : Sh) (wz : World) (nh nw : Nat) (fh fw : Lit → Option Value) : Prop where
 below : Below w.heap.size w wz
 holds : MapL Tryz.prog 9 wz bh nh fh
 watch : MapL Tryz.prog 9 wz bw nw fw
 sh : ShAt wz (fun g => g < n0) b 960 s
 lo : w.heap.size ≤ n0
 h0 : n0 ≤ bh
 w0 : n0 ≤ bw
 ne : bh ≠ bw
section
variable {w wz wy : World} {n0 b bh bw nh nw : Nat} {s : Sh} {fh fw : Lit → Option Value}
theorem ApSt.step (h : ApSt w n0 b bh bw s wz nh nw fh fw) (hb : Below wz.heap.size wz wy) : ApSt w n0 b bh bw s wy nh nw fh fw :=
 ⟨h.below.trans (hb.mono h.below.size), h.holds.below hb, h.watch.below hb, h.sh.below hb, h.lo, h.h0, h.w0, h.ne⟩



end
end Go.Proofs.YtaldfbmjmpkmmaaGreat.PL
namespace Go.Proofs.YtaldfbmjmpkmmaaGreat.PL
open Go.RowKit
set_option linter.unusedVariables false
set_option linter.unusedSimpArgs false
def sweepR (t : Int) : Rec := ⟨4, 0, t, 0, ⟨#[]⟩, ⟨#[]⟩, false, [], []⟩
def verR (k : Key) (v : Ver) : Rec := ⟨3, 0, v.f0, 0, ⟨k.toArray⟩, v.f1, v.f2, [], []⟩
def doR (e : Int × Int) : Rec := ⟨2, e.1, e.2, 0, ⟨#[]⟩, ⟨#[]⟩, false, [], []⟩
def recsK (K : List (Key × Chain)) : List Rec := K.flatMap (fun p => p.2.map (verR p.1))
def recsV (s : Sh) : List Rec := (if 0 < s.over then [sweepR s.over] else []) ++ (recsK s.K ++ (s.E.map doR ++ s.P))
theorem recsK_len : ∀ {K : List (Key × Chain)}, (∀ p ∈ K, p.2.length ≤ 1024) → (recsK K).length ≤ 1024 * K.length
 | [], _ => by simp [recsK]
 | p :: K, h => by
  have := recsK_len (K := K) (fun p hp => h p (List.mem_cons_of_mem _ hp))
  have h1 := h p List.mem_cons_self
  unfold recsK at *
  rw [List.flatMap_cons, List.length_append, List.length_map, List.length_cons]
  omega

/-! what else holds of a shelf to which records were applied -/
structure ShMore (s : Sh) : Prop where
 kk : ∀ k ∈ keysK s.K, keyB ⟨k.toArray⟩ = true
 en : s.E.Pairwise (fun a b => a.1 ≠ b.1)
 er : ∀ e ∈ s.E, 0 < e.1 ∧ e.1 ≤ 1125899906842623 ∧ 0 ≤ e.2 ∧ e.2 ≤ 1125899906842624
 pe : ∀ r ∈ s.P, ∀ e ∈ s.E, r.f1 ≠ e.1
 pa : PApart s.P
 el : s.E.length ≤ 1024
theorem key_back (b : ByteArray) : (⟨(kb b).toArray⟩ : ByteArray) = b := by
 cases b with | mk d => simp [kb]
theorem put_keys : ∀ (l : List Wr) (K : List (Key × Chain)) (ts : Int) (k : Key), k ∈ keysK (putV K l ts) → k ∈ keysK K ∨ ∃ w ∈ l, wkey w = k
 | [], _, _, _, h => .inl h
 | w :: l, K, ts, k, h => by
  rcases put_keys l _ ts k h with h | ⟨u, hu, e⟩
  ·rcases (kput_keys _ _ _ _).1 h with rfl | h
   ·exact .inr ⟨w, List.mem_cons_self, rfl⟩
   ·exact .inl h
  ·exact .inr ⟨u, List.mem_cons_of_mem _ hu, e⟩
theorem find_none {E : List (Int × Int)} {t : Int} (h : E.find? (fun e => decide (e.1 = t)) = none) : ∀ e ∈ E, e.1 ≠ t := fun e he => by
 have := List.find?_eq_none.1 h e he
 simpa using this
theorem find_none_of {E : List (Int × Int)} {t : Int} (h : ∀ e ∈ E, e.1 ≠ t) : E.find? (fun e => decide (e.1 = t)) = none := List.find?_eq_none.2 (fun e he => by simpa using h e he)
theorem not_ended {s : Sh} (m : ShMore s) {t : Int} (h : ¬ 1 < (stateV s t).1) : ∀ e ∈ s.E, e.1 ≠ t := by
 rcases state_cases s t with ⟨h1, _⟩ | ⟨_, ⟨h2, _⟩ | ⟨e, _, ⟨_, h3⟩ | ⟨_, h3⟩⟩⟩
 ·obtain ⟨r, hr, hrt⟩ := List.any_eq_true.1 h1
  intro e he hc
  exact m.pe r hr e he (by rw [of_decide_eq_true hrt, hc])
 ·exact find_none h2
 ·rw [h3] at h; simp at h
 ·rw [h3] at h; simp at h
theorem more_end {s : Sh} (m : ShMore s) {t ts : Int} (hn : ∀ e ∈ s.E, e.1 ≠ t) (ht : 0 < t ∧ t ≤ 1125899906842623) (hts : 0 ≤ ts ∧ ts ≤ 1125899906842624) : ShMore (endV s t ts) := by
 have hen : (s.E ++ [(t, ts)]).Pairwise (fun a b => a.1 ≠ b.1) := List.pairwise_append.2 ⟨m.en, by simp, fun a ha b hb => by rw [List.mem_singleton.1 hb]; exact hn a ha⟩
 have hsub : ∀ e ∈ endE s.E (t, ts), e ∈ s.E ∨ e = (t, ts) := fun e he => by
  unfold endE at he
  have : e ∈ s.E ++ [(t, ts)] := by
   split at he
   ·exact List.mem_of_mem_drop he
   ·exact he
  simpa using this
 refine ⟨m.kk, ?_, fun e he => ?_, fun r hr e he => ?_, papart_end m.pa t ts, endE_len (Nat.le_refl _) m.el _⟩
 ·show (endE s.E (t, ts)).Pairwise _
  unfold endE
  split
  ·exact hen.sublist (List.drop_sublist _ _)
  ·exact hen
 ·rcases hsub e he with h | rfl
  ·exact m.er e h
  ·exact ⟨ht.1, ht.2, hts.1, hts.2⟩
 ·obtain ⟨h1, h2⟩ := List.mem_filter.1 hr
  rcases hsub e he with h | rfl
  ·exact m.pe r h1 e h
  ·simpa using h2
theorem more_put {s : Sh} (m : ShMore s) (l : List Wr) (ts : Int) (hl : ∀ w ∈ l, keyB w.f0 = true) : ShMore { s with K := putV s.K l ts } :=
 ⟨fun k hk => by
  rcases put_keys l s.K ts k hk with h | ⟨w, hw, rfl⟩
  ·exact m.kk k h
  ·rw [wkey, key_back]
   exact hl w hw, m.en, m.er, m.pe, m.pa, m.el⟩
theorem more_apply {s : Sh} (h : ShOk s) (m : ShMore s) (r : Rec) : ShMore (applyV s r).2 := by
 unfold applyV
 split
 ·rename_i hr
  split
  ·rename_i h0
   refine ⟨?_, ?_, ?_, fun x hx e he => ?_, papart_prep m.pa, ?_⟩
   ·unfold prepV; split; exact m.kk; split; exact m.kk; split <;> exact m.kk
   ·unfold prepV; split; exact m.en; split; exact m.en; split <;> exact m.en
   ·unfold prepV; split; exact m.er; split; exact m.er; split <;> exact m.er
   ·revert hx he
    unfold prepV
    split
    ·exact fun hx he => m.pe x hx e he
    ·rename_i hs
     split
     ·exact fun hx he => m.pe x hx e he
     ·split
      ·exact fun hx he => m.pe x hx e he
      ·intro hx he
       rcases (pput_mem r x s.P).1 hx with rfl | hx
       ·exact fun e2 => find_none (state_zero hs).2 e he e2.symm
       ·exact m.pe x hx e he
   ·unfold prepV; split; exact m.el; split; exact m.el; split <;> exact m.el
  ·split
   ·rename_i h0
    have ht := do_facts h0 hr
    have hrg := okR_all hr
    unfold doV
    split
    ·exact m
    ·rename_i hc1
     split
     ·exact m
     ·rename_i hc2
      have hn := not_ended m hc2
      split
      ·rename_i hd
       split
       ·obtain ⟨q, hq, _, e⟩ := writesOf_some hd.1
        have hl := (prep_lists (h.recs q hq).1 (h.recs q hq).2).1
        exact more_end (s := { s with K := putV s.K (writesOf s r.f1) r.f2 }) (more_put m _ _ (by rw [e]; exact hl.key8)) hn ⟨ht, hrg.1.2⟩ hrg.2.1
       ·exact m
      ·exact more_end m hn ⟨ht, hrg.1.2⟩ hrg.2.1
   ·split
    ·unfold sweepV
     split
     ·exact m
     ·refine ⟨fun k hk => m.kk k ?_, m.en, m.er, m.pe, m.pa, m.el⟩
      obtain ⟨p, hp, rfl⟩ := List.mem_map.1 hk
      obtain ⟨hp, _⟩ := List.mem_filter.1 hp
      obtain ⟨q, hq, rfl⟩ := List.mem_map.1 hp
      exact List.mem_map.2 ⟨q, hq, rfl⟩
    ·split
     ·rename_i h0
      split
      ·exact more_put m _ _ (fun w hw => by rw [List.mem_singleton.1 hw]; exact (ver_facts h0 hr).2.1)
      ·exact m
     ·exact m
 ·exact m
theorem more_fold : ∀ (l : List Rec) {s : Sh}, ShOk s → ShMore s → ShMore (l.foldl (fun s r => (applyV s r).2) s)
 | [], _, _, m => m
 | r :: l, _, h, m => more_fold l (applyV_ok h r) (more_apply h m r)
theorem more_made (l : List Rec) : ShMore (madeV l) := more_fold _ sh0_ok ⟨by simp [sh0, keysK], by simp [sh0], by simp [sh0], by simp [sh0], ⟨by simp [sh0], by simp [sh0]⟩, by simp [sh0]⟩
/-! refused, or applied twice -/

theorem sweepFrom_cases (c : Chain) (t : Int) : sweepFrom c t = untilV c t ∨ (0 < untilV c t ∧ sweepFrom c t = untilV c t - 1 ∧ (c.getD (untilV c t - 1) zVer).f2 = false) := by
 unfold sweepFrom
 split
 ·rename_i h
  exact .inr ⟨h.1, rfl, h.2⟩
 ·exact .inl rfl
theorem sweep_twice (c : Chain) (t : Int) : sweepC (sweepC c t) t = sweepC c t := by
 have hd : ∀ j, j ≤ untilV c t → untilV (c.drop j) t = untilV c t - j := fun j hj => until_drop j c t hj
 show (sweepC c t).drop (sweepFrom (sweepC c t) t) = sweepC c t
 have h0 : sweepFrom (sweepC c t) t = 0 := by
  rcases sweepFrom_cases c t with e | ⟨h1, e, h2⟩
  ·have hu : untilV (sweepC c t) t = 0 := by
    unfold sweepC
    rw [e, hd _ (Nat.le_refl _)]
    omega
   unfold sweepFrom
   rw [hu]
   simp
  ·have hu : untilV (sweepC c t) t = 1 := by
    unfold sweepC
    rw [e, hd _ (by omega)]
    omega
   unfold sweepFrom
   rw [hu, if_pos]
   refine ⟨by omega, ?_⟩
   unfold sweepC
   rw [e, getD_drop]
   simpa using h2
 rw [h0]
 rfl
theorem sweepK_twice (K : List (Key × Chain)) (t : Int) : sweepK (sweepK K t) t = sweepK K t := by
 unfold sweepK
 have : ∀ L : List (Key × Chain), (∀ p ∈ L, sweepC p.2 t = p.2 ∧ p.2 ≠ []) → (L.map (fun p => (p.1, sweepC p.2 t))).filter (fun p => !p.2.isEmpty) = L := by
  intro L
  induction L with
  | nil => intro _; rfl
  | cons p L ih =>
   intro h
   obtain ⟨h1, h2⟩ := h p List.mem_cons_self
   rw [List.map_cons, List.filter_cons, ih (fun q hq => h q (List.mem_cons_of_mem _ hq))]
   rw [h1, if_pos (by simpa using h2)]
 refine this _ (fun p hp => ?_)
 obtain ⟨h1, h2⟩ := List.mem_filter.1 hp
 obtain ⟨q, hq, rfl⟩ := List.mem_map.1 h1
 exact ⟨sweep_twice _ _, by simpa using h2⟩
theorem find_snoc {E : List (Int × Int)} {x : Int × Int} {t : Int} (h : ∀ e ∈ E, e.1 ≠ t) (hx : x.1 = t) : (endE E x).find? (fun e => decide (e.1 = t)) = some x := by
 have h1 : ∀ L : List (Int × Int), (∀ e ∈ L, e.1 ≠ t) → (L ++ [x]).find? (fun e => decide (e.1 = t)) = some x := fun L hL => by
  rw [List.find?_append, find_none_of hL]
  simp [hx]
 unfold endE
 split
 ·rename_i hl
  rw [List.length_append, List.length_singleton] at hl
  rw [List.drop_append_of_le_length (by omega)]
  exact h1 _ (fun e he => h e (List.mem_of_mem_drop he))
 ·exact h1 _ h
theorem end_state {s : Sh} {t ts : Int} (h : ∀ e ∈ s.E, e.1 ≠ t) : stateV (endV s t ts) t = if ts = 0 then (3, 0) else (2, ts) := by
 unfold stateV
 have hp : (endV s t ts).P.any (fun r => decide (r.f1 = t)) = false := List.any_eq_false.2 (fun r hr => by
  have := (List.mem_filter.1 hr).2
  simpa using this)
 rw [hp, if_neg (by simp)]
 have hf : (endV s t ts).E.find? (fun e => decide (e.1 = t)) = some (t, ts) := find_snoc h rfl
 rw [hf]
/-- Applied twice. -/
theorem twice {s : Sh} (h : ShOk s) (m : ShMore s) (r : Rec) (h0 : (applyV s r).1 = 0) :
 (r.f0 = 4 → applyV (applyV s r).2 r = (0, (applyV s r).2)) ∧ (r.f0 = 1 ∨ r.f0 = 2 → (applyV (applyV s r).2 r).1 = 6) ∧ (r.f0 ≠ 4 → r.f0 ≠ 1 → r.f0 ≠ 2 → (applyV (applyV s r).2 r).1 = 110) := by
 have hr : okR r = 0 := by
  by_cases hr : okR r = 0
  ·exact hr
  ·unfold applyV at h0
   rw [if_neg hr] at h0
   exact absurd h0 hr
 refine ⟨fun k => ?_, fun k => ?_, fun k4 k1 k2 => ?_⟩
 ·have e : applyV s r = sweepV s r.f2 := by unfold applyV; rw [if_pos hr, if_neg (by omega), if_neg (by omega), if_pos k]
  have e2 : applyV (sweepV s r.f2).2 r = sweepV (sweepV s r.f2).2 r.f2 := by unfold applyV; rw [if_pos hr, if_neg (by omega), if_neg (by omega), if_pos k]
  rw [e] at h0 ⊢
  rw [e2]
  unfold sweepV at h0 ⊢
  by_cases hc : r.f2 < s.over
  ·rw [if_pos hc] at h0
   cases h0
  ·rw [if_neg hc]
   show (if r.f2 < r.f2 then _ else _) = _
   rw [if_neg (by omega)]
   show (0, ({ s with over := r.f2, K := sweepK (sweepK s.K r.f2) r.f2 } : Sh)) = _
   rw [sweepK_twice]
 ·rcases k with k | k
  ·have e : ∀ s, applyV s r = prepV s r := fun s => by unfold applyV; rw [if_pos hr, if_pos k]
   rw [e] at h0 ⊢
   rw [e]
   have hP : r ∈ (prepV s r).2.P := by
    unfold prepV at h0 ⊢
    split at h0
    ·cases h0
    ·split at h0
     ·cases h0
     ·split at h0
      ·cases h0
      ·rename_i a b c
       rw [if_neg a, if_neg b, if_neg c]
       exact (pput_mem r r s.P).2 (.inl rfl)
   have hst : stateV (prepV s r).2 r.f1 = (1, 0) := by
    unfold stateV
    rw [if_pos (List.any_eq_true.2 ⟨r, hP, decide_eq_true rfl⟩)]
   generalize (prepV s r).2 = s2 at *
   unfold prepV
   rw [hst, if_pos (by decide)]
  ·have e : ∀ s, applyV s r = doV s r.f1 r.f2 := fun s => by unfold applyV; rw [if_pos hr, if_neg (by omega), if_pos k]
   rw [e] at h0 ⊢
   rw [e]
   have hst : stateV (doV s r.f1 r.f2).2 r.f1 = if r.f2 = 0 then (3, 0) else (2, r.f2) := by
    unfold doV at h0 ⊢
    split at h0
    ·cases h0
    ·split at h0
     ·cases h0
     ·rename_i a b
      have hn := not_ended m b
      rw [if_neg a, if_neg b]
      split at h0
      ·split at h0
       ·rename_i c d
        rw [if_pos c, if_pos d]
        exact end_state (s := { s with K := putV s.K (writesOf s r.f1) r.f2 }) hn
       ·rename_i c d
        exact absurd h0 d
      ·rename_i c
       rw [if_neg c]
       exact end_state hn
   generalize (doV s r.f1 r.f2).2 = s2 at *
   unfold doV
   rw [hst]
   by_cases hz : r.f2 = 0
   ·rw [if_pos hz]
    rw [if_pos (show 1 < (3 : Int) ∧ (0 : Int) = r.f2 from ⟨by decide, hz.symm⟩)]
   ·rw [if_neg hz]
    rw [if_pos (show 1 < (2 : Int) ∧ r.f2 = r.f2 from ⟨by decide, rfl⟩)]
 ·have k3 : r.f0 = 3 := by
   by_cases k3 : r.f0 = 3
   ·exact k3
   ·unfold applyV at h0
    rw [if_pos hr, if_neg k1, if_neg k2, if_neg k4, if_neg k3] at h0
    cases h0
  have e : ∀ s, applyV s r = if roomV s [verW r] r.f2 = 0 then (0, { s with K := putV s.K [verW r] r.f2 }) else (roomV s [verW r] r.f2, s) := fun s => by unfold applyV; rw [if_pos hr, if_neg k1, if_neg k2, if_neg k4, if_pos k3]
  rw [e] at h0 ⊢
  rw [e]
  by_cases hm : roomV s [verW r] r.f2 = 0
  ·rw [if_pos hm]
   have hv : roomV { s with K := putV s.K [verW r] r.f2 } [verW r] r.f2 = 110 := by
    unfold roomV
    rw [if_pos]
    refine List.any_eq_true.2 ⟨verW r, List.mem_singleton.2 rfl, decide_eq_true ?_⟩
    show r.f2 ≤ lastV (look (kput s.K (wkey (verW r)) (look s.K (wkey (verW r)) ++ [⟨r.f2, (verW r).f1, (verW r).f2⟩])) (wkey (verW r)))
    rw [look_kput, if_pos rfl, last_snoc]
    exact Int.le_refl _
   show (if roomV { s with K := putV s.K [verW r] r.f2 } [verW r] r.f2 = 0 then _ else _ : Int × Sh).1 = 110
   rw [hv]
   rfl
  ·rw [if_neg hm] at h0
   exact absurd h0 hm
end Go.Proofs.YtaldfbmjmpkmmaaGreat.PL
