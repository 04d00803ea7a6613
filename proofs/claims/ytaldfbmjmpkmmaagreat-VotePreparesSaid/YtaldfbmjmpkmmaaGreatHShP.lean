/- The shelf, plain: keys in order, chains under sweeps and new versions; what keeps of a shelf when a record is applied. -/
import Derived.Test.YtaldfbmjmpkmmaaGreatM26ea5b
import Derived.Sort.Walk0
namespace Go.Proofs.YtaldfbmjmpkmmaaGreat.PL
open Go.RowKit
set_option linter.unusedVariables false
set_option linter.unusedSectionVars false
set_option linter.unusedSimpArgs false
/-! keys -/
theorem kl_irrefl (k : Key) : Op.bytesLess k k = false := by
 rw [Go.Proofs.bytesLess_eq]
 simp [List.lt_irrefl]
theorem kl_trans {a b c : Key} (h1 : Op.bytesLess a b = true) (h2 : Op.bytesLess b c = true) : Op.bytesLess a c = true := by
 rw [Go.Proofs.bytesLess_eq] at *
 simp only [decide_eq_true_eq] at *
 exact List.lt_trans h1 h2
theorem kl_tri {a b : Key} (h : Op.bytesLess a b = false) (hne : a ≠ b) : Op.bytesLess b a = true := by
 have := Mk.bytesLess_or_eq a b
 rw [h] at this
 have e : (a == b) = false := by simpa using hne
 rw [e] at this
 simpa using this
theorem kl_ne {a b : Key} (h : Op.bytesLess a b = true) : a ≠ b := fun e => by
 subst e
 rw [kl_irrefl] at h
 cases h
def keysK (K : List (Key × Chain)) : List Key := K.map (·.1)
def Rising (l : List Key) : Prop := l.Pairwise (fun a b => Op.bytesLess a b = true)
theorem Rising.nodup {l : List Key} (h : Rising l) : l.Nodup := h.imp (fun h => kl_ne h)
theorem look_kput (K : List (Key × Chain)) (q x : Key) (c : Chain) : look (kput K q c) x = if q = x then c else look K x := by
 induction K with
 | nil => simp [kput, look]
 | cons p r ih =>
  obtain ⟨k, d⟩ := p
  unfold kput
  by_cases h : k = q
  ·subst h
   rw [if_pos rfl]
   simp only [look]
   split <;> rfl
  ·rw [if_neg h]
   split
   ·simp only [look]
    by_cases hx : k = x
    ·subst hx
     rw [if_pos rfl, if_neg (fun e => h e.symm), if_pos rfl]
    ·rw [if_neg hx, if_neg hx, ih]
   ·simp only [look]
theorem kput_keys (K : List (Key × Chain)) (q x : Key) (c : Chain) : x ∈ keysK (kput K q c) ↔ x = q ∨ x ∈ keysK K := by
 induction K with
 | nil => simp [kput, keysK]
 | cons p r ih =>
  obtain ⟨k, d⟩ := p
  unfold kput
  by_cases h : k = q
  ·subst h
   rw [if_pos rfl]
   simp [keysK]
  ·rw [if_neg h]
   split
   ·simp only [keysK, List.map_cons, List.mem_cons] at ih ⊢
    rw [ih]
    constructor
    ·rintro (h1 | h1 | h1)
     ·exact .inr (.inl h1)
     ·exact .inl h1
     ·exact .inr (.inr h1)
    ·rintro (h1 | h1 | h1)
     ·exact .inr (.inl h1)
     ·exact .inl h1
     ·exact .inr (.inr h1)
   ·simp [keysK]
theorem kput_rising {K : List (Key × Chain)} (h : Rising (keysK K)) (q : Key) (c : Chain) : Rising (keysK (kput K q c)) := by
 induction K with
 | nil => simp [kput, keysK, Rising]
 | cons p r ih =>
  obtain ⟨k, d⟩ := p
  have h' : Rising (k :: keysK r) := h
  obtain ⟨h1, h2⟩ := List.pairwise_cons.1 h'
  unfold kput
  by_cases e : k = q
  ·subst e
   rw [if_pos rfl]
   exact h'
  ·rw [if_neg e]
   split
   ·rename_i hl
    refine List.pairwise_cons.2 ⟨fun y hy => ?_, ih h2⟩
    rcases (kput_keys r q y c).1 hy with rfl | hy
    ·exact hl
    ·exact h1 y hy
   ·rename_i hl
    have hq : Op.bytesLess q k = true := kl_tri (by simpa using hl) e
    refine List.pairwise_cons.2 ⟨fun y hy => ?_, h'⟩
    rcases List.mem_cons.1 hy with rfl | hy
    ·exact hq
    ·exact kl_trans hq (h1 y hy)
theorem kput_mem {K : List (Key × Chain)} {q : Key} {c : Chain} {p : Key × Chain} (h : p ∈ kput K q c) : p = (q, c) ∨ p ∈ K := by
 induction K with
 | nil => simpa [kput] using h
 | cons x r ih =>
  obtain ⟨k, d⟩ := x
  unfold kput at h
  split at h
  ·rcases List.mem_cons.1 h with h | h
   ·exact .inl h
   ·exact .inr (List.mem_cons_of_mem _ h)
  ·split at h
   ·rcases List.mem_cons.1 h with h | h
    ·exact .inr (by rw [h]; exact List.mem_cons_self)
    ·rcases ih h with h | h
     ·exact .inl h
     ·exact .inr (List.mem_cons_of_mem _ h)
   ·rcases List.mem_cons.1 h with h | h
    ·exact .inl h
    ·exact .inr h
theorem kput_len {K : List (Key × Chain)} (h : Rising (keysK K)) (q : Key) (c : Chain) : (kput K q c).length = if q ∈ keysK K then K.length else K.length + 1 := by
 induction K with
 | nil => simp [kput, keysK]
 | cons p r ih =>
  obtain ⟨k, d⟩ := p
  have h' : Rising (k :: keysK r) := h
  obtain ⟨h1, h2⟩ := List.pairwise_cons.1 h'
  unfold kput
  by_cases e : k = q
  ·subst e
   rw [if_pos rfl, if_pos (by simp [keysK])]
   rfl
  ·rw [if_neg e]
   split
   ·rename_i hl
    have := ih h2
    simp only [List.length_cons]
    rw [this]
    have e2 : (q ∈ keysK ((k, d) :: r)) ↔ q ∈ keysK r := by
     simp only [keysK, List.map_cons, List.mem_cons]
     exact ⟨fun h => h.elim (fun h => absurd h.symm e) id, .inr⟩
    by_cases hq : q ∈ keysK r
    ·rw [if_pos hq, if_pos (e2.2 hq)]
    ·rw [if_neg hq, if_neg (fun h => hq (e2.1 h))]
   ·rename_i hl
    have hq : Op.bytesLess q k = true := kl_tri (by simpa using hl) e
    rw [if_neg]
    ·rfl
    ·intro hm
     rcases List.mem_cons.1 hm with hm | hm
     ·exact e hm.symm
     ·have := kl_trans hq (h1 q hm)
      rw [kl_irrefl] at this
      cases this
theorem look_mem {K : List (Key × Chain)} {q : Key} (h : look K q ≠ []) : (q, look K q) ∈ K := by
 induction K with
 | nil => exact absurd rfl h
 | cons p r ih =>
  obtain ⟨k, d⟩ := p
  simp only [look] at h ⊢
  split at h
  ·rename_i e
   rw [if_pos e, e]
   exact List.mem_cons_self
  ·rename_i e
   rw [if_neg e]
   exact List.mem_cons_of_mem _ (ih h)
theorem look_of_mem {K : List (Key × Chain)} (hs : Rising (keysK K)) {q : Key} {c : Chain} (hm : (q, c) ∈ K) : look K q = c := by
 induction K with
 | nil => simp at hm
 | cons p r ih =>
  obtain ⟨k, d⟩ := p
  have h' : Rising (k :: keysK r) := hs
  obtain ⟨h1, h2⟩ := List.pairwise_cons.1 h'
  simp only [look]
  rcases List.mem_cons.1 hm with hm | hm
  ·injection hm with e1 e2
   rw [if_pos e1.symm, e2]
  ·have : q ∈ keysK r := List.mem_map.2 ⟨_, hm, rfl⟩
   rw [if_neg (kl_ne (h1 q this)), ih h2 hm]
theorem look_none {K : List (Key × Chain)} {q : Key} (h : q ∉ keysK K) : look K q = [] := by
 cases hl : look K q with
 | nil => rfl
 | cons a b =>
  have := look_mem (K := K) (q := q) (by rw [hl]; simp)
  exact absurd (List.mem_map.2 ⟨_, this, rfl⟩) h
/-- Keys and chains that may be. -/
structure KOk (K : List (Key × Chain)) : Prop where
 rise : Rising (keysK K)
 chain : ∀ p ∈ K, p.2 ≠ [] ∧ ChainOk p.2
 few : K.length ≤ 1024
theorem KOk.nil : KOk [] := ⟨by simp [keysK, Rising], by simp, by simp⟩
theorem KOk.look {K : List (Key × Chain)} (h : KOk K) (q : Key) : ChainOk (look K q) := by
 by_cases e : PL.look K q = []
 ·rw [e]; exact ChainOk.nil
 ·exact (h.chain _ (look_mem e)).2
theorem KOk.iff {K : List (Key × Chain)} (h : KOk K) (q : Key) : PL.look K q = [] ↔ q ∉ keysK K := by
 constructor
 ·intro e hq
  obtain ⟨p, hp, rfl⟩ := List.mem_map.1 hq
  have := look_of_mem h.rise (q := p.1) (c := p.2) hp
  exact (h.chain p hp).1 (this.symm.trans e)
 ·exact look_none
/-! chains -/
theorem until_le (c : Chain) (t : Int) : untilV c t ≤ c.length := (List.takeWhile_prefix _).length_le
theorem until_cons (v : Ver) (c : Chain) (t : Int) : untilV (v :: c) t = if v.f0 ≤ t then untilV c t + 1 else 0 := by
 unfold untilV
 rw [List.takeWhile_cons]
 by_cases h : v.f0 ≤ t
 ·rw [if_pos h, if_pos (by simpa using h)]
  rfl
 ·rw [if_neg h, if_neg (by simpa using h)]
  rfl


theorem until_drop (j : Nat) : ∀ (c : Chain) (t : Int), j ≤ untilV c t → untilV (c.drop j) t = untilV c t - j := by
 induction j with
 | zero => intro c t _; rfl
 | succ j ih =>
  intro c t h
  cases c with
  | nil => simp [untilV] at h
  | cons v r =>
   rw [until_cons] at h ⊢
   by_cases h1 : v.f0 ≤ t
   ·rw [if_pos h1] at h ⊢
    rw [List.drop_succ_cons, ih r t (by omega)]
    omega
   ·rw [if_neg h1] at h
    omega
theorem getD_drop (c : Chain) (j i : Nat) (z : Ver) : (c.drop j).getD i z = c.getD (j + i) z := by simp [List.getD_eq_getElem?_getD, List.getElem?_drop]


theorem look_sweep {K : List (Key × Chain)} (h : Rising (keysK K)) (t : Int) (q : Key) : look (sweepK K t) q = sweepC (look K q) t := by
 induction K with
 | nil => rfl
 | cons p r ih =>
  obtain ⟨k, d⟩ := p
  have h' : Rising (k :: keysK r) := h
  obtain ⟨h1, h2⟩ := List.pairwise_cons.1 h'
  have ih' := ih h2
  have hs : sweepK ((k, d) :: r) t = if (sweepC d t).isEmpty = true then sweepK r t else (k, sweepC d t) :: sweepK r t := by
   unfold sweepK
   rw [List.map_cons, List.filter_cons]
   cases (sweepC d t).isEmpty <;> rfl
  rw [hs]
  simp only [look]
  by_cases e : k = q
  ·subst e
   rw [if_pos rfl]
   split
   ·rename_i he
    have hr : look r k = [] := look_none (fun hm => by have := h1 k hm; rw [kl_irrefl] at this; cases this)
    rw [ih', hr]
    have : sweepC d t = [] := by simpa using he
    rw [this]
    rfl
   ·simp [look]
  ·rw [if_neg e]
   split
   ·exact ih'
   ·simp only [look]
    rw [if_neg e, ih']
theorem KOk.sweep {K : List (Key × Chain)} (h : KOk K) (t : Int) : KOk (sweepK K t) := by
 refine ⟨?_, fun p hp => ?_, ?_⟩
 ·refine List.Pairwise.sublist ?_ h.rise
  unfold keysK sweepK
  have : (K.map (fun p => (p.1, sweepC p.2 t))).map (fun x => x.1) = K.map (fun x => x.1) := by rw [List.map_map]; rfl
  rw [← this]
  exact List.Sublist.map _ List.filter_sublist
 ·obtain ⟨h1, h2⟩ := List.mem_filter.1 hp
  obtain ⟨x, hx, rfl⟩ := List.mem_map.1 h1
  exact ⟨by simpa using h2, ((h.chain x hx).2).drop _⟩
 ·have := List.length_filter_le (fun p : Key × Chain => !p.2.isEmpty) (K.map (fun p => (p.1, sweepC p.2 t)))
  rw [List.length_map] at this
  have h2 := h.few
  unfold sweepK
  omega
/-! versions that are put -/
structure PutOk (K : List (Key × Chain)) (l : List Wr) (ts : Int) : Prop where
 apart : (l.map wkey).Nodup
 last : ∀ w ∈ l, lastV (look K (wkey w)) < ts
 ver : ∀ w ∈ l, VerOk ⟨ts, w.f1, w.f2⟩
 room : roomN K K.length l = 0
theorem cntK_le {K : List (Key × Chain)} {n : Nat} {w : Wr} {l : List Wr} (h : roomN K n (w :: l) = 0) : (look K (wkey w)).length < 1024 ∧ cntK K n w ≤ 1024 ∧ roomN K (cntK K n w) l = 0 := by
 have e : roomN K n (w :: l) = if 1024 ≤ (look K (wkey w)).length ∨ 1024 < cntK K n w then 2 else roomN K (cntK K n w) l := rfl
 rw [e] at h
 by_cases hc : 1024 ≤ (look K (wkey w)).length ∨ 1024 < cntK K n w
 ·rw [if_pos hc] at h
  cases h
 ·rw [if_neg hc] at h
  exact ⟨by omega, by omega, h⟩
theorem roomN_other (K : List (Key × Chain)) (q : Key) (c : Chain) : ∀ (l : List Wr) (n : Nat), (∀ w ∈ l, wkey w ≠ q) → roomN (kput K q c) n l = roomN K n l
 | [], _, _ => rfl
 | w :: l, n, h => by
  have e : look (kput K q c) (wkey w) = look K (wkey w) := by
   rw [look_kput, if_neg (fun e => h w List.mem_cons_self e.symm)]
  have e2 : cntK (kput K q c) n w = cntK K n w := by
   unfold cntK
   rw [e]
  simp only [roomN]
  rw [e, e2, roomN_other K q c l _ (fun x hx => h x (List.mem_cons_of_mem _ hx))]
theorem put1_ok {K : List (Key × Chain)} {ts : Int} {w : Wr} {l : List Wr} (h : KOk K) (hp : PutOk K (w :: l) ts) : KOk (put1 ts K w) ∧ PutOk (put1 ts K w) l ts := by
 obtain ⟨h1, h2⟩ := List.nodup_cons.1 hp.apart
 obtain ⟨r1, r2, r3⟩ := cntK_le hp.room
 have hne : ∀ x ∈ l, wkey x ≠ wkey w := fun x hx e => h1 (List.mem_map.2 ⟨x, hx, e⟩)
 have hlen : (put1 ts K w).length = cntK K K.length w := by
  unfold put1 cntK
  rw [kput_len h.rise]
  by_cases e : look K (wkey w) = []
  ·rw [if_neg ((h.iff _).1 e), if_pos (by rw [e]; rfl)]
  ·have e0 : ¬ (look K (wkey w)).isEmpty = true := by simpa using e
   have : wkey w ∈ keysK K := by
    by_cases hq : wkey w ∈ keysK K
    ·exact hq
    ·exact absurd ((h.iff _).2 hq) e
   rw [if_pos this, if_neg e0]
 refine ⟨⟨kput_rising h.rise _ _, fun p hp' => ?_, by rw [hlen]; exact r2⟩, ⟨h2, fun x hx => ?_, fun x hx => hp.ver x (List.mem_cons_of_mem _ hx), ?_⟩⟩
 ·rcases kput_mem hp' with rfl | hp'
  ·exact ⟨by simp, (h.look _).snoc (hp.ver w List.mem_cons_self) r1 (hp.last w List.mem_cons_self)⟩
  ·exact h.chain p hp'
 ·unfold put1
  rw [look_kput, if_neg (fun e => hne x hx e.symm)]
  exact hp.last x (List.mem_cons_of_mem _ hx)
 ·rw [hlen]
  unfold put1
  rw [roomN_other _ _ _ _ _ hne]
  exact r3
theorem putV_ok : ∀ (l : List Wr) {K : List (Key × Chain)} {ts : Int}, KOk K → PutOk K l ts → KOk (putV K l ts)
 | [], _, _, h, _ => h
 | w :: l, K, ts, h, hp => putV_ok l (put1_ok h hp).1 (put1_ok h hp).2
end Go.Proofs.YtaldfbmjmpkmmaaGreat.PL
