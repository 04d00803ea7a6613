/- A shelf in memory. -/
import Derived.Test.YtaldfbmjmpkmmaaHShE
import Derived.Test.YtaldfbmjmpkmmaaHShQ
import Derived.Test.YtaldfbmjmpkmmaaHMapL
namespace Go.Proofs.Ytaldfbmjmpkmmaa.PL
open Go.RowKit Go.Proofs.YtaldfbmjmpkmmaaW.PrintWords Go.Proofs.YtaldfbmjmpkmmaaW.PrintLast Go.Proofs.YtaldfbmjmpkmmaaW.PrintMore Go.Shelf Go.Maps Go.WideMaps Go.Proofs.Ytaldfbmjmpkmmaa.Mk
set_option linter.unusedVariables false
set_option linter.unusedSimpArgs false
set_option linter.unusedSectionVars false
theorem keyedS : Keyed Try.prog 9 := string_keyed Try.underlying9
theorem keyedI : Keyed Try.prog 3 := int_keyed Try.underlying3
def sk (k : Key) : Lit := .string k
def ik (t : Int) : Lit := .int .i64 t
theorem key_sk {s : ByteArray} (h : s.size ≤ maxLen) : keyOf Try.prog 9 (.string s) = some (sk (kb s)) := key_str Try.underlying9 h
theorem key_ik {t : Int} (h : -9223372036854775808 ≤ t ∧ t ≤ 9223372036854775807) : keyOf Try.prog 3 (.int .i64 t) = some (ik t) := keyOf_int_mk Try.underlying3 (WalkArith.wf_i64 (by omega))
/-- Rows of versions, of texts and of writes that are ok stay as they are. -/
def Still (ok : Nat → Prop) (w w1 : World) : Prop := ∀ g, ok g → ∀ q cells, (q = 29 ∨ q = 9 ∨ q = 56) → w.heap[g]? = some (.cells cells q (0, 0)) → w1.heap[g]? = w.heap[g]?
theorem Still.of_below {ok : Nat → Prop} {w w1 : World} (h : Below w.heap.size w w1) : Still ok w w1 := fun g _ q cells _ hc => h.block g (blk_lt hc)
theorem Still.of_grown {ok : Nat → Prop} {w w1 : World} {b : Nat} (h : w.grownBy w1 (some b)) (hb : ∀ q cells, (q = 29 ∨ q = 9 ∨ q = 56) → w.heap[b]? ≠ some (.cells cells q (0, 0))) : Still ok w w1 := fun g _ q cells hq hc =>
  h.block g (blk_lt hc) (fun e => hb q cells hq (by injection e with e; rw [← e]; exact hc))
theorem Still.trans {ok : Nat → Prop} {w w1 w2 : World} (h : Still ok w w1) (h2 : Still ok w1 w2) : Still ok w w2 := fun g hg q cells hq hc => by
  have e := h g hg q cells hq hc
  exact (h2 g hg q cells hq (e.trans hc)).trans e
section
variable {α : Type} {d : Kd α} {e base : Nat} {ok : Nat → Prop} {w w1 : World} {v : Value} {xs : List α}
theorem R_still (hE : ∀ q, q ∈ e :: d.E → (q = 29 ∨ q = 9 ∨ q = 56)) (h : d.R e w base ok v xs) (hs : Still ok w w1) : d.R e w1 base ok v xs :=
  Kd.R_mono (Kd.R_move (Kd.R_bound h) (fun k hk => by
    obtain ⟨h1, _, _, q, hq, cells, hc⟩ := hk
    exact hs k h1 q cells (hE q hq) hc)) (fun _ hk => hk.1)
theorem M_still (hE : ∀ q, q ∈ d.E → (q = 29 ∨ q = 9 ∨ q = 56)) {x : α} {cs : List Value} (h : d.M w base ok x cs) (hs : Still ok w w1) : d.M w1 base ok x cs :=
  d.M_mono (fun _ hk => hk.1) (d.M_move (fun k hk => by
    obtain ⟨h1, _, _, q, hq, cells, hc⟩ := hk
    exact hs k h1 q cells (hE q hq) hc) (d.M_bound h))
end
structure Parts (w : World) (ok : Nat → Prop) (b N : Nat) (s : Sh) (bk bp : Nat) (ve : Value) (fk fp : Lit → Option Value) : Prop where
  box : w.heap[b]? = some (.cells #[.map (some bk), .map (some bp), ve, .int .i64 s.over] 78 (0, 0))
  keys : MapL Try.prog 9 w bk N fk
  preps : MapL Try.prog 3 w bp N fp
  ends : kEnd.R 96 w 0 ok ve s.E
  kf : ∀ q v, fk q = some v → ∃ k, q = sk k ∧ k ∈ keysK s.K ∧ Kd.R k29 29 w 0 ok v (look s.K k)
  kt : ∀ k, k ∈ keysK s.K → (fk (sk k)).isSome = true
  pf : ∀ q v, fp q = some v → ∃ r, r ∈ s.P ∧ q = ik r.f1 ∧ ∃ cs, v = .agg cs.toArray ∧ k35.M w 0 ok r cs
  pt : ∀ r, r ∈ s.P → (fp (ik r.f1)).isSome = true
  okb : ok b
  okk : ok bk
  okp : ok bp
  ne : bk ≠ bp
  good : ShOk s
/-- A shelf in memory: its blocks are ok. -/
def ShAt (w : World) (ok : Nat → Prop) (b N : Nat) (s : Sh) : Prop := ∃ bk bp ve fk fp, Parts w ok b N s bk bp ve fk fp
/-- Nothing has changed but what is ok. -/
structure Chg (ok : Nat → Prop) (w w' : World) : Prop where
  os : w'.os = w.os
  tape : w'.tape = w.tape
  output : w'.output = w.output
  size : w.heap.size ≤ w'.heap.size
  block : ∀ g, g < w.heap.size → ¬ ok g → w'.heap[g]? = w.heap[g]?
section
variable {ok : Nat → Prop} {w w' w1 : World} {b N : Nat} {s : Sh} {bk bp : Nat} {ve : Value} {fk fp : Lit → Option Value}
theorem Chg.of_below (h : Below w.heap.size w w') : Chg ok w w' := ⟨h.os, h.tape, h.output, h.size, fun g hg _ => h.block g hg⟩
theorem Chg.of_grown {r : Nat} (h : w.grownBy w' (some r)) (hr : ok r) : Chg ok w w' := ⟨h.os, h.tape, h.output, h.size, fun g hg hn => h.block g hg (fun e => hn (by injection e with e; rw [e]; exact hr))⟩
theorem Chg.trans (h : Chg ok w w') (h2 : Chg ok w' w1) : Chg ok w w1 := ⟨h2.os.trans h.os, h2.tape.trans h.tape, h2.output.trans h.output, Nat.le_trans h.size h2.size, fun g hg hn => (h2.block g (Nat.lt_of_lt_of_le hg h.size) hn).trans (h.block g hg hn)⟩
theorem Chg.below {w0 : World} {n : Nat} (h : Chg ok w w') (hb : Below n w0 w) (hn : n ≤ w.heap.size) (hok : ∀ g, ok g → n ≤ g) : Below n w0 w' :=
  ⟨h.os.trans hb.os, h.tape.trans hb.tape, h.output.trans hb.output, Nat.le_trans hb.size h.size, fun g hg => (h.block g (by omega) (fun h => by have := hok g h; omega)).trans (hb.block g hg)⟩
theorem Parts.below (h : Parts w ok b N s bk bp ve fk fp) (hb : Below w.heap.size w w') : Parts w' ok b N s bk bp ve fk fp :=
  ⟨blk_below h.box hb, h.keys.below hb, h.preps.below hb, Kd.R_below h.ends hb, fun q v hq => by
    obtain ⟨k, h1, h2, h3⟩ := h.kf q v hq
    exact ⟨k, h1, h2, Kd.R_below h3 hb⟩, h.kt, fun q v hq => by
    obtain ⟨r, h1, h2, cs, h3, h4⟩ := h.pf q v hq
    exact ⟨r, h1, h2, cs, h3, Kd.M_below h4 hb⟩, h.pt, h.okb, h.okk, h.okp, h.ne, h.good⟩
theorem ShAt.below (h : ShAt w ok b N s) (hb : Below w.heap.size w w') : ShAt w' ok b N s := by
  obtain ⟨bk, bp, ve, fk, fp, hp⟩ := h
  exact ⟨bk, bp, ve, fk, fp, hp.below hb⟩
theorem Parts.cells (h : Parts w ok b N s bk bp ve fk fp) : w.cell? ⟨b, 0, none⟩ = some (.map (some bk)) ∧ w.cell? ⟨b, 1, none⟩ = some (.map (some bp)) ∧ w.cell? ⟨b, 2, none⟩ = some ve ∧ w.cell? ⟨b, 3, none⟩ = some (.int .i64 s.over) :=
  ⟨(blk_cell h.box 0).trans rfl, (blk_cell h.box 1).trans rfl, (blk_cell h.box 2).trans rfl, (blk_cell h.box 3).trans rfl⟩
theorem zeroC (w : World) : (zeroValue 81).run Try.prog w = .ok (.slice none 0 0) w := by kernel_rfl
theorem zeroR (w : World) : (zeroValue 35).run Try.prog w = .ok (.agg #[.int .i64 0, .int .i64 0, .int .i64 0, .int .i64 0, .string ⟨#[]⟩, .string ⟨#[]⟩, .bool false, .slice none 0 0, .slice none 0 0]) w := by kernel_rfl
/-- A key's chain, as a look-up gives it. -/
theorem Parts.chain (h : Parts w ok b N s bk bp ve fk fp) (k : Key) : ∃ A c, (fk (sk k)).getD (.slice none 0 0) = .slice A (look s.K k).length c ∧ (look s.K k).length ≤ c ∧ Kd.C k29 w A (look s.K k).length (look s.K k) := by
  cases hf : fk (sk k) with
  | none =>
    have hk : k ∉ keysK s.K := fun hk => by
      have := h.kt k hk
      rw [hf] at this
      cases this
    rw [look_none hk]
    exact ⟨none, 0, rfl, Nat.le_refl _, Kd.C_nil _ _⟩
  | some v =>
    obtain ⟨k', h1, h2, h3⟩ := h.kf _ v hf
    have : k = k' := by
      unfold sk at h1
      injection h1
    subst this
    obtain ⟨A, c, e, hl, hc⟩ := Kd.R_reads h3
    exact ⟨A, c, e, hl, hc⟩
theorem Parts.chain_some (h : Parts w ok b N s bk bp ve fk fp) (k : Key) : (fk (sk k)).isSome = !(look s.K k).isEmpty := by
  cases hf : fk (sk k) with
  | none =>
    have hk : k ∉ keysK s.K := fun hk => by
      have := h.kt k hk
      rw [hf] at this
      cases this
    rw [look_none hk]
    rfl
  | some v =>
    obtain ⟨k', h1, h2, h3⟩ := h.kf _ v hf
    have : k = k' := by
      unfold sk at h1
      injection h1
    subst this
    have hne : look s.K k ≠ [] := fun e => (h.good.keys.iff k).1 e h2
    have : (look s.K k).isEmpty = false := by simpa using hne
    rw [this]
    rfl
theorem Parts.keys_iff (h : Parts w ok b N s bk bp ve fk fp) (q : Lit) : (fk q).isSome = true ↔ q ∈ (keysK s.K).map sk := by
  constructor
  · intro hq
    obtain ⟨v, hv⟩ := Option.isSome_iff_exists.1 hq
    obtain ⟨k, rfl, hk, _⟩ := h.kf q v hv
    exact List.mem_map.2 ⟨k, hk, rfl⟩
  · intro hq
    obtain ⟨k, hk, rfl⟩ := List.mem_map.1 hq
    exact h.kt k hk
theorem Parts.keys_nodup (h : Parts w ok b N s bk bp ve fk fp) : ((keysK s.K).map sk).Nodup :=
  List.pairwise_map.2 (h.good.keys.rise.imp (fun {a b} hab (e : Lit.string a = Lit.string b) => kl_ne hab (Lit.string.inj e)))
theorem Parts.preps_iff (h : Parts w ok b N s bk bp ve fk fp) (q : Lit) : (fp q).isSome = true ↔ q ∈ s.P.map (fun r => ik r.f1) := by
  constructor
  · intro hq
    obtain ⟨v, hv⟩ := Option.isSome_iff_exists.1 hq
    obtain ⟨r, hr, rfl, _⟩ := h.pf q v hv
    exact List.mem_map.2 ⟨r, hr, rfl⟩
  · intro hq
    obtain ⟨r, hr, rfl⟩ := List.mem_map.1 hq
    exact h.pt r hr
theorem Parts.preps_nodup (h : Parts w ok b N s bk bp ve fk fp) : (s.P.map (fun r => ik r.f1)).Nodup :=
  List.pairwise_map.2 (h.good.rise.imp (fun {a b} (hab : a.f1 < b.f1) (e : Lit.int .i64 a.f1 = Lit.int .i64 b.f1) => by injection e with _ e; omega))
theorem Parts.prep_some (h : Parts w ok b N s bk bp ve fk fp) (t : Int) : (fp (ik t)).isSome = s.P.any (fun r => decide (r.f1 = t)) := by
  rw [Bool.eq_iff_iff, h.preps_iff, List.mem_map, List.any_eq_true]
  constructor
  · rintro ⟨r, hr, e⟩
    exact ⟨r, hr, decide_eq_true (by unfold ik at e; injection e)⟩
  · rintro ⟨r, hr, e⟩
    exact ⟨r, hr, by rw [of_decide_eq_true e]⟩
end
end Go.Proofs.Ytaldfbmjmpkmmaa.PL
