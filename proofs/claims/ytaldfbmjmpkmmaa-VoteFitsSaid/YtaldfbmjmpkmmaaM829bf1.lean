/- Texts of this proof, one behind the other (merged by a program of this session). -/
import Derived.Test.YtaldfbmjmpkmmaaMc76845
import Derived.Test.YtaldfbmjmpkmmaaMf19bc3
import Derived.Test.YtaldfbmjmpkmmaaMb1c1e0
namespace Go.Proofs.Ytaldfbmjmpkmmaa.PL
open Go.RowKit Go.Proofs.YtaldfbmjmpkmmaaW.PrintWords Go.Proofs.YtaldfbmjmpkmmaaW.PrintLast Go.Proofs.YtaldfbmjmpkmmaaW.PrintMore Go.Shelf Go.Maps Go.WideMaps Go.Proofs.Ytaldfbmjmpkmmaa.Mk
set_option linter.unusedVariables false
set_option linter.unusedSimpArgs false
set_option linter.unusedSectionVars false
theorem keyedS : Keyed Try.prog 9 := string_keyed Try.underlying9
theorem keyedI : Keyed Try.prog 3 := int_keyed Try.underlying3
def sk (k : Key) : Lit := .string k
def ik (t : Int) : Lit := .int .i64 t
theorem key_sk {s : ByteArray} (h : s.size ≤ maxLen) : keyOf Try.prog 9 (.string s) = some (sk (kb s)) := key_str Try.underlying9 h
theorem key_ik {t : Int} (h : -9223372036854775808 ≤ t ∧ t ≤ 9223372036854775807) : keyOf Try.prog 3 (.int .i64 t) = some (ik t) := keyOf_int_mk Try.underlying3 (WalkArith.wf_i64 (by omega))
/-- Rows of versions, of texts and of writes that are ok stay as they are. -/
def Still (ok : Nat → Prop) (w w1 : World) : Prop := ∀ g, ok g → ∀ q cells, (q = 29 ∨ q = 9 ∨ q = 56) → w.heap[g]? = some (.cells cells q (0, 0)) → w1.heap[g]? = w.heap[g]?
theorem Still.of_below {ok : Nat → Prop} {w w1 : World} (h : Below w.heap.size w w1) : Still ok w w1 := fun g _ q cells _ hc => h.block g (blk_lt hc)
theorem Still.of_grown {ok : Nat → Prop} {w w1 : World} {b : Nat} (h : w.grownBy w1 (some b)) (hb : ∀ q cells, (q = 29 ∨ q = 9 ∨ q = 56) → w.heap[b]? ≠ some (.cells cells q (0, 0))) : Still ok w w1 := fun g _ q cells hq hc =>
  h.block g (blk_lt hc) (fun e => hb q cells hq (by injection e with e; rw [← e]; exact hc))
theorem Still.trans {ok : Nat → Prop} {w w1 w2 : World} (h : Still ok w w1) (h2 : Still ok w1 w2) : Still ok w w2 := fun g hg q cells hq hc => by
  have e := h g hg q cells hq hc
  exact (h2 g hg q cells hq (e.trans hc)).trans e
section
variable {α : Type} {d : Kd α} {e base : Nat} {ok : Nat → Prop} {w w1 : World} {v : Value} {xs : List α}
theorem R_still (hE : ∀ q, q ∈ e :: d.E → (q = 29 ∨ q = 9 ∨ q = 56)) (h : d.R e w base ok v xs) (hs : Still ok w w1) : d.R e w1 base ok v xs :=
  Kd.R_mono (Kd.R_move (Kd.R_bound h) (fun k hk => by
    obtain ⟨h1, _, _, q, hq, cells, hc⟩ := hk
    exact hs k h1 q cells (hE q hq) hc)) (fun _ hk => hk.1)
theorem M_still (hE : ∀ q, q ∈ d.E → (q = 29 ∨ q = 9 ∨ q = 56)) {x : α} {cs : List Value} (h : d.M w base ok x cs) (hs : Still ok w w1) : d.M w1 base ok x cs :=
  d.M_mono (fun _ hk => hk.1) (d.M_move (fun k hk => by
    obtain ⟨h1, _, _, q, hq, cells, hc⟩ := hk
    exact hs k h1 q cells (hE q hq) hc) (d.M_bound h))
end
structure Parts (w : World) (ok : Nat → Prop) (b N : Nat) (s : Sh) (bk bp : Nat) (ve : Value) (fk fp : Lit → Option Value) : Prop where
  box : w.heap[b]? = some (.cells #[.map (some bk), .map (some bp), ve, .int .i64 s.over] 78 (0, 0))
  keys : MapL Try.prog 9 w bk N fk
  preps : MapL Try.prog 3 w bp N fp
  ends : kEnd.R 96 w 0 ok ve s.E
  kf : ∀ q v, fk q = some v → ∃ k, q = sk k ∧ k ∈ keysK s.K ∧ Kd.R k29 29 w 0 ok v (look s.K k)
  kt : ∀ k, k ∈ keysK s.K → (fk (sk k)).isSome = true
  pf : ∀ q v, fp q = some v → ∃ r, r ∈ s.P ∧ q = ik r.f1 ∧ ∃ cs, v = .agg cs.toArray ∧ k35.M w 0 ok r cs
  pt : ∀ r, r ∈ s.P → (fp (ik r.f1)).isSome = true
  okb : ok b
  okk : ok bk
  okp : ok bp
  ne : bk ≠ bp
  good : ShOk s
/-- A shelf in memory: its blocks are ok. -/
def ShAt (w : World) (ok : Nat → Prop) (b N : Nat) (s : Sh) : Prop := ∃ bk bp ve fk fp, Parts w ok b N s bk bp ve fk fp
/-- Nothing has changed but what is ok. -/
structure Chg0 (ok : Nat → Prop) (w w' : World) : Prop where
  os : w'.os = w.os
  tape : w'.tape = w.tape
  output : w'.output = w.output
  size : w.heap.size ≤ w'.heap.size
  block : ∀ g, g < w.heap.size → ¬ ok g → w'.heap[g]? = w.heap[g]?
/-- .. and of that no row of versions, texts or writes. -/
structure Chg (ok : Nat → Prop) (w w' : World) : Prop extends Chg0 ok w w' where
  still : Still ok w w'
section
variable {ok : Nat → Prop} {w w' w1 : World} {b N : Nat} {s : Sh} {bk bp : Nat} {ve : Value} {fk fp : Lit → Option Value}
theorem Chg0.of_below (h : Below w.heap.size w w') : Chg0 ok w w' := ⟨h.os, h.tape, h.output, h.size, fun g hg _ => h.block g hg⟩
theorem Chg0.of_grown {r : Nat} (h : w.grownBy w' (some r)) (hr : ok r) : Chg0 ok w w' := ⟨h.os, h.tape, h.output, h.size, fun g hg hn => h.block g hg (fun e => hn (by injection e with e; rw [e]; exact hr))⟩
theorem Chg0.trans (h : Chg0 ok w w') (h2 : Chg0 ok w' w1) : Chg0 ok w w1 := ⟨h2.os.trans h.os, h2.tape.trans h.tape, h2.output.trans h.output, Nat.le_trans h.size h2.size, fun g hg hn => (h2.block g (Nat.lt_of_lt_of_le hg h.size) hn).trans (h.block g hg hn)⟩
theorem Chg0.below {w0 : World} {n : Nat} (h : Chg0 ok w w') (hb : Below n w0 w) (hn : n ≤ w.heap.size) (hok : ∀ g, ok g → n ≤ g) : Below n w0 w' :=
  ⟨h.os.trans hb.os, h.tape.trans hb.tape, h.output.trans hb.output, Nat.le_trans hb.size h.size, fun g hg => (h.block g (by omega) (fun h => by have := hok g h; omega)).trans (hb.block g hg)⟩
theorem Chg.of_below (h : Below w.heap.size w w') : Chg ok w w' := ⟨Chg0.of_below h, Still.of_below h⟩
theorem Chg.of_grown {r : Nat} (h : w.grownBy w' (some r)) (hr : ok r) (hb : ∀ q cells, (q = 29 ∨ q = 9 ∨ q = 56) → w.heap[r]? ≠ some (.cells cells q (0, 0))) : Chg ok w w' := ⟨Chg0.of_grown h hr, Still.of_grown h hb⟩
theorem Chg.trans (h : Chg ok w w') (h2 : Chg ok w' w1) : Chg ok w w1 := ⟨h.toChg0.trans h2.toChg0, h.still.trans h2.still⟩
theorem Chg.below {w0 : World} {n : Nat} (h : Chg ok w w') (hb : Below n w0 w) (hn : n ≤ w.heap.size) (hok : ∀ g, ok g → n ≤ g) : Below n w0 w' := h.toChg0.below hb hn hok
theorem other_type {g : Nat} {cs : Array Value} {t : TypeId} (h : w.heap[g]? = some (.cells cs t (0, 0))) (h1 : t ≠ 29) (h2 : t ≠ 9) (h3 : t ≠ 56) : ∀ q cells, (q = 29 ∨ q = 9 ∨ q = 56) → w.heap[g]? ≠ some (.cells cells q (0, 0)) := fun q cells hq hc => by
  rw [h] at hc
  injection hc with hc
  injection hc with _ e _
  rcases hq with rfl | rfl | rfl
  · exact h1 e
  · exact h2 e
  · exact h3 e
theorem Parts.below (h : Parts w ok b N s bk bp ve fk fp) (hb : Below w.heap.size w w') : Parts w' ok b N s bk bp ve fk fp :=
  ⟨blk_below h.box hb, h.keys.below hb, h.preps.below hb, Kd.R_below h.ends hb, fun q v hq => by
    obtain ⟨k, h1, h2, h3⟩ := h.kf q v hq
    exact ⟨k, h1, h2, Kd.R_below h3 hb⟩, h.kt, fun q v hq => by
    obtain ⟨r, h1, h2, cs, h3, h4⟩ := h.pf q v hq
    exact ⟨r, h1, h2, cs, h3, Kd.M_below h4 hb⟩, h.pt, h.okb, h.okk, h.okp, h.ne, h.good⟩
theorem ShAt.below (h : ShAt w ok b N s) (hb : Below w.heap.size w w') : ShAt w' ok b N s := by
  obtain ⟨bk, bp, ve, fk, fp, hp⟩ := h
  exact ⟨bk, bp, ve, fk, fp, hp.below hb⟩
theorem Parts.cells (h : Parts w ok b N s bk bp ve fk fp) : w.cell? ⟨b, 0, none⟩ = some (.map (some bk)) ∧ w.cell? ⟨b, 1, none⟩ = some (.map (some bp)) ∧ w.cell? ⟨b, 2, none⟩ = some ve ∧ w.cell? ⟨b, 3, none⟩ = some (.int .i64 s.over) :=
  ⟨(blk_cell h.box 0).trans rfl, (blk_cell h.box 1).trans rfl, (blk_cell h.box 2).trans rfl, (blk_cell h.box 3).trans rfl⟩
theorem zeroC (w : World) : (zeroValue 81).run Try.prog w = .ok (.slice none 0 0) w := by kernel_rfl
theorem zeroR (w : World) : (zeroValue 35).run Try.prog w = .ok (.agg #[.int .i64 0, .int .i64 0, .int .i64 0, .int .i64 0, .string ⟨#[]⟩, .string ⟨#[]⟩, .bool false, .slice none 0 0, .slice none 0 0]) w := by kernel_rfl
/-- A key's chain, as a look-up gives it. -/
theorem Parts.chain (h : Parts w ok b N s bk bp ve fk fp) (k : Key) : ∃ A c, (fk (sk k)).getD (.slice none 0 0) = .slice A (look s.K k).length c ∧ (look s.K k).length ≤ c ∧ Kd.C k29 w A (look s.K k).length (look s.K k) := by
  cases hf : fk (sk k) with
  | none =>
    have hk : k ∉ keysK s.K := fun hk => by
      have := h.kt k hk
      rw [hf] at this
      cases this
    rw [look_none hk]
    exact ⟨none, 0, rfl, Nat.le_refl _, Kd.C_nil _ _⟩
  | some v =>
    obtain ⟨k', h1, h2, h3⟩ := h.kf _ v hf
    have : k = k' := by
      unfold sk at h1
      injection h1
    subst this
    obtain ⟨A, c, e, hl, hc⟩ := Kd.R_reads h3
    exact ⟨A, c, e, hl, hc⟩
theorem Parts.chain_some (h : Parts w ok b N s bk bp ve fk fp) (k : Key) : (fk (sk k)).isSome = !(look s.K k).isEmpty := by
  cases hf : fk (sk k) with
  | none =>
    have hk : k ∉ keysK s.K := fun hk => by
      have := h.kt k hk
      rw [hf] at this
      cases this
    rw [look_none hk]
    rfl
  | some v =>
    obtain ⟨k', h1, h2, h3⟩ := h.kf _ v hf
    have : k = k' := by
      unfold sk at h1
      injection h1
    subst this
    have hne : look s.K k ≠ [] := fun e => (h.good.keys.iff k).1 e h2
    have : (look s.K k).isEmpty = false := by simpa using hne
    rw [this]
    rfl
theorem Parts.keys_iff (h : Parts w ok b N s bk bp ve fk fp) (q : Lit) : (fk q).isSome = true ↔ q ∈ (keysK s.K).map sk := by
  constructor
  · intro hq
    obtain ⟨v, hv⟩ := Option.isSome_iff_exists.1 hq
    obtain ⟨k, rfl, hk, _⟩ := h.kf q v hv
    exact List.mem_map.2 ⟨k, hk, rfl⟩
  · intro hq
    obtain ⟨k, hk, rfl⟩ := List.mem_map.1 hq
    exact h.kt k hk
theorem Parts.keys_nodup (h : Parts w ok b N s bk bp ve fk fp) : ((keysK s.K).map sk).Nodup :=
  List.pairwise_map.2 (h.good.keys.rise.imp (fun {a b} hab (e : Lit.string a = Lit.string b) => kl_ne hab (Lit.string.inj e)))
theorem Parts.preps_iff (h : Parts w ok b N s bk bp ve fk fp) (q : Lit) : (fp q).isSome = true ↔ q ∈ s.P.map (fun r => ik r.f1) := by
  constructor
  · intro hq
    obtain ⟨v, hv⟩ := Option.isSome_iff_exists.1 hq
    obtain ⟨r, hr, rfl, _⟩ := h.pf q v hv
    exact List.mem_map.2 ⟨r, hr, rfl⟩
  · intro hq
    obtain ⟨r, hr, rfl⟩ := List.mem_map.1 hq
    exact h.pt r hr
theorem Parts.preps_nodup (h : Parts w ok b N s bk bp ve fk fp) : (s.P.map (fun r => ik r.f1)).Nodup :=
  List.pairwise_map.2 (h.good.rise.imp (fun {a b} (hab : a.f1 < b.f1) (e : Lit.int .i64 a.f1 = Lit.int .i64 b.f1) => by injection e with _ e; omega))
theorem Parts.prep_some (h : Parts w ok b N s bk bp ve fk fp) (t : Int) : (fp (ik t)).isSome = s.P.any (fun r => decide (r.f1 = t)) := by
  rw [Bool.eq_iff_iff, h.preps_iff, List.mem_map, List.any_eq_true]
  constructor
  · rintro ⟨r, hr, e⟩
    exact ⟨r, hr, decide_eq_true (by unfold ik at e; injection e)⟩
  · rintro ⟨r, hr, e⟩
    exact ⟨r, hr, by rw [of_decide_eq_true e]⟩
end
end Go.Proofs.Ytaldfbmjmpkmmaa.PL
namespace Go.Proofs.Ytaldfbmjmpkmmaa.PL
open Go.RowKit Go.Proofs.YtaldfbmjmpkmmaaW.PrintWords Go.Proofs.YtaldfbmjmpkmmaaW.PrintLast Go.Proofs.YtaldfbmjmpkmmaaW.PrintMore
set_option linter.unusedVariables false
set_option linter.unusedSimpArgs false
set_option linter.unusedSectionVars false
def bs (k : Key) : ByteArray := ⟨k.toArray⟩
theorem kb_bs (k : Key) : kb (bs k) = k := by simp [kb, bs]
theorem bs_kb (s : ByteArray) : bs (kb s) = s := by cases s; simp [kb, bs]
theorem bs_list (k : Key) : (bs k).toList = k := by rw [kb_toList, kb_bs]
abbrev KC := Key × Chain
/-- A key and its chain. -/
def kKC : Kd KC := Kd.iso (Kd.pair Kd.string (Kd.slice 29 k29)) (fun x => (bs x.1, x.2))
theorem kKC_open {w : World} {x : KC} {cs : List Value} (h : kKC.K w x cs) : ∃ A c, cs = [.string (bs x.1), .slice A x.2.length c] ∧ x.2.length ≤ c ∧ Kd.C k29 w A x.2.length x.2 := by
  obtain ⟨_, _, rfl, rfl, ⟨A, c, rfl, l, g⟩⟩ := h
  exact ⟨A, c, rfl, l, g⟩
theorem kKC_mk (w : World) (x : KC) {A : Option Addr} {c : Nat} (l : x.2.length ≤ c) (g : Kd.C k29 w A x.2.length x.2) : kKC.K w x [.string (bs x.1), .slice A x.2.length c] :=
  ⟨[.string (bs x.1)], [.slice A x.2.length c], rfl, rfl, ⟨A, c, rfl, l, g⟩⟩
theorem heapV : Kd.Heap k29 := Kd.heap_iso _ (Kd.heap_pair (Kd.heap_int _) (Kd.heap_pair Kd.heap_string Kd.heap_bool))
theorem heapW : Kd.Heap k56 := Kd.heap_iso _ (Kd.heap_pair Kd.heap_string (Kd.heap_pair Kd.heap_string Kd.heap_bool))
theorem heapK : Kd.Heap kKC := Kd.heap_iso _ (Kd.heap_pair Kd.heap_string (Kd.heap_slice _ heapV))
theorem heapR : Kd.Heap k35 := Kd.heap_iso _ (Kd.heap_pair (Kd.heap_int _) (Kd.heap_pair (Kd.heap_int _) (Kd.heap_pair (Kd.heap_int _) (Kd.heap_pair (Kd.heap_int _) (Kd.heap_pair Kd.heap_string (Kd.heap_pair Kd.heap_string (Kd.heap_pair Kd.heap_bool (Kd.heap_pair (Kd.heap_slice _ Kd.heap_string) (Kd.heap_slice _ heapW)))))))))
/-- The document's shelf: its box and its rows; what the rows lead to is ok, and not the box. -/
structure RfP (w : World) (ok : Nat → Prop) (b : Nat) (s : Sh) (AK AP AE : Option Addr) (cK cP cE : Nat) : Prop where
  box : w.heap[b]? = some (.cells #[.slice AK s.K.length cK, .slice AP s.P.length cP, .slice AE s.E.length cE, .int .i64 s.over] 89 (0, 0))
  lK : s.K.length ≤ cK
  lP : s.P.length ≤ cP
  lE : s.E.length ≤ cE
  fK : Kd.F kKC w (fun g => ok g ∧ g ≠ b) AK s.K.length s.K
  fP : Kd.F k35 w (fun g => ok g ∧ g ≠ b) AP s.P.length s.P
  fE : Kd.F kEnd w (fun g => ok g ∧ g ≠ b) AE s.E.length s.E
  okb : ok b
  pos : ∀ e ∈ s.E, 0 ≤ e.2
  few : s.E.length ≤ 1024
  good : ShOk s
def RfAt (w : World) (ok : Nat → Prop) (b : Nat) (s : Sh) : Prop := ∃ AK AP AE cK cP cE, RfP w ok b s AK AP AE cK cP cE
section
variable {w w' : World} {ok ok' : Nat → Prop} {b : Nat} {s : Sh} {AK AP AE : Option Addr} {cK cP cE : Nat}
theorem RfP.step (h : RfP w ok b s AK AP AE cK cP cE) (hm : ∀ g, ok g → g < w.heap.size → w'.heap[g]? = w.heap[g]?) : RfP w' ok b s AK AP AE cK cP cE :=
  ⟨(hm b h.okb (blk_lt h.box)).trans h.box, h.lK, h.lP, h.lE, Kd.F_step h.fK (fun g hg hl => hm g hg.1 hl), Kd.F_step h.fP (fun g hg hl => hm g hg.1 hl), Kd.F_step h.fE (fun g hg hl => hm g hg.1 hl), h.okb, h.pos, h.few, h.good⟩
theorem RfAt.step (h : RfAt w ok b s) (hm : ∀ g, ok g → g < w.heap.size → w'.heap[g]? = w.heap[g]?) : RfAt w' ok b s := by
  obtain ⟨AK, AP, AE, cK, cP, cE, hp⟩ := h
  exact ⟨AK, AP, AE, cK, cP, cE, hp.step hm⟩
theorem RfP.below (h : RfP w ok b s AK AP AE cK cP cE) (hb : Below w.heap.size w w') : RfP w' ok b s AK AP AE cK cP cE := h.step (fun g _ hl => hb.block g hl)
theorem RfAt.below (h : RfAt w ok b s) (hb : Below w.heap.size w w') : RfAt w' ok b s := h.step (fun g _ hl => hb.block g hl)
theorem RfAt.apart (h : RfAt w ok b s) (hc : Chg0 ok' w w') (hd : ∀ g, ok g → g < w.heap.size → ¬ ok' g) : RfAt w' ok b s := h.step (fun g hg hl => hc.block g hl (hd g hg hl))
theorem RfAt.mono (h : RfAt w ok b s) (hok : ∀ g, ok g → g < w.heap.size → ok' g) : RfAt w ok' b s := by
  obtain ⟨AK, AP, AE, cK, cP, cE, hp⟩ := h
  exact ⟨AK, AP, AE, cK, cP, cE, hp.box, hp.lK, hp.lP, hp.lE, Kd.F_mono (Kd.F_bound hp.fK) (fun g hg => ⟨hok g hg.1.1 hg.2, hg.1.2⟩), Kd.F_mono (Kd.F_bound hp.fP) (fun g hg => ⟨hok g hg.1.1 hg.2, hg.1.2⟩), Kd.F_mono (Kd.F_bound hp.fE) (fun g hg => ⟨hok g hg.1.1 hg.2, hg.1.2⟩), hok b hp.okb (blk_lt hp.box), hp.pos, hp.few, hp.good⟩
theorem RfP.cells (h : RfP w ok b s AK AP AE cK cP cE) : w.cell? ⟨b, 0, none⟩ = some (.slice AK s.K.length cK) ∧ w.cell? ⟨b, 1, none⟩ = some (.slice AP s.P.length cP) ∧ w.cell? ⟨b, 2, none⟩ = some (.slice AE s.E.length cE) ∧ w.cell? ⟨b, 3, none⟩ = some (.int .i64 s.over) :=
  ⟨(blk_cell h.box 0).trans rfl, (blk_cell h.box 1).trans rfl, (blk_cell h.box 2).trans rfl, (blk_cell h.box 3).trans rfl⟩
end
end Go.Proofs.Ytaldfbmjmpkmmaa.PL
namespace Go.Proofs.Ytaldfbmjmpkmmaa.PL
set_option linter.unusedVariables false
/-- The place of a key among keys. -/
def atN : List (Key × Chain) → Key → Nat
  | [], _ => 0
  | p :: r, q => if Op.bytesLess p.1 q = true then atN r q + 1 else 0
def atB (K : List (Key × Chain)) (q : Key) : Bool := (K[atN K q]?.map (·.1)) == some q
theorem atN_le : ∀ (K : List (Key × Chain)) (q : Key), atN K q ≤ K.length
  | [], _ => Nat.le_refl _
  | p :: r, q => by
    unfold atN
    split
    · have := atN_le r q
      simp
      omega
    · simp
theorem atN_step : ∀ (K : List (Key × Chain)) (q : Key) (k : Nat) (h : k < K.length), k ≤ atN K q → (k + 1 ≤ atN K q ↔ Op.bytesLess K[k].1 q = true)
  | [], _, k, h, _ => by simp at h
  | p :: r, q, 0, h, _ => by
    unfold atN
    simp only [List.getElem_cons_zero]
    split
    · rename_i hp
      exact ⟨fun _ => hp, fun _ => by omega⟩
    · rename_i hp
      exact ⟨fun hx => by omega, fun hx => absurd hx hp⟩
  | p :: r, q, k + 1, h, hk => by
    have h2 : k < r.length := by simpa using h
    unfold atN at hk ⊢
    split at hk
    · rename_i hp
      rw [if_pos hp]
      have := atN_step r q k h2 (by omega)
      simp only [List.getElem_cons_succ]
      rw [← this]
      omega
    · omega
theorem atB_some {K : List (Key × Chain)} {q : Key} (h : atB K q = true) : ∃ p, K[atN K q]? = some p ∧ p.1 = q := by
  unfold atB at h
  cases hk : K[atN K q]? with
  | none => rw [hk] at h; simp at h
  | some p => rw [hk] at h; exact ⟨p, rfl, by simpa using h⟩
theorem at_look {K : List (Key × Chain)} (hs : Rising (keysK K)) {q : Key} {p : Key × Chain} (hp : K[atN K q]? = some p) (hq : p.1 = q) : look K q = p.2 := by
  subst hq
  exact look_of_mem hs (List.mem_of_getElem? hp)
theorem atB_cons_lt {p : Key × Chain} {r : List (Key × Chain)} {q : Key} (h : Op.bytesLess p.1 q = true) : atB (p :: r) q = atB r q := by
  unfold atB
  conv => lhs; unfold atN
  rw [if_pos h]
  simp
theorem at_none : ∀ {K : List (Key × Chain)} {q : Key}, Rising (keysK K) → atB K q = false → q ∉ keysK K
  | [], _, _, _ => by simp [keysK]
  | p :: r, q, hs, h => by
    have hs2 : Rising (keysK r) ∧ ∀ k ∈ keysK r, Op.bytesLess p.1 k = true := by
      unfold Rising keysK at hs ⊢
      rw [List.map_cons, List.pairwise_cons] at hs
      exact ⟨hs.2, hs.1⟩
    by_cases hl : Op.bytesLess p.1 q = true
    · rw [atB_cons_lt hl] at h
      have := at_none hs2.1 h
      intro hq
      unfold keysK at hq
      rw [List.map_cons, List.mem_cons] at hq
      rcases hq with rfl | hq
      · rw [kl_irrefl] at hl; cases hl
      · exact this hq
    · have he : atN (p :: r) q = 0 := by unfold atN; rw [if_neg hl]
      unfold atB at h
      rw [he] at h
      have hne : p.1 ≠ q := by simpa using h
      intro hq
      unfold keysK at hq
      rw [List.map_cons, List.mem_cons] at hq
      rcases hq with e | hq
      · exact hne e.symm
      · exact hl (hs2.2 q hq)
/-- A chain put in its place. -/
theorem kput_at : ∀ (K : List (Key × Chain)) (q : Key) (c : Chain), kput K q c = K.take (atN K q) ++ (q, c) :: K.drop (atN K q + if atB K q = true then 1 else 0)
  | [], q, c => by simp [kput, atN, atB]
  | p :: r, q, c => by
    by_cases hl : Op.bytesLess p.1 q = true
    · have hne : p.1 ≠ q := kl_ne hl
      have he : atN (p :: r) q = atN r q + 1 := by conv => lhs; unfold atN
                                                   rw [if_pos hl]
      rw [atB_cons_lt hl, he]
      show (if p.1 = q then (q, c) :: r else if Op.bytesLess p.1 q = true then (p.1, p.2) :: kput r q c else (q, c) :: (p.1, p.2) :: r) = _
      rw [if_neg hne, if_pos hl, kput_at r q c, List.take_succ_cons, List.cons_append]
      congr 2
      rw [show atN r q + 1 + (if atB r q = true then 1 else 0) = (atN r q + if atB r q = true then 1 else 0) + 1 by omega, List.drop_succ_cons]
    · have he : atN (p :: r) q = 0 := by unfold atN; rw [if_neg hl]
      show (if p.1 = q then (q, c) :: r else if Op.bytesLess p.1 q = true then (p.1, p.2) :: kput r q c else (q, c) :: (p.1, p.2) :: r) = _
      rw [he]
      by_cases hq : p.1 = q
      · have hb : atB (p :: r) q = true := by unfold atB; rw [he]; simp [hq]
        rw [if_pos hq, hb, if_pos rfl]
        simp
      · have hb : atB (p :: r) q = false := by unfold atB; rw [he]; simpa using hq
        rw [if_neg hq, if_neg hl, hb, if_neg (by decide)]
        simp
end Go.Proofs.Ytaldfbmjmpkmmaa.PL
namespace Go.Proofs.Ytaldfbmjmpkmmaa.PL
open Go.RowKit Go.Proofs.YtaldfbmjmpkmmaaW.PrintWords Go.Proofs.YtaldfbmjmpkmmaaW.PrintLast Go.Proofs.YtaldfbmjmpkmmaaW.PrintMore
set_option linter.unusedVariables false
set_option linter.unusedSimpArgs false
set_option linter.unusedSectionVars false
/-- An element of a row of keys and chains, cell by cell. -/
theorem kc_at {w : World} {A : Option Addr} {n : Nat} {K : List KC} (h : Kd.C kKC w A n K) (k : Nat) (hk : k < K.length) : ∃ ad A2 c2, A = some ad ∧ w.cell? (ad.add (k * 2)) = some (.string (bs K[k].1)) ∧ w.cell? ⟨(ad.add (k * 2)).block, (ad.add (k * 2)).off + 1, none⟩ = some (.slice A2 K[k].2.length c2) ∧ K[k].2.length ≤ c2 ∧ Kd.C k29 w A2 K[k].2.length K[k].2 := by
  have hn : K.length = n := h.1
  obtain ⟨ad, cs, rfl, hlen, hK, hc0⟩ := Kd.C_get h (([], []) : KC) (k : Int) (by omega) (by omega)
  rw [Int.toNat_natCast] at hK hc0
  have hget : K.getD k (([], []) : KC) = K[k] := by simp [List.getElem?_eq_getElem hk]
  rw [hget] at hK
  obtain ⟨A2, c2, rfl, l, g⟩ := kKC_open hK
  have hc : ∀ j u, [Value.string (bs K[k].1), .slice A2 K[k].2.length c2][j]? = some u → w.cell? (ad.add (k * 2 + j)) = some u := hc0
  exact ⟨ad, A2, c2, rfl, hc 0 _ rfl, by rw [← add_field _ _ 1 (by omega)]; exact hc 1 _ rfl, l, g⟩
/-- An element of a row of records: its number. -/
theorem rec_at {w : World} {A : Option Addr} {n : Nat} {P : List Rec} (h : Kd.C k35 w A n P) (k : Nat) (hk : k < P.length) : ∃ ad A7 c7 A8 c8, A = some ad ∧ w.cell? ⟨(ad.add (k * 9)).block, (ad.add (k * 9)).off + 1, none⟩ = some (.int .i64 P[k].f1) ∧ w.cell? ⟨(ad.add (k * 9)).block, (ad.add (k * 9)).off + 7, none⟩ = some (.slice A7 P[k].f7.length c7) ∧ w.cell? ⟨(ad.add (k * 9)).block, (ad.add (k * 9)).off + 8, none⟩ = some (.slice A8 P[k].f8.length c8) ∧
    P[k].f7.length ≤ c7 ∧ Kd.C Kd.string w A7 P[k].f7.length P[k].f7 ∧ P[k].f8.length ≤ c8 ∧ Kd.C k56 w A8 P[k].f8.length P[k].f8 := by
  have hn : P.length = n := h.1
  obtain ⟨ad, cs, rfl, hlen, hK, hc0⟩ := Kd.C_get h (⟨0, 0, 0, 0, ⟨#[]⟩, ⟨#[]⟩, false, [], []⟩ : Rec) (k : Int) (by omega) (by omega)
  rw [Int.toNat_natCast] at hK hc0
  have hget : P.getD k (⟨0, 0, 0, 0, ⟨#[]⟩, ⟨#[]⟩, false, [], []⟩ : Rec) = P[k] := by simp [List.getElem?_eq_getElem hk]
  rw [hget] at hK
  generalize P[k] = r at *
  obtain ⟨A7, c7, A8, c8, rfl, l7, g7, l8, g8⟩ := k35_open hK
  have hc : ∀ j u, [Value.int .i64 r.f0, .int .i64 r.f1, .int .i64 r.f2, .int .i64 r.f3, .string r.f4, .string r.f5, .bool r.f6, .slice A7 r.f7.length c7, .slice A8 r.f8.length c8][j]? = some u → w.cell? (ad.add (k * 9 + j)) = some u := hc0
  exact ⟨ad, A7, c7, A8, c8, rfl, by rw [← add_field _ _ 1 (by omega)]; exact hc 1 _ rfl, by rw [← add_field _ _ 7 (by omega)]; exact hc 7 _ rfl, by rw [← add_field _ _ 8 (by omega)]; exact hc 8 _ rfl, l7, g7, l8, g8⟩
set_option maxRecDepth 100000 in
set_option maxHeartbeats 4000000 in
theorem rat_walk {w : World} {ok : Nat → Prop} {b : Nat} {s : Sh} (h : RfAt w ok b s) (key : ByteArray) :
    Calls Try.prog 122 #[.pointer (some ⟨b, 0, none⟩), .string key] w fun e w' => e = .returned (.tuple #[.int .i64 (atN s.K (kb key) : Nat), .bool (atB s.K (kb key))]) ∧ Below w.heap.size w w' := by
  obtain ⟨AK, AP, AE, cK, cP, cE, hp⟩ := h
  obtain ⟨c0, -, -, -⟩ := hp.cells
  have HC := Aside0.mk (Kd.F_now hp.fK)
  have hlen := hp.good.keys.few
  have hle := atN_le s.K (kb key)
  have hkl : key.toList = kb key := kb_toList key
  have HST := Aside0.mk (atN_step s.K (kb key))
  have HAB : Aside0 (atB s.K (kb key) = ((s.K[atN s.K (kb key)]?.map (·.1)) == some (kb key))) := ⟨rfl⟩
  clear hp
  generalize atB s.K (kb key) = tb at *
  generalize atN s.K (kb key) = n at *
  go_enter Try.func122, Try.ntmps122
  go_wp2
  go_loopw [6] (fun v wr => ∃ k : Nat, k ≤ n ∧ v = .int .i64 (k : Int) ∧ wr = w) (fun i _ => s.K.length - (intOf i).toNat)
  case atStart => exact ⟨0, Nat.zero_le _, rfl, by first | rfl | trivial⟩
  case round =>
    obtain ⟨k, hk, rfl, rfl⟩ := hrel
    by_cases hlt : k < s.K.length
    · obtain ⟨ad, A2, c2, rfl, x0, -, -, -⟩ := kc_at HC.out k hlt
      have hst := HST.out k hlt hk
      have hbl : (bs s.K[k].1).toList = s.K[k].1 := bs_list _
      cases hb : Op.bytesLess s.K[k].1 (kb key) with
      | true =>
        have hk1 : k + 1 ≤ n := hst.2 hb
        have hv : Op.bytesLess (bs s.K[k].1).toList key.toList = true := by rw [hbl, hkl]; exact hb
        clear hst hbl hkl hb
        generalize bs s.K[k].1 = nm at *
        go_wp2_with fail
        go_roundw
        case rel => exact ⟨k + 1, by omega, by go_num, by first | rfl | trivial⟩
        case measure => simp [intOf]; omega
      | false =>
        have hkn : k = n := by
          rcases Nat.lt_or_ge k n with h1 | h1
          · have := hst.1 (by omega)
            rw [hb] at this
            cases this
          · omega
        subst hkn
        have hv : Op.bytesLess (bs s.K[k].1).toList key.toList = false := by rw [hbl, hkl]; exact hb
        have ht : ((bs s.K[k].1).toList == key.toList) = tb := by
          rw [HAB.out, List.getElem?_eq_getElem hlt, hbl, hkl]
          rfl
        have HT := Aside0.mk ht
        clear hst hbl hkl hb ht
        generalize bs s.K[k].1 = nm at *
        go_wp2_with fail
        go_quiet (fail)
        all_goals (try go_wp2)
        rw [HT.out]
        go_ret2
        exact ⟨rfl, by repeat (first | exact Below.refl _ _ | apply below_drew1 | apply pw_below_drewN)⟩
    · obtain rfl : k = s.K.length := by omega
      obtain rfl : n = s.K.length := by omega
      have ht : tb = false := by
        rw [HAB.out, List.getElem?_eq_none (Nat.le_refl _)]
        rfl
      subst ht
      go_wp2_with fail
      go_quiet (fail)
      all_goals (try go_wp2)
      go_ret2
      exact ⟨rfl, by repeat (first | exact Below.refl _ _ | apply below_drew1 | apply pw_below_drewN)⟩
set_option maxRecDepth 100000 in
set_option maxHeartbeats 4000000 in
theorem rchain_walk {w : World} {ok : Nat → Prop} {b : Nat} {s : Sh} (h : RfAt w ok b s) (key : ByteArray) :
    Calls Try.prog 97 #[.pointer (some ⟨b, 0, none⟩), .string key] w fun e w' => ∃ A c, e = .returned (.slice A (look s.K (kb key)).length c) ∧ (look s.K (kb key)).length ≤ c ∧ Kd.C k29 w' A (look s.K (kb key)).length (look s.K (kb key)) ∧ Below w.heap.size w w' := by
  have HAT := Aside0.mk (rat_walk h key)
  have HS := Aside0.mk h
  generalize hch : look s.K (kb key) = ch
  have HQ := Aside0.mk hch
  clear hch
  go_enter Try.func97, Try.ntmps97
  go_wp2_with fail
  refine HAT.out.mono ?_
  rintro e w1 ⟨rfl, hb1⟩
  obtain ⟨AK, AP, AE, cK, cP, cE, hp⟩ := HS.out.below hb1
  obtain ⟨c0, -, -, -⟩ := hp.cells
  have HC := Aside0.mk (Kd.F_now hp.fK)
  have HB1 := Aside0.mk hb1
  have hlen := hp.good.keys.few
  have hrise := hp.good.keys.rise
  clear hp hb1 HAT HS h
  cases hb : atB s.K (kb key) with
  | true =>
    obtain ⟨p, hpe, hpq⟩ := atB_some hb
    have hn := (List.getElem?_eq_some_iff.1 hpe).1
    have hlk : ch = p.2 := HQ.out.symm.trans (at_look hrise hpe hpq)
    have hpe2 : s.K[atN s.K (kb key)] = p := (List.getElem?_eq_some_iff.1 hpe).2
    obtain ⟨ad, A2, c2, rfl, -, x1, hl2, hC2⟩ := kc_at HC.out (atN s.K (kb key)) hn
    rw [hpe2, ← hlk] at x1 hl2 hC2
    have HC2 := Aside0.mk hC2
    have HL2 := Aside0.mk hl2
    clear hpe hpq hlk hpe2 hC2 hl2 hb hrise
    generalize atN s.K (kb key) = n at *
    go_wp2_with fail
    go_ret
    exact ⟨_, _, rfl, HL2.out, HC2.out, HB1.out⟩
  | false =>
    have hlk : ch = [] := HQ.out.symm.trans (look_none (at_none hrise hb))
    subst hlk
    clear hb hrise HQ
    generalize atN s.K (kb key) = n at *
    go_wp2_with fail
    go_ret
    exact ⟨none, 0, rfl, Nat.le_refl _, Kd.C_nil _ _, HB1.out⟩
set_option maxRecDepth 100000 in
theorem rflast_walk {w : World} {ok : Nat → Prop} {b : Nat} {s : Sh} (h : RfAt w ok b s) (key : ByteArray) :
    Calls Try.prog 121 #[.pointer (some ⟨b, 0, none⟩), .string key] w fun e w' => e = .returned (.int .i64 (lastV (look s.K (kb key)))) ∧ Below w.heap.size w w' := by
  have HCH := Aside0.mk (rchain_walk h key)
  have HCO : Aside0 (ChainOk (look s.K (kb key))) := ⟨by obtain ⟨AK, AP, AE, cK, cP, cE, hp⟩ := h; exact hp.good.keys.look _⟩
  clear h
  generalize look s.K (kb key) = ch at *
  go_enter Try.func121, Try.ntmps121
  go_wp2_with fail
  refine HCH.out.mono ?_
  rintro e w1 ⟨A, c, rfl, hl, hC, hb1⟩
  have HL := Aside0.mk (corncribref11_Last.calls 4000 A c ch _ _ w1 hC hl (rlast_f HCO.out))
  have HB1 := Aside0.mk hb1
  clear hl hC hb1 HCH
  go_wp2_with fail
  refine HL.out.mono ?_
  rintro e w2 ⟨rfl, hd⟩
  have HB2 : Aside0 (Below w.heap.size w w2) := ⟨HB1.out.trans (hd.below.mono HB1.out.size)⟩
  clear hd
  go_wp2_with fail
  go_ret
  exact ⟨rfl, HB2.out⟩
set_option maxRecDepth 100000 in
set_option maxHeartbeats 4000000 in
theorem rprep_walk {w : World} {ok : Nat → Prop} {b : Nat} {s : Sh} (h : RfAt w ok b s) (t : Int) :
    Calls Try.prog 98 #[.pointer (some ⟨b, 0, none⟩), .int .i64 t] w fun e w' => ∃ i : Int, e = .returned (.int .i64 i) ∧ ((i = -1 ∧ ∀ r ∈ s.P, r.f1 ≠ t) ∨ ∃ (k : Nat) (hk : k < s.P.length), i = (k : Int) ∧ s.P[k].f1 = t) ∧ Below w.heap.size w w' := by
  obtain ⟨AK, AP, AE, cK, cP, cE, hp⟩ := h
  obtain ⟨-, c1, -, -⟩ := hp.cells
  have HC := Aside0.mk (Kd.F_now hp.fP)
  have hlen := hp.good.few
  clear hp
  go_enter Try.func98, Try.ntmps98
  go_wp2
  go_loopw [5] (fun v wr => ∃ k : Nat, k ≤ s.P.length ∧ v = .int .i64 (k : Int) ∧ Aside0 (∀ (j : Nat) (hj : j < s.P.length), j < k → s.P[j].f1 ≠ t) ∧ wr = w) (fun i _ => s.P.length - (intOf i).toNat)
  case atStart => exact ⟨0, Nat.zero_le _, rfl, ⟨fun j hj hk => absurd hk (by omega)⟩, by first | rfl | trivial⟩
  case round =>
    obtain ⟨k, hk, rfl, HN, rfl⟩ := hrel
    by_cases hlt : k < s.P.length
    · obtain ⟨ad, A7, c7, A8, c8, rfl, x1, -, -, -, -, -, -⟩ := rec_at HC.out k hlt
      by_cases he : s.P[k].f1 = t
      · have HE : Aside0 (∃ (q : Nat) (hq : q < s.P.length), (k : Int) = (q : Int) ∧ s.P[q].f1 = t) := ⟨k, hlt, rfl, he⟩
        have d1 : (s.P[k].f1 == t) = true := by simpa using he
        clear he
        generalize s.P[k].f1 = u at x1 d1
        go_wp2_with fail
        go_ret
        exact ⟨(k : Int), rfl, .inr HE.out, Below.refl _ _⟩
      · have HNN : Aside0 (∀ (j : Nat) (hj : j < s.P.length), j < k + 1 → s.P[j].f1 ≠ t) := ⟨fun j hj hk2 => by
          by_cases hjk : j = k
          · subst hjk; exact he
          · exact HN.out j hj (by omega)⟩
        have d1 : (s.P[k].f1 == t) = false := by simpa using he
        clear he
        generalize s.P[k].f1 = u at x1 d1
        go_wp2_with fail
        go_roundw
        case rel => exact ⟨k + 1, by omega, by go_num, HNN, by first | rfl | trivial⟩
        case measure => simp [intOf]; omega
    · obtain rfl : k = s.P.length := by omega
      go_wp2_with fail
      go_ret
      exact ⟨-1, rfl, .inl ⟨rfl, fun r hr => by
        obtain ⟨j, hj, rfl⟩ := List.getElem_of_mem hr
        exact HN.out j hj hj⟩, Below.refl _ _⟩
end Go.Proofs.Ytaldfbmjmpkmmaa.PL
