/- Texts of this proof, one behind the other (merged by a program of this session). -/
import Derived.Test.YtaldfbmjmpkmmaaGreatM8db0dc
import Derived.Test.YtaldfbmjmpkmmaaGreatHMapL
namespace Go.Proofs.YtaldfbmjmpkmmaaGreat.PL
open Go.RowKit Go.Proofs.YtaldfbmjmpkmmaaGreatW.PrintWords Go.Proofs.YtaldfbmjmpkmmaaGreatW.PrintLast Go.Proofs.YtaldfbmjmpkmmaaGreatW.PrintMore Go.Shelf Go.Maps Go.WideMaps Go.Proofs.YtaldfbmjmpkmmaaGreat.Mk
set_option linter.unusedVariables false
set_option linter.unusedSimpArgs false
set_option linter.unusedSectionVars false
theorem keyedS : Keyed Tryz.prog 9 := string_keyed Tryz.underlying9
theorem keyedI : Keyed Tryz.prog 3 := int_keyed Tryz.underlying3
def sk (k : Key) : Lit := .string k
def ik (t : Int) : Lit := .int .i64 t
theorem key_sk {s : ByteArray} (h : s.size ≤ maxLen) : keyOf Tryz.prog 9 (.string s) = some (sk (kb s)) := key_str Tryz.underlying9 h
theorem key_ik {t : Int} (h : -9223372036854775808 ≤ t ∧ t ≤ 9223372036854775807) : keyOf Tryz.prog 3 (.int .i64 t) = some (ik t) := keyOf_int_mk Tryz.underlying3 (WalkArith.wf_i64 (by omega))
/-- Rows of versions, of texts and of writes that are ok stay as they are. -/
def Still (ok : Nat → Prop) (w w1 : World) : Prop := ∀ g, ok g → ∀ q cells, (q = 43 ∨ q = 9 ∨ q = 57) → w.heap[g]? = some (.cells cells q (0, 0)) → w1.heap[g]? = w.heap[g]?
theorem Still.of_below {ok : Nat → Prop} {w w1 : World} (h : Below w.heap.size w w1) : Still ok w w1 := fun g _ q cells _ hc => h.block g (blk_lt hc)
theorem Still.of_grown {ok : Nat → Prop} {w w1 : World} {b : Nat} (h : w.grownBy w1 (some b)) (hb : ∀ q cells, (q = 43 ∨ q = 9 ∨ q = 57) → w.heap[b]? ≠ some (.cells cells q (0, 0))) : Still ok w w1 := fun g _ q cells hq hc =>
 h.block g (blk_lt hc) (fun e => hb q cells hq (by injection e with e; rw [← e]; exact hc))
theorem Still.trans {ok : Nat → Prop} {w w1 w2 : World} (h : Still ok w w1) (h2 : Still ok w1 w2) : Still ok w w2 := fun g hg q cells hq hc => by
 have e := h g hg q cells hq hc
 exact (h2 g hg q cells hq (e.trans hc)).trans e
section
variable {α : Type} {d : Kd α} {e base : Nat} {ok : Nat → Prop} {w w1 : World} {v : Value} {xs : List α}
theorem R_still (hE : ∀ q, q ∈ e :: d.E → (q = 43 ∨ q = 9 ∨ q = 57)) (h : d.R e w base ok v xs) (hs : Still ok w w1) : d.R e w1 base ok v xs :=
 Kd.R_mono (Kd.R_move (Kd.R_bound h) (fun k hk => by
  obtain ⟨h1, _, _, q, hq, cells, hc⟩ := hk
  exact hs k h1 q cells (hE q hq) hc)) (fun _ hk => hk.1)

end
structure Parts (w : World) (ok : Nat → Prop) (b N : Nat) (s : Sh) (bk bp : Nat) (ve : Value) (fk fp : Lit → Option Value) : Prop where
 box : w.heap[b]? = some (.cells #[.map (some bk), .map (some bp), ve, .int .i64 s.over] 69 (0, 0))
 keys : MapL Tryz.prog 9 w bk N fk
 preps : MapL Tryz.prog 3 w bp N fp
 ends : kEnd.R 76 w 0 ok ve s.E
 kf : ∀ q v, fk q = some v → ∃ k, q = sk k ∧ k ∈ keysK s.K ∧ Kd.R k43 43 w 0 ok v (look s.K k)
 kt : ∀ k, k ∈ keysK s.K → (fk (sk k)).isSome = true
 pf : ∀ q v, fp q = some v → ∃ r, r ∈ s.P ∧ q = ik r.f1 ∧ ∃ cs, v = .agg cs.toArray ∧ k26.M w 0 ok r cs
 pt : ∀ r, r ∈ s.P → (fp (ik r.f1)).isSome = true
 okb : ok b
 okk : ok bk
 okp : ok bp
 ne : bk ≠ bp
 good : ShOk s
/-- A shelf in memory: its blocks are ok. -/
def ShAt (w : World) (ok : Nat → Prop) (b N : Nat) (s : Sh) : Prop := ∃ bk bp ve fk fp, Parts w ok b N s bk bp ve fk fp
/-- Nothing has changed but what is ok. -/
structure Chg0 (ok : Nat → Prop) (w w' : World) : Prop where
 os : w'.os = w.os
 tape : w'.tape = w.tape
 output : w'.output = w.output
 size : w.heap.size ≤ w'.heap.size
 block : ∀ g, g < w.heap.size → ¬ ok g → w'.heap[g]? = w.heap[g]?
/-- .. and of that no row of versions, texts or writes. -/
structure Chg (ok : Nat → Prop) (w w' : World) : Prop extends Chg0 ok w w' where
 still : Still ok w w'
section
variable {ok : Nat → Prop} {w w' w1 : World} {b N : Nat} {s : Sh} {bk bp : Nat} {ve : Value} {fk fp : Lit → Option Value}
theorem Chg0.of_below (h : Below w.heap.size w w') : Chg0 ok w w' := ⟨h.os, h.tape, h.output, h.size, fun g hg _ => h.block g hg⟩
theorem Chg0.of_grown {r : Nat} (h : w.grownBy w' (some r)) (hr : ok r) : Chg0 ok w w' := ⟨h.os, h.tape, h.output, h.size, fun g hg hn => h.block g hg (fun e => hn (by injection e with e; rw [e]; exact hr))⟩
theorem Chg0.trans (h : Chg0 ok w w') (h2 : Chg0 ok w' w1) : Chg0 ok w w1 := ⟨h2.os.trans h.os, h2.tape.trans h.tape, h2.output.trans h.output, Nat.le_trans h.size h2.size, fun g hg hn => (h2.block g (Nat.lt_of_lt_of_le hg h.size) hn).trans (h.block g hg hn)⟩
theorem Chg0.below {w0 : World} {n : Nat} (h : Chg0 ok w w') (hb : Below n w0 w) (hn : n ≤ w.heap.size) (hok : ∀ g, ok g → n ≤ g) : Below n w0 w' :=
 ⟨h.os.trans hb.os, h.tape.trans hb.tape, h.output.trans hb.output, Nat.le_trans hb.size h.size, fun g hg => (h.block g (by omega) (fun h => by have := hok g h; omega)).trans (hb.block g hg)⟩
theorem Chg.of_below (h : Below w.heap.size w w') : Chg ok w w' := ⟨Chg0.of_below h, Still.of_below h⟩
theorem Chg.of_grown {r : Nat} (h : w.grownBy w' (some r)) (hr : ok r) (hb : ∀ q cells, (q = 43 ∨ q = 9 ∨ q = 57) → w.heap[r]? ≠ some (.cells cells q (0, 0))) : Chg ok w w' := ⟨Chg0.of_grown h hr, Still.of_grown h hb⟩
theorem Chg.trans (h : Chg ok w w') (h2 : Chg ok w' w1) : Chg ok w w1 := ⟨h.toChg0.trans h2.toChg0, h.still.trans h2.still⟩
theorem Chg.below {w0 : World} {n : Nat} (h : Chg ok w w') (hb : Below n w0 w) (hn : n ≤ w.heap.size) (hok : ∀ g, ok g → n ≤ g) : Below n w0 w' := h.toChg0.below hb hn hok
theorem other_type {g : Nat} {cs : Array Value} {t : TypeId} (h : w.heap[g]? = some (.cells cs t (0, 0))) (h1 : t ≠ 43) (h2 : t ≠ 9) (h3 : t ≠ 57) : ∀ q cells, (q = 43 ∨ q = 9 ∨ q = 57) → w.heap[g]? ≠ some (.cells cells q (0, 0)) := fun q cells hq hc => by
 rw [h] at hc
 injection hc with hc
 injection hc with _ e _
 rcases hq with rfl | rfl | rfl
 ·exact h1 e
 ·exact h2 e
 ·exact h3 e
theorem Parts.below (h : Parts w ok b N s bk bp ve fk fp) (hb : Below w.heap.size w w') : Parts w' ok b N s bk bp ve fk fp :=
 ⟨blk_below h.box hb, h.keys.below hb, h.preps.below hb, Kd.R_below h.ends hb, fun q v hq => by
  obtain ⟨k, h1, h2, h3⟩ := h.kf q v hq
  exact ⟨k, h1, h2, Kd.R_below h3 hb⟩, h.kt, fun q v hq => by
  obtain ⟨r, h1, h2, cs, h3, h4⟩ := h.pf q v hq
  exact ⟨r, h1, h2, cs, h3, Kd.M_below h4 hb⟩, h.pt, h.okb, h.okk, h.okp, h.ne, h.good⟩
theorem ShAt.below (h : ShAt w ok b N s) (hb : Below w.heap.size w w') : ShAt w' ok b N s := by
 obtain ⟨bk, bp, ve, fk, fp, hp⟩ := h
 exact ⟨bk, bp, ve, fk, fp, hp.below hb⟩
theorem Parts.cells (h : Parts w ok b N s bk bp ve fk fp) : w.cell? ⟨b, 0, none⟩ = some (.map (some bk)) ∧ w.cell? ⟨b, 1, none⟩ = some (.map (some bp)) ∧ w.cell? ⟨b, 2, none⟩ = some ve ∧ w.cell? ⟨b, 3, none⟩ = some (.int .i64 s.over) :=
 ⟨(blk_cell h.box 0).trans rfl, (blk_cell h.box 1).trans rfl, (blk_cell h.box 2).trans rfl, (blk_cell h.box 3).trans rfl⟩
theorem zeroC (w : World) : (zeroValue 74).run Tryz.prog w = .ok (.slice none 0 0) w := by kernel_rfl
theorem zeroR (w : World) : (zeroValue 26).run Tryz.prog w = .ok (.agg #[.int .i64 0, .int .i64 0, .int .i64 0, .int .i64 0, .string ⟨#[]⟩, .string ⟨#[]⟩, .bool false, .slice none 0 0, .slice none 0 0]) w := by kernel_rfl
/-- A key's chain, as a look-up gives it. -/
theorem Parts.chain (h : Parts w ok b N s bk bp ve fk fp) (k : Key) : ∃ A c, (fk (sk k)).getD (.slice none 0 0) = .slice A (look s.K k).length c ∧ (look s.K k).length ≤ c ∧ Kd.C k43 w A (look s.K k).length (look s.K k) := by
 cases hf : fk (sk k) with
 | none =>
  have hk : k ∉ keysK s.K := fun hk => by
   have := h.kt k hk
   rw [hf] at this
   cases this
  rw [look_none hk]
  exact ⟨none, 0, rfl, Nat.le_refl _, Kd.C_nil _ _⟩
 | some v =>
  obtain ⟨k', h1, h2, h3⟩ := h.kf _ v hf
  have : k = k' := by
   unfold sk at h1
   injection h1
  subst this
  obtain ⟨A, c, e, hl, hc⟩ := Kd.R_reads h3
  exact ⟨A, c, e, hl, hc⟩
theorem Parts.chain_some (h : Parts w ok b N s bk bp ve fk fp) (k : Key) : (fk (sk k)).isSome = !(look s.K k).isEmpty := by
 cases hf : fk (sk k) with
 | none =>
  have hk : k ∉ keysK s.K := fun hk => by
   have := h.kt k hk
   rw [hf] at this
   cases this
  rw [look_none hk]
  rfl
 | some v =>
  obtain ⟨k', h1, h2, h3⟩ := h.kf _ v hf
  have : k = k' := by
   unfold sk at h1
   injection h1
  subst this
  have hne : look s.K k ≠ [] := fun e => (h.good.keys.iff k).1 e h2
  have : (look s.K k).isEmpty = false := by simpa using hne
  rw [this]
  rfl
theorem Parts.keys_iff (h : Parts w ok b N s bk bp ve fk fp) (q : Lit) : (fk q).isSome = true ↔ q ∈ (keysK s.K).map sk := by
 constructor
 ·intro hq
  obtain ⟨v, hv⟩ := Option.isSome_iff_exists.1 hq
  obtain ⟨k, rfl, hk, _⟩ := h.kf q v hv
  exact List.mem_map.2 ⟨k, hk, rfl⟩
 ·intro hq
  obtain ⟨k, hk, rfl⟩ := List.mem_map.1 hq
  exact h.kt k hk
theorem Parts.keys_nodup (h : Parts w ok b N s bk bp ve fk fp) : ((keysK s.K).map sk).Nodup :=
 List.pairwise_map.2 (h.good.keys.rise.imp (fun {a b} hab (e : Lit.string a = Lit.string b) => kl_ne hab (Lit.string.inj e)))
theorem Parts.preps_iff (h : Parts w ok b N s bk bp ve fk fp) (q : Lit) : (fp q).isSome = true ↔ q ∈ s.P.map (fun r => ik r.f1) := by
 constructor
 ·intro hq
  obtain ⟨v, hv⟩ := Option.isSome_iff_exists.1 hq
  obtain ⟨r, hr, rfl, _⟩ := h.pf q v hv
  exact List.mem_map.2 ⟨r, hr, rfl⟩
 ·intro hq
  obtain ⟨r, hr, rfl⟩ := List.mem_map.1 hq
  exact h.pt r hr
theorem Parts.preps_nodup (h : Parts w ok b N s bk bp ve fk fp) : (s.P.map (fun r => ik r.f1)).Nodup :=
 List.pairwise_map.2 (h.good.rise.imp (fun {a b} (hab : a.f1 < b.f1) (e : Lit.int .i64 a.f1 = Lit.int .i64 b.f1) => by injection e with _ e; omega))
theorem Parts.prep_some (h : Parts w ok b N s bk bp ve fk fp) (t : Int) : (fp (ik t)).isSome = s.P.any (fun r => decide (r.f1 = t)) := by
 rw [Bool.eq_iff_iff, h.preps_iff, List.mem_map, List.any_eq_true]
 constructor
 ·rintro ⟨r, hr, e⟩
  exact ⟨r, hr, decide_eq_true (by unfold ik at e; injection e)⟩
 ·rintro ⟨r, hr, e⟩
  exact ⟨r, hr, by rw [of_decide_eq_true e]⟩
end
end Go.Proofs.YtaldfbmjmpkmmaaGreat.PL
namespace Go.Proofs.YtaldfbmjmpkmmaaGreat.PL
open Go.RowKit Go.Proofs.YtaldfbmjmpkmmaaGreatW.PrintWords Go.Proofs.YtaldfbmjmpkmmaaGreatW.PrintLast Go.Proofs.YtaldfbmjmpkmmaaGreatW.PrintMore Go.Shelf Go.Maps Go.WideMaps Go.Proofs.YtaldfbmjmpkmmaaGreat.Mk
set_option linter.unusedVariables false
set_option linter.unusedSimpArgs false
set_option linter.unusedSectionVars false
theorem kb_beq (a b : ByteArray) : (a.toList == b.toList) = (kb a == kb b) := by rw [kb_toList, kb_toList]
set_option maxRecDepth 100000 in
theorem lastS_walk {w : World} {ok : Nat → Prop} {b N : Nat} {s : Sh} (h : ShAt w ok b N s) (k : ByteArray) (hk : k.size ≤ maxLen) :
 Calls Tryz.prog 58 #[.pointer (some ⟨b, 0, none⟩), .string k] w fun e w' => e = .returned (.int .i64 (lastV (look s.K (kb k)))) ∧ Below w.heap.size w w' := by
 obtain ⟨bk, bp, ve, fk, fp, hp⟩ := h
 obtain ⟨A, c, hv, hl, hC⟩ := hp.chain (kb k)
 obtain ⟨c0, c1, c2, c3⟩ := hp.cells
 have HL := Aside0.mk (last_walk w A c (look s.K (kb k)) hC hl (hp.good.keys.look _))
 have HV := Aside0.mk hv
 have HK := Aside0.mk hp.keys
 have HS := Aside0.mk hk
 clear hp hv hC
 generalize lastV (look s.K (kb k)) = r at *
 generalize (look s.K (kb k)) = l at *
 go_enter Tryz.func58, Tryz.ntmps58
 go_wp2_with (at_lookup; refine MapL.at_ HK.out keyedS rfl _ _ 65 74 rfl Tryz.underlying65 (zeroC _) rfl rfl (key_sk HS.out) ?_; rw [HV.out])
 refine HL.out.mono ?_
 rintro e w1 ⟨rfl, hb⟩
 have HB := Aside0.mk hb
 clear hb
 go_wp2_with fail
 go_ret
 exact ⟨rfl, HB.out⟩
set_option maxRecDepth 100000 in
theorem writes1_walk (W : World) (bx : Nat) (key : ByteArray) (hx : W.cell? ⟨bx, 0, none⟩ = some (.string key)) (x : Wr) :
 Calls Tryz.prog 114 (#[.agg #[.string x.f0, .string x.f1, .bool x.f2]] ++ #[.pointer (some ⟨bx, 0, none⟩)]) W fun e W' => e = .returned (.bool (kb x.f0 == kb key)) ∧ Below W.heap.size W W' := by
 rw [← kb_beq]
 have hlt := World.block_lt_of_cell? W _ hx
 have hne : bx ≠ W.heap.size := by simp only at hlt; omega
 show Calls Tryz.prog 114 #[.agg #[.string x.f0, .string x.f1, .bool x.f2], .pointer (some ⟨bx, 0, none⟩)] W _
 obtain ⟨a, s, d⟩ := x
 simp only
 have hx2 : (W.alloc (.cells #[.string a, .string s, .bool d] 57)).cell? ⟨bx, 0, none⟩ = some (.string key) := pw_cell_below (below_alloc (Below.refl _ W) _) hx
 go_enter Tryz.func114, Tryz.ntmps114
 go_wp2
 go_ret
 exact ⟨rfl, below_alloc (Below.refl _ W) _⟩
theorem contains_enough {α : Type} {w : World} {g : Nat} {cap : Array Value} {enc : α → Value} {xs : List α} {p : α → Bool} (h : ∀ W : World, Below w.heap.size w W → ∀ x, Calls Tryz.prog g (#[enc x] ++ cap) W fun e W' => e = .returned (.bool (p x)) ∧ Below W.heap.size W W') : TellsG w g cap enc xs p := fun W hW x _ => h W hW x
set_option maxRecDepth 100000 in
/-- shelf.writes. -/
theorem writes_walk (w : World) (r : Rec) (cs : List Value) (hr : k26.K w r cs) (key : ByteArray) :
 Calls Tryz.prog 85 #[.agg cs.toArray, .string key] w fun e w' => e = .returned (.bool (wrote r (kb key))) ∧ Below w.heap.size w w' := by
 obtain ⟨A7, c7, A8, c8, rfl, h1, h2, h3, h4⟩ := k26_open hr
 obtain ⟨w2, hw2⟩ : ∃ w2, w2 = (w.alloc (.cells #[.int .i64 r.f0, .int .i64 r.f1, .int .i64 r.f2, .int .i64 r.f3, .string r.f4, .string r.f5, .bool r.f6, .slice A7 r.f7.length c7, .slice A8 r.f8.length c8] 26)).alloc (.cells #[.string key] 9) := ⟨_, rfl⟩
 have hB : Below w.heap.size w w2 := by rw [hw2]; exact below_alloc (below_alloc (Below.refl _ w) _) _
 have b1 : w2.heap[w.heap.size + 1]? = some (.cells #[.string key] 9 (0, 0)) := by
  rw [hw2]
  have := blk_new (w.alloc (.cells #[.int .i64 r.f0, .int .i64 r.f1, .int .i64 r.f2, .int .i64 r.f3, .string r.f4, .string r.f5, .bool r.f6, .slice A7 r.f7.length c7, .slice A8 r.f8.length c8] 26)) (.cells #[.string key] 9)
  simpa using this
 have hcon := contains_wrW w2 A8 c8 r.f8 (.pointer (some ⟨w.heap.size + 1, 0, none⟩)) (fun x => kb x.f0 == kb key) (Kd.C_below h4 hB) (contains_enough fun W hW x => writes1_walk W _ key (by rw [blk_cell (blk_below b1 hW) 0]; rfl) x)
 have HC := Aside0.mk hcon
 have HW := Aside0.mk hw2
 have HB := Aside0.mk hB
 have HV : Aside0 (wrote r (kb key) = r.f8.any fun x => kb x.f0 == kb key) := ⟨rfl⟩
 clear hcon hw2 hB b1 h1 h2 h3 h4 hr
 generalize wrote r (kb key) = q at *
 rw [← HV.out] at HC
 go_enter Tryz.func85, Tryz.ntmps85
 go_wp2_with fail
 rw [← HW.out]
 refine HC.out.mono ?_
 rintro e w1 ⟨rfl, hb⟩
 have HB1 : Aside0 (Below w.heap.size w w1) := ⟨HB.out.trans (hb.mono HB.out.size)⟩
 clear hb
 go_wp2_with fail
 go_ret
 exact ⟨rfl, HB1.out⟩
end Go.Proofs.YtaldfbmjmpkmmaaGreat.PL
namespace Go.Proofs.YtaldfbmjmpkmmaaGreat.PL
open Go.RowKit Go.Proofs.YtaldfbmjmpkmmaaGreatW.PrintWords Go.Proofs.YtaldfbmjmpkmmaaGreatW.PrintLast Go.Proofs.YtaldfbmjmpkmmaaGreatW.PrintMore Go.Shelf Go.Maps Go.WideMaps Go.Proofs.YtaldfbmjmpkmmaaGreat.Mk
set_option linter.unusedVariables false
set_option linter.unusedSimpArgs false
set_option linter.unusedSectionVars false
set_option maxRecDepth 100000 in
set_option maxHeartbeats 2000000 in
theorem indexS_walk (w : World) (A : Option Addr) (c : Nat) (xs : List ByteArray) (v : ByteArray) (hr : Kd.C Kd.string w A xs.length xs) :
 Calls Tryz.prog 115 #[.slice A xs.length c, .string v] w fun e w' => e = .returned (.int .i64 (firstG (fun x => kb v == kb x) xs 0)) ∧ Below w.heap.size w w' := by
 have HR := Aside0.mk hr
 have hmax := Kd.C_max hr
 clear hr
 obtain ⟨p, hp⟩ : ∃ p, p = (fun x => kb v == kb x) := ⟨_, rfl⟩
 rw [← hp]
 have HP := Aside0.mk hp
 clear hp
 go_enter Tryz.func115, Tryz.ntmps115
 go_wp2
 go_loopw [8] (fun i wr => ∃ k : Nat, k ≤ xs.length ∧ i = .int .i64 k ∧ Aside0 (firstG p xs 0 = firstG p (xs.drop k) k) ∧ Aside0 (Below w.heap.size w wr))
  (fun i _ => xs.length - (intOf i).toNat)
 case atStart => exact ⟨0, Nat.zero_le _, rfl, ⟨rfl⟩, ⟨Below.refl _ _⟩⟩
 case round =>
  obtain ⟨k, hk, rfl, HF, HB⟩ := hrel
  by_cases hlt : k < xs.length
  ·obtain ⟨ad, cs, rfl, hlen, hK, hc0⟩ := Kd.C_get (Kd.C_below HR.out HB.out) (⟨#[]⟩ : ByteArray) (k : Int) (by omega) (by omega)
   rw [Int.toNat_natCast] at hK hc0
   have hc : ∀ j u, cs[j]? = some u → wr.cell? (ad.add (k * 1 + j)) = some u := hc0
   obtain rfl := strK_open hK
   have hc0' : wr.cell? (ad.add k) = some (.string (xs.getD k (⟨#[]⟩ : ByteArray))) := by have := hc 0 _ rfl; simpa using this
   have hdrop : xs.drop k = xs.getD k (⟨#[]⟩ : ByteArray) :: xs.drop (k + 1) := by
    rw [List.drop_eq_getElem_cons hlt]; simp [List.getElem?_eq_getElem hlt]
   have HF2 := HF.out
   rw [hdrop] at HF2
   generalize hx : xs.getD k (⟨#[]⟩ : ByteArray) = x at *
   have HF3 := Aside0.mk HF2
   have hpx : (v.toList == x.toList) = p x := by rw [kb_beq, HP.out]
   clear hdrop hx HF2 HF hK hc0 hc hlen
   cases hq : p x with
   | true =>
    have HV : Aside0 (firstG p xs 0 = (k : Int)) := ⟨by rw [HF3.out]; unfold firstG; rw [hq]; rfl⟩
    rw [hq] at hpx
    clear hq
    go_wp2_with fail
    go_ret
    exact ⟨by rw [HV.out]; rfl, HB.out⟩
   | false =>
    have HV : Aside0 (firstG p xs 0 = firstG p (xs.drop (k + 1)) ((k + 1 : Nat) : Int)) := ⟨by
     rw [HF3.out]
     show (if p x = true then (k : Int) else firstG p (xs.drop (k + 1)) ((k : Int) + 1)) = _
     rw [hq]; simp⟩
    rw [hq] at hpx
    clear hq
    go_wp2_with fail
    go_roundw
    case rel => exact ⟨k + 1, by omega, by go_num, HV, HB⟩
    case measure => simp [intOf]; omega
  ·obtain rfl : k = xs.length := by omega
   have HV : Aside0 (firstG p xs 0 = -1) := ⟨by rw [HF.out, List.drop_of_length_le (Nat.le_refl _)]; rfl⟩
   go_wp2
   go_ret
   exact ⟨by rw [HV.out]; rfl, HB.out⟩
set_option maxRecDepth 100000 in
theorem containsS_walk (w : World) (A : Option Addr) (c : Nat) (xs : List ByteArray) (v : ByteArray) (hr : Kd.C Kd.string w A xs.length xs) :
 Calls Tryz.prog 86 #[.slice A xs.length c, .string v] w fun e w' => e = .returned (.bool (xs.any fun x => kb x == kb v)) ∧ Below w.heap.size w w' := by
 have hc := indexS_walk w A c xs v hr
 have hge := firstG_ge (fun x => kb v == kb x) xs 0 (by omega)
 have hval : decide (firstG (fun x => kb v == kb x) xs 0 ≥ 0) = xs.any fun x => kb x == kb v := by
  rw [show (fun x => kb x == kb v) = (fun x => kb v == kb x) from funext fun x => BEq.comm]
  rw [Bool.eq_iff_iff, decide_eq_true_iff]
  exact hge
 generalize firstG (fun x => kb v == kb x) xs 0 = n at hc hval
 have HC := Aside0.mk hc
 have HV := Aside0.mk hval
 clear hc hge hval hr
 generalize (xs.any fun x => kb x == kb v) = q at *
 go_enter Tryz.func86, Tryz.ntmps86
 go_wp2_with fail
 refine HC.out.mono ?_
 rintro e w1 ⟨rfl, hb1⟩
 have HB := Aside0.mk hb1
 clear hb1
 go_wp2_with fail
 go_ret
 exact ⟨by rw [← HV.out]; rfl, HB.out⟩
theorem sameKey_ik (a b : Int) : (ik a).sameKey (ik b) = decide (a = b) := by
 unfold ik
 by_cases e : a = b
 ·subst e
  simp [Lit.sameKey]
 ·rw [sameKey_ne (fun h => e (by injection h))]
  simp [e]
theorem prep_one {P : List Rec} (h : P.Pairwise (fun a b => a.f1 < b.f1)) {a b : Rec} (ha : a ∈ P) (hb : b ∈ P) (e : a.f1 = b.f1) : a = b := by
 induction P with
 | nil => simp at ha
 | cons x r ih =>
  obtain ⟨h1, h2⟩ := List.pairwise_cons.1 h
  rcases List.mem_cons.1 ha with ea | ha'
  ·rcases List.mem_cons.1 hb with eb | hb'
   ·rw [ea, eb]
   ·have := h1 b hb'
    rw [ea] at e
    omega
  ·rcases List.mem_cons.1 hb with eb | hb'
   ·have := h1 a ha'
    rw [eb] at e
    omega
   ·exact ih h2 ha' hb'
set_option maxRecDepth 100000 in
set_option maxHeartbeats 4000000 in
/-- Held. -/
theorem held_walk {w : World} {ok : Nat → Prop} {b N : Nat} {s : Sh} (h : ShAt w ok b N s) (key : ByteArray) (wt : Bool) :
 Calls Tryz.prog 40 #[.pointer (some ⟨b, 0, none⟩), .string key, .bool wt] w fun e w' => e = .returned (.bool (heldV s (kb key) wt)) ∧ Below w.heap.size w w' := by
 obtain ⟨bk, bp, ve, fk, fp, hp⟩ := h
 obtain ⟨c0, c1, c2, c3⟩ := hp.cells
 have HP := Aside0.mk hp
 clear hp
 go_enter Tryz.func40, Tryz.ntmps40
 go_wp2_with (at_range; refine MapL.range HP.out.preps keyedI rfl _ 66 26 rfl Tryz.underlying66 rfl ?_; intro w1 cnt0 hrg0 hb0 hsz0)
 go_frame
 have HRG0 := Aside0.mk hrg0
 have HB0 := Aside0.mk hb0
 clear hrg0 hb0 hsz0
 go_loopw [8] (fun _ wz => ∃ left cnt, Aside0 (RangeL Tryz.prog 3 wz bp w.heap.size N fp left cnt) ∧ Aside0 (∀ r, r ∈ s.P → left (ik r.f1) = false → heldR r (kb key) wt = false) ∧ Aside0 (Below w.heap.size w wz))
  (fun _ wz => wz.rangeLeft bp w.heap.size)
 case atStart => exact ⟨_, _, HRG0, ⟨fun r hr hl => by rw [HP.out.pt r hr] at hl; cases hl⟩, HB0⟩
 case round =>
  clear HRG0 HB0
  obtain ⟨left, cnt, HRG, HD, HB⟩ := hrel
  go_wp2_with (at_next; refine RangeL.next HRG.out keyedI rfl _ rfl rfl ?_ ?_)
  ·intro _ hl0
   have hv : Aside0 (heldV s (kb key) wt = false) := ⟨by
    unfold heldV
    rw [List.any_eq_false]
    intro r hr
    rw [HD.out r hr (hl0 _)]
    simp⟩
   clear hl0
   go_wp2
   go_ret
   exact ⟨by rw [hv.out]; rfl, HB.out⟩
  ·intro k q v w2 cnt2 hkey hlq hfv hrg2 hlt hg2 hs2 hen
   have HB2 : Aside0 (Below w.heap.size w w2) := ⟨⟨hg2.os.trans HB.out.os, hg2.tape.trans HB.out.tape, hg2.output.trans HB.out.output, Nat.le_trans HB.out.size hg2.size, fun i hi => (hg2.block i (Nat.lt_of_lt_of_le hi HB.out.size) (fun e => by injection e with e; omega)).trans (HB.out.block i hi)⟩⟩
   obtain ⟨r, hr, hq, cs, hv, hM⟩ := (HP.out.below HB2.out).pf q v hfv
   have hK := k26.K_of_M hM
   obtain ⟨A7, c7, A8, c8, hcs, h1, h2, h3, h4⟩ := k26_open hK
   subst hcs
   subst hv
   subst hq
   have HRG2 := Aside0.mk hrg2
   have HLT := Aside0.mk hlt
   have HRR := Aside0.mk hr
   have HKR := Aside0.mk hK
   have HC7 := Aside0.mk h2
   have HLE := Aside0.mk HRG.out.left_eq
   clear hkey hlq hfv hrg2 hlt hg2 hs2 hM hK h1 h2 h3 h4 hr
   have HLN : Aside0 (∀ r', r' ∈ s.P → (left (ik r'.f1) && !(ik r'.f1).sameKey (ik r.f1)) = false → heldR r (kb key) wt = false → heldR r' (kb key) wt = false) := ⟨fun r' hr' hl hf => by
    cases hl2 : left (ik r'.f1) with
    | false => exact HD.out r' hr' hl2
    | true =>
     rw [hl2, sameKey_ik] at hl
     have : r'.f1 = r.f1 := by simpa using hl
     rw [prep_one HP.out.good.rise hr' HRR.out this]
     exact hf⟩
   have HYES : Aside0 (heldR r (kb key) wt = true → heldV s (kb key) wt = true) := ⟨fun hf => List.any_eq_true.2 ⟨r, HRR.out, hf⟩⟩
   have HHR : Aside0 (heldR r (kb key) wt = (wrote r (kb key) || (wt && watches r (kb key)))) := ⟨rfl⟩
   have HWT : Aside0 (watches r (kb key) = r.f7.any fun q => kb q == kb key) := ⟨rfl⟩
   have hbx := blk_new w2 (.cells #[.int .i64 r.f0, .int .i64 r.f1, .int .i64 r.f2, .int .i64 r.f3, .string r.f4, .string r.f5, .bool r.f6, .slice A7 r.f7.length c7, .slice A8 r.f8.length c8] 26)
   have hbb := below_alloc (Below.refl _ w2) (.cells #[.int .i64 r.f0, .int .i64 r.f1, .int .i64 r.f2, .int .i64 r.f3, .string r.f4, .string r.f5, .bool r.f6, .slice A7 r.f7.length c7, .slice A8 r.f8.length c8] 26)
   have HWW := Aside0.mk (writes_walk _ r _ (k26.K_below hbb HKR.out) key)
   have HBX := Aside0.mk hbx
   have HBB := Aside0.mk hbb
   clear hbx hbb
   generalize wrote r (kb key) = b1 at *
   generalize heldR r (kb key) wt = hR at *
   go_wp2_with fail
   refine HWW.out.mono ?_
   rintro e w4 ⟨rfl, hb4⟩
   have HB24 : Aside0 (Below w2.heap.size w2 w4) := ⟨HBB.out.trans (hb4.mono HBB.out.size)⟩
   have HB4 : Aside0 (Below w.heap.size w w4) := ⟨HB2.out.trans (HB24.out.mono HB2.out.size)⟩
   have HR4 := Aside0.mk (HRG2.out.below HB24.out)
   have BX4 := Aside0.mk (blk_below HBX.out hb4)
   have HC4 := Aside0.mk (k26_open (k26.K_below HB24.out HKR.out))
   clear hb4 HWW HBX HBB HRG2 HB24
   have y7 := blk_cell BX4.out 7
   cases b1 with
   | true =>
    have HV : Aside0 (heldV s (kb key) wt = true) := ⟨HYES.out (by rw [HHR.out]; rfl)⟩
    go_wp2_with fail
    go_ret
    exact ⟨by rw [HV.out]; rfl, HB4.out⟩
   | false =>
    cases wt with
    | false =>
     have HF : Aside0 (hR = false) := ⟨by rw [HHR.out]; rfl⟩
     go_wp2_with fail
     go_roundw
     case rel => exact ⟨_, _, HR4, ⟨fun r' h1 h2 => HLN.out r' h1 h2 HF.out⟩, HB4⟩
     case measure => rw [HR4.out.left_eq, HLE.out]; exact HLT.out
    | true =>
     have hc7 : Aside0 (∃ A c, (Value.slice A7 r.f7.length c7 = .slice A r.f7.length c) ∧ r.f7.length ≤ c ∧ Kd.string.C w4 A r.f7.length r.f7) := ⟨by
      obtain ⟨B7, d7, B8, d8, e, q1, q2, q3, q4⟩ := HC4.out
      injection e with _ e
      injection e with _ e
      injection e with _ e
      injection e with _ e
      injection e with _ e
      injection e with _ e
      injection e with _ e
      injection e with e7 e
      exact ⟨B7, d7, e7, q1, q2⟩⟩
     obtain ⟨B7, d7, e7, q1, q2⟩ := hc7.out
     injection e7 with e71 e72 e73
     subst e71 e73
     have HCS := Aside0.mk (containsS_walk w4 A7 c7 r.f7 key q2)
     rw [← HWT.out] at HCS
     clear q1 q2
     go_wp2_with fail
     refine HCS.out.mono ?_
     rintro e w5 ⟨rfl, hb5⟩
     have HB5 : Aside0 (Below w.heap.size w w5) := ⟨HB4.out.trans (hb5.mono HB4.out.size)⟩
     have HR5 := Aside0.mk (HR4.out.below hb5)
     clear hb5
     generalize watches r (kb key) = b2 at *
     cases b2 with
     | true =>
      have HV : Aside0 (heldV s (kb key) true = true) := ⟨HYES.out (by rw [HHR.out]; rfl)⟩
      go_wp2_with fail
      go_ret
      exact ⟨by rw [HV.out]; rfl, HB5.out⟩
     | false =>
      have HF : Aside0 (hR = false) := ⟨by rw [HHR.out]; rfl⟩
      go_wp2_with fail
      go_roundw
      case rel => exact ⟨_, _, HR5, ⟨fun r' h1 h2 => HLN.out r' h1 h2 HF.out⟩, HB5⟩
      case measure => rw [HR5.out.left_eq, HLE.out]; exact HLT.out
end Go.Proofs.YtaldfbmjmpkmmaaGreat.PL
