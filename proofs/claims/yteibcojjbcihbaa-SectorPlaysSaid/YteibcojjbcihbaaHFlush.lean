/- A device: Flush. -/
import Derived.Test.YteibcojjbcihbaaHDev3
namespace Go.Proofs.Yteibcojjbcihbaa.Sec
open Go.RowKit Go.Proofs.YteibcojjbcihbaaW.PrintWords Go.Proofs.YteibcojjbcihbaaW.PrintLast Go.Proofs.YteibcojjbcihbaaW.PrintMore Go.Maps Go.WideMaps Go.Proofs.Yteibcojjbcihbaa.Mk
open Go.Proofs.Yteibcojjbcihbaa.Txn (unguard blk_newI)
set_option linter.unusedVariables false
set_option linter.unusedSimpArgs false
theorem sameKey_int (i x : Int) : (Lit.int .i64 i).sameKey (.int .i64 x) = decide (i = x) := by
  by_cases e : i = x
  · subst e
    simp [Lit.sameKey]
  · rw [sameKey_ne (fun h => e (by injection h))]
    simp [e]
/-- The step of a range over a cache. -/
theorem next_cache (w : World) {ops : Array Oper} {rest : List Oper} {o : Oper} {a : Act} {Q : Exit → Act → World → Prop} (hg : o.guard = none) (it : Operand) (hop : o.op = Op.next it false)
    (b r n : Nat) (D : DataW Value) (left : Lit → Bool) (cnt : Nat) (hit : a.eval it = .pointer (some ⟨r, 0, none⟩)) (h : w.ranges Try.prog 3 Sv b r n D left cnt)
    (hDone : cnt = 0 → (∀ kl, left kl = false) → wpList Try.prog ops Q rest (a.put o.dst (.tuple #[.bool false])) w)
    (hMore : ∀ (x : Int) (s : ByteArray) (w' : World) (cnt' : Nat), left (.int .i64 x) = true → Maps.has D (.int .i64 x) = true → (∀ zd, D.atKey (.int .i64 x) zd = .held (.string s)) → w'.ranges Try.prog 3 Sv b r n D (fun z => left z && !z.sameKey (.int .i64 x)) cnt' → cnt' < cnt →
      w.grownBy w' (some r) → w'.heap.size = w.heap.size → (Instr.entry (.pointer (some ⟨r, 0, none⟩))).run Try.prog w' = .ok (.tuple #[.int .i64 x, .string s]) w' → wpList Try.prog ops Q rest (a.put o.dst (.tuple #[.bool true, .int .i64 x, .string s])) w') :
    wpList Try.prog ops Q (o :: rest) a w :=
  wpList_next_ranges w hg it hop 3 keyed3 Sv (fun x : Int => Value.int .i64 x) Value.string (fun key kl hkey => by obtain ⟨x, rfl, _⟩ := Maps.keyOf_int_inv Try.underlying3 hkey; exact ⟨x, rfl⟩) (fun v y hv => by obtain ⟨s, rfl, _⟩ := Sv_inv hv; exact ⟨s, rfl⟩)
    b r n D left cnt hit h hDone (fun x s kl y w' cnt' hkey hlk hv hat hrg hlt hgr hsz hen => by
      obtain ⟨x', ex, rfl, hwx⟩ := Maps.keyOf_int_inv Try.underlying3 hkey
      cases ex
      obtain ⟨s', es, rfl⟩ := Sv_inv hv
      cases es
      exact hMore x s w' cnt' hlk (has_true_of_atKey hat) hat hrg hlt hgr hsz hen)
def flushed (S : List (List UInt8)) (f : Cache) : List (List UInt8) := S.mapIdx (fun i s => match f (i : Int) with | some t => t.data.toList | none => s)
/-- Sectors of which those that are not left have come over. -/
structure Part (S : List (List UInt8)) (f : Cache) (left : Lit → Bool) (S' : List (List UInt8)) : Prop where
  len : S'.length = S.length
  at_ : ∀ i (h : i < S.length), S'[i]? = some (if left (.int .i64 (i : Int)) = true then S[i] else match f (i : Int) with | some t => t.data.toList | none => S[i])
theorem Part.start (S : List (List UInt8)) (f : Cache) (left : Lit → Bool) (h : ∀ i : Int, left (.int .i64 i) = (f i).isSome) : Part S f left S :=
  ⟨rfl, fun i hi => by
    rw [List.getElem?_eq_getElem hi, h]
    cases f (i : Int) <;> simp⟩
theorem Part.done {S : List (List UInt8)} {f : Cache} {left : Lit → Bool} {S' : List (List UInt8)} (h : Part S f left S') (hl : ∀ kl, left kl = false) : S' = flushed S f := by
  apply List.ext_getElem?
  intro i
  unfold flushed
  by_cases hi : i < S.length
  · rw [h.at_ i hi, hl, List.getElem?_mapIdx, List.getElem?_eq_getElem hi]
    rfl
  · rw [List.getElem?_eq_none (by rw [h.len]; omega), List.getElem?_eq_none (by rw [List.length_mapIdx]; omega)]
theorem Part.step {S : List (List UInt8)} {f : Cache} {left : Lit → Bool} {S' : List (List UInt8)} (h : Part S f left S') (x : Nat) (hx : x < S.length) (t : ByteArray) (hf : f (x : Int) = some t) : Part S f (fun z => left z && !z.sameKey (.int .i64 (x : Int))) (S'.set x t.data.toList) := by
  refine ⟨by rw [List.length_set, h.len], fun i hi => ?_⟩
  rw [List.getElem?_set, sameKey_int]
  by_cases e : x = i
  · subst e
    rw [if_pos rfl, if_pos (by rw [h.len]; exact hi), hf]
    simp
  · rw [if_neg e, h.at_ i hi]
    have : decide ((i : Int) = (x : Int)) = false := by simp; omega
    rw [this]
    simp
def flushD (fuse : Int) (down : Bool) : Int := if down = true then 90 else if (burned fuse down).2 = true then 90 else 0
section
variable {w : World} {b g m N sz : Nat} {S : List (List UInt8)} {f : Cache} {fuse : Int} {down : Bool}
theorem DevAt.mono (h : DevAt w b g m N sz S f fuse down) {M : Nat} (hm : N ≤ M) : DevAt w b g m M sz S f fuse down := ⟨h.box, h.row, h.cache.mono hm, h.ok, h.fuse⟩
set_option maxRecDepth 100000 in
set_option maxHeartbeats 2000000 in
/-- Flush, when the device lives through it. -/
theorem flush_good (h : DevAt w b g m N sz S f fuse false) (hb : (burned fuse false).2 = false) : Calls Try.prog 28 #[.pointer (some ⟨b, 0, none⟩)] w fun e w' => e = .returned (.int .i64 0) ∧ Chg w w' b g m ∧ DevAt w' b g m 0 0 (flushed S f) (fun _ => none) (burned fuse false).1 false := by
  obtain ⟨c0, c1, c2, c3⟩ := h.cells
  have H := Aside0.mk (burn_walk h)
  have HLT := Aside0.mk h.lt
  rw [hb] at H
  clear h
  generalize (burned fuse false).1 = fu at *
  go_enter Try.func28, Try.ntmps28
  go_wp2_with fail
  refine H.out.mono ?_
  rintro e w1 ⟨rfl, hg1, h1⟩
  have H1 := Aside0.mk h1
  have HC1 := Aside0.mk (Chg.of (b := b) (g := g) (m := m) hg1 (fun k e => .inl (by injection e with e; exact e.symm)))
  obtain ⟨D, ho, hsz, hhas, hat⟩ := h1.cache
  have HD := Aside0.mk (And.intro ho (And.intro hhas hat))
  clear hg1 h1 H ho hsz hhas hat c0 c1 c2 c3
  obtain ⟨c0, c1, c2, c3⟩ := H1.out.cells
  go_wp2_with (first
    | (refine wpList_range_own _ rfl _ 98 rfl 3 9 keyed3 Try.underlying98 Sv m N D rfl HD.out.1 ?_; intro w2 hrg hgr hsz2))
  go_frame
  have HRG := Aside0.mk hrg
  have H2 : Aside0 (DevAt w2 b g m N sz S f fu false) := ⟨H1.out.kept hgr (by simp) (by simp) (by simp)⟩
  have HC2 : Aside0 (Chg w w2 b g m) := ⟨HC1.out.trans (Chg.of hgr (fun k e => by cases e))⟩
  have HRR : Aside0 (w1.heap.size ≠ b ∧ w1.heap.size ≠ g ∧ w1.heap.size ≠ m ∧ w.heap.size ≤ w1.heap.size) := ⟨by have := H1.out.lt; have := HC1.out.size; omega⟩
  have HP := Aside0.mk (Part.start S f (has D) HD.out.2.1)
  clear hrg hgr hsz2 c0 c1 c2 c3 H1 HC1
  generalize w1.heap.size = r at *
  go_loopg [3] (size D) (fun kq v3 wr => ∃ (left : Lit → Bool) (S' : List (List UInt8)), Aside0 (wr.ranges Try.prog 3 Sv m r N D left kq) ∧ Aside0 (DevAt wr b g m N sz S' f fu false) ∧ Aside0 (Part S f left S') ∧ Aside0 (Chg w wr b g m))
  case atStart => exact ⟨has D, S, HRG, H2, HP, HC2⟩
  case round =>
    clear HRG H2 HP HC2
    obtain ⟨left, S', HRG, H2, HP, HC2⟩ := hrel
    go_wp2_with (first
      | (refine next_cache _ rfl _ rfl m r N D left gk rfl HRG.out ?_ ?_))
    · intro hk0 hl
      have HF := Aside0.mk (HP.out.done hl)
      obtain ⟨c0, c1, c2, c3⟩ := H2.out.cells
      go_wp2_with (first
        | (refine MapI.clear H2.out.cache rfl _ rfl rfl ?_; intro w3 hm3 hg3; have H3 := Aside0.mk (And.intro hm3 hg3); clear hm3 hg3))
      go_ret
      refine ⟨rfl, HC2.out.trans (Chg.of H3.out.2 (fun k e => .inr (.inr (by injection e with e; exact e.symm)))), ?_⟩
      rw [← HF.out]
      exact ⟨blk_grown H2.out.box H3.out.2 (some_ne H2.out.apart.2.1), blk_grown H2.out.row H3.out.2 (some_ne H2.out.apart.2.2), H3.out.1, ⟨H2.out.ok.len, H2.out.ok.few, H2.out.ok.some_, fun _ _ h => by cases h⟩, H2.out.fuse⟩
    · intro x s w3 cnt hlk hhas hat hrg hlt hgr hsz3 hen
      have hfx : f x = some s := by
        have h1 := HD.out.2.1 x
        rw [hhas] at h1
        obtain ⟨s0, h0⟩ := Option.isSome_iff_exists.1 h1.symm
        have h2 := HD.out.2.2 x s0 h0 (.held (.string ⟨#[]⟩))
        rw [hat] at h2
        injection h2 with h2
        injection h2 with h2
        rw [h0, h2]
      have hck := H2.out.ok.cached x s hfx
      have hlen := HP.out.len
      obtain ⟨n, rfl⟩ : ∃ n : Nat, x = (n : Int) := ⟨x.toNat, by omega⟩
      have hn : n < S'.length := by omega
      have hn0 : n < S.length := by omega
      have H3 : Aside0 (DevAt w3 b g m N sz S' f fu false) := ⟨H2.out.kept hgr (some_ne HRR.out.1.symm) (some_ne HRR.out.2.1.symm) (some_ne HRR.out.2.2.1.symm)⟩
      have HC3 : Aside0 (Chg w w3 b g m) := ⟨⟨hgr.os.trans HC2.out.os, hgr.tape.trans HC2.out.tape, hgr.output.trans HC2.out.output, Nat.le_trans HC2.out.size hgr.size, fun k hk h1 h2 h3 => (hgr.block k (Nat.lt_of_lt_of_le hk HC2.out.size) (some_ne (by have := HRR.out.2.2.2; omega))).trans (HC2.out.block k hk h1 h2 h3)⟩⟩
      have HRG3 := Aside0.mk (And.intro hrg hlt)
      have HP3 := Aside0.mk (HP.out.step n hn0 s hfx)
      have hts : s.data.toList.length = 64 := by rw [Array.length_toList]; exact hck.2.2
      have hput := flat_put S' n hn s.data.toList 64 H3.out.ok.len hts (Nat.le_refl _)
      have hdr : S'[n].drop 64 = [] := List.drop_of_length_le (by rw [H3.out.ok.len _ (List.getElem_mem hn)]; exact Nat.le_refl _)
      rw [hdr, List.append_nil] at hput
      have HPUT := Aside0.mk (And.intro hput hts)
      have HTK : Aside0 (s.data.toList.take 64 = s.data.toList) := ⟨List.take_of_length_le (by rw [hts]; exact Nat.le_refl _)⟩
      have HSL : Aside0 (S'.flatten.length = 64 * S'.length) := ⟨flat_len S' H3.out.ok.len⟩
      clear hput hdr hrg hlt hgr hsz3 hlk hhas hat hfx hck hlen HRG H2 HP HC2 hts
      go_wp2_with fail
      refine (bytes_walk H3.out n hn).mono ?_
      rintro e w4 ⟨rfl, rfl⟩
      go_wp2_with (first
        | (refine RowB.copy H3.out.row rfl _ _ rfl (64 * n) 64 (64 * S'.length - 64 * n) rfl s rfl (by rw [HSL.out]; omega) ?_; intro w5 hr5 hg5; rw [HTK.out, HPUT.out.2, HPUT.out.1] at hr5; have H5 := Aside0.mk (And.intro hr5 hg5); clear hr5 hg5))
      go_roundg cnt
      case measure => exact HRG3.out.2
      case rel =>
        have hls : (S'.set n s.data.toList).length = S'.length := List.length_set
        refine ⟨_, S'.set n s.data.toList, ⟨HRG3.out.1.kept H5.out.2 (some_ne H3.out.apart.2.2.symm) (some_ne HRR.out.2.1)⟩, ⟨⟨?_, H5.out.1, H3.out.cache.kept H5.out.2 (some_ne H3.out.apart.2.2.symm), ⟨fun q hq => ?_, by rw [hls]; exact H3.out.ok.few, by rw [hls]; exact H3.out.ok.some_, fun i q h => by rw [hls]; exact H3.out.ok.cached i q h⟩, H3.out.fuse⟩⟩, HP3, ⟨HC3.out.trans (Chg.of H5.out.2 (fun k e => .inr (.inl (by injection e with e; exact e.symm))))⟩⟩
        · rw [hls]
          exact blk_grown H3.out.box H5.out.2 (some_ne H3.out.apart.1)
        · rcases List.mem_or_eq_of_mem_set hq with hq | hq
          · exact H3.out.ok.len q hq
          · rw [hq]; exact HPUT.out.2
end
end Go.Proofs.Yteibcojjbcihbaa.Sec
