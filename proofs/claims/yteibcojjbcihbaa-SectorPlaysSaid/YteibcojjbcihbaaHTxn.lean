/- A transaction in memory: a box with a number, a time and two maps; each of its methods, told as a function. -/
import Derived.StillTailTactics
import Derived.Test.YteibcojjbcihbaaProg
import Derived.Test.YteibcojjbcihbaaW
import Derived.Test.YteibcojjbcihbaaHStr
import Derived.Test.YteibcojjbcihbaaHMapV
namespace Go.Proofs.Yteibcojjbcihbaa.Txn
open Go.RowKit Go.Proofs.YteibcojjbcihbaaW.PrintWords Go.Proofs.YteibcojjbcihbaaW.PrintLast Go.Proofs.YteibcojjbcihbaaW.PrintMore Go.Maps Mk
attribute [local go_sem] Mk.str_leq Mk.str_gtr Mk.str_geq
set_option linter.unusedVariables false
set_option linter.unusedSimpArgs false
abbrev Item := ByteArray × Bool
def itV (x : Item) : Value := .agg #[.string x.1, .bool x.2]
def it0 : Item := (⟨#[]⟩, false)
abbrev Tab := List UInt8 → Option Item
def tabV (f : Tab) : List UInt8 → Option Value := fun s => (f s).map itV
def tput (f : Tab) (k : List UInt8) (x : Item) : Tab := fun q => if q = k then some x else f q
theorem tabV_put (f : Tab) (k : List UInt8) (x : Item) : tabV (tput f k x) = fun q => if q = k then some (itV x) else tabV f q := by
  funext q
  unfold tabV tput
  split <;> simp_all
/-- A map of items: at most n stores, sz keys. -/
def TabAt (w : World) (b N sz : Nat) (f : Tab) : Prop := ∃ n, n ≤ N ∧ MapV Try.prog 9 w b n sz (tabV f)
theorem TabAt.made (w : World) : TabAt (w.alloc (.map #[] 0)) w.heap.size 0 0 (fun _ => none) := ⟨0, Nat.le_refl _, MapV.made _ _ _⟩
theorem TabAt.kept {w w' : World} {b N sz : Nat} {f : Tab} (h : TabAt w b N sz f) {row : Option Nat} (hg : w.grownBy w' row) (hne : some b ≠ row) : TabAt w' b N sz f := by
  obtain ⟨n, h1, h2⟩ := h
  exact ⟨n, h1, h2.kept hg hne⟩
theorem TabAt.below {w w' : World} {b N sz : Nat} {f : Tab} (h : TabAt w b N sz f) (hb : Below w.heap.size w w') : TabAt w' b N sz f := h.kept (grownBy_of_below hb none) (by simp)
theorem TabAt.mono {w : World} {b N M sz : Nat} {f : Tab} (h : TabAt w b N sz f) (hm : N ≤ M) : TabAt w b M sz f := by
  obtain ⟨n, h1, h2⟩ := h
  exact ⟨n, by omega, h2⟩
theorem TabAt.lt {w : World} {b N sz : Nat} {f : Tab} (h : TabAt w b N sz f) : b < w.heap.size := by
  obtain ⟨n, h1, h2⟩ := h
  exact h2.lt
theorem TabAt.sz_le {w : World} {b N sz : Nat} {f : Tab} (h : TabAt w b N sz f) : sz ≤ N := by
  obtain ⟨n, h1, h2⟩ := h
  exact Nat.le_trans h2.sz_le h1
theorem TabAt.ne {w : World} {b N sz : Nat} {f : Tab} (h : TabAt w b N sz f) {a : Addr} {v : Value} (hc : w.cell? a = some v) : a.block ≠ b := by
  obtain ⟨n, h1, h2⟩ := h
  exact h2.ne hc
theorem TabAt.look {w : World} {b N sz : Nat} {f : Tab} {ops : Array Oper} {rest : List Oper} {o : Oper} {a : Act} {Q : Exit → Act → World → Prop} (h : TabAt w b N sz f) (hg : o.guard = none) (m x : Operand) (t e : TypeId) (hop : o.op = Op.lookup t m x true)
    (ht : Try.prog.underlying t = some (.map 9 e)) (hz : (zeroValue e).run Try.prog w = .ok (itV it0) w) (hm : a.eval m = .map (some b)) (s : ByteArray) (hx : a.eval x = .string s) (hs : s.size ≤ maxLen)
    (hK : wpList Try.prog ops Q rest (a.put o.dst (.tuple #[.agg #[.string ((f s.data.toList).getD it0).1, .bool ((f s.data.toList).getD it0).2], .bool (f s.data.toList).isSome])) w) : wpList Try.prog ops Q (o :: rest) a w := by
  obtain ⟨n, h1, h2⟩ := h
  refine h2.look hg m x t e hop Try.underlying9 ht hz hm s hx hs ?_
  unfold tabV
  cases hf : f s.data.toList with
  | none => rw [hf] at hK; exact hK
  | some y => rw [hf] at hK; exact hK
theorem TabAt.look0 {w : World} {b N sz : Nat} {f : Tab} {ops : Array Oper} {rest : List Oper} {o : Oper} {a : Act} {Q : Exit → Act → World → Prop} (h : TabAt w b N sz f) (hg : o.guard = none) (m x : Operand) (t e : TypeId) (hop : o.op = Op.lookup t m x true)
    (ht : Try.prog.underlying t = some (.map 9 e)) (hz : (zeroValue e).run Try.prog w = .ok (itV it0) w) (hm : a.eval m = .map (some b)) (s : ByteArray) (hx : a.eval x = .string s) (hs : s.size ≤ maxLen) (hf : f s.data.toList = none)
    (hK : wpList Try.prog ops Q rest (a.put o.dst (.tuple #[.agg #[.string ⟨#[]⟩, .bool false], .bool false])) w) : wpList Try.prog ops Q (o :: rest) a w := by
  refine h.look hg m x t e hop ht hz hm s hx hs ?_
  rw [hf]
  exact hK
theorem TabAt.look1 {w : World} {b N sz : Nat} {f : Tab} {ops : Array Oper} {rest : List Oper} {o : Oper} {a : Act} {Q : Exit → Act → World → Prop} (h : TabAt w b N sz f) (hg : o.guard = none) (m x : Operand) (t e : TypeId) (hop : o.op = Op.lookup t m x true)
    (ht : Try.prog.underlying t = some (.map 9 e)) (hz : (zeroValue e).run Try.prog w = .ok (itV it0) w) (hm : a.eval m = .map (some b)) (s : ByteArray) (hx : a.eval x = .string s) (hs : s.size ≤ maxLen) {y : Item} (hf : f s.data.toList = some y)
    (hK : wpList Try.prog ops Q rest (a.put o.dst (.tuple #[.agg #[.string y.1, .bool y.2], .bool true])) w) : wpList Try.prog ops Q (o :: rest) a w := by
  refine h.look hg m x t e hop ht hz hm s hx hs ?_
  rw [hf]
  exact hK
theorem TabAt.store {w : World} {b N sz : Nat} {f : Tab} {ops : Array Oper} {rest : List Oper} {o : Oper} {a : Act} {Q : Exit → Act → World → Prop} (h : TabAt w b N sz f) (hg : o.guard = none) (m x y : Operand) (t e : TypeId) (hop : o.op = Op.mapUpdate t m x y)
    (ht : Try.prog.underlying t = some (.map 9 e)) (hn : N < maxLen) (hm : a.eval m = .map (some b)) (s : ByteArray) (hx : a.eval x = .string s) (hs : s.size ≤ maxLen) (u : ByteArray) (v : Bool) (hy : a.eval y = .agg #[.string u, .bool v])
    (hK : ∀ w', TabAt w' b (N + 1) (if (f s.data.toList).isSome then sz else sz + 1) (tput f s.data.toList (u, v)) → w.grownBy w' (some b) → wpList Try.prog ops Q rest (a.put o.dst undef) w') : wpList Try.prog ops Q (o :: rest) a w := by
  obtain ⟨n, h1, h2⟩ := h
  refine h2.store hg m x y t e hop Try.underlying9 ht (by omega) hm s hx hs _ hy (fun w' h' hg' => hK w' ⟨n + 1, by omega, ?_⟩ hg')
  rw [tabV_put]
  have : (tabV f s.data.toList).isSome = (f s.data.toList).isSome := by unfold tabV; simp
  rw [this] at h'
  exact h'
theorem TabAt.len {w : World} {b N sz : Nat} {f : Tab} {ops : Array Oper} {rest : List Oper} {o : Oper} {a : Act} {Q : Exit → Act → World → Prop} (h : TabAt w b N sz f) (hg : o.guard = none) (m : Operand) (t e : TypeId) (hop : o.op = Op.call { callee := Callee.builtin Builtin.len, args := #[m], argTypes := #[t] })
    (ht : Try.prog.underlying t = some (.map 9 e)) (hm : a.eval m = .map (some b)) (hK : wpList Try.prog ops Q rest (a.put o.dst (.int .i64 sz)) w) : wpList Try.prog ops Q (o :: rest) a w := by
  obtain ⟨n, h1, h2⟩ := h
  exact h2.len hg m t e hop ht hm hK
/-- A transaction in memory. -/
structure TxnAt (w : World) (b br bw : Nat) (num ts : Int) (N sr sw : Nat) (fr fw : Tab) : Prop where
  box : w.heap[b]? = some (.cells #[.int .i64 num, .int .i64 ts, .map (some br), .map (some bw)] 86 (0, 0))
  reads : TabAt w br N sr fr
  writes : TabAt w bw N sw fw
  ne : br ≠ bw
theorem TxnAt.lt {w : World} {b br bw : Nat} {num ts : Int} {N sr sw : Nat} {fr fw : Tab} (h : TxnAt w b br bw num ts N sr sw fr fw) : b < w.heap.size := (List.getElem?_eq_some_iff.1 (by simpa using h.box)).1
theorem TxnAt.kept {w w' : World} {b br bw : Nat} {num ts : Int} {N sr sw : Nat} {fr fw : Tab} (h : TxnAt w b br bw num ts N sr sw fr fw) {row : Option Nat} (hg : w.grownBy w' row) (h1 : some b ≠ row) (h2 : some br ≠ row) (h3 : some bw ≠ row) : TxnAt w' b br bw num ts N sr sw fr fw :=
  ⟨blk_grown h.box hg h1, h.reads.kept hg h2, h.writes.kept hg h3, h.ne⟩
theorem TxnAt.below {w w' : World} {b br bw : Nat} {num ts : Int} {N sr sw : Nat} {fr fw : Tab} (h : TxnAt w b br bw num ts N sr sw fr fw) (hb : Below w.heap.size w w') : TxnAt w' b br bw num ts N sr sw fr fw := h.kept (grownBy_of_below hb none) (by simp) (by simp) (by simp)
theorem TxnAt.cells {w : World} {b br bw : Nat} {num ts : Int} {N sr sw : Nat} {fr fw : Tab} (h : TxnAt w b br bw num ts N sr sw fr fw) : w.cell? ⟨b, 1, none⟩ = some (.int .i64 ts) ∧ w.cell? ⟨b, 2, none⟩ = some (.map (some br)) ∧ w.cell? ⟨b, 3, none⟩ = some (.map (some bw)) ∧ w.cell? ⟨b, 0, none⟩ = some (.int .i64 num) :=
  ⟨(blk_cell h.box 1).trans rfl, (blk_cell h.box 2).trans rfl, (blk_cell h.box 3).trans rfl, (blk_cell h.box 0).trans rfl⟩
theorem TxnAt.apart {w : World} {b br bw : Nat} {num ts : Int} {N sr sw : Nat} {fr fw : Tab} (h : TxnAt w b br bw num ts N sr sw fr fw) : b ≠ br ∧ b ≠ bw := ⟨h.reads.ne h.cells.1, h.writes.ne h.cells.1⟩
theorem zero88 (w : World) : (zeroValue 88).run Try.prog w = .ok (itV it0) w := by kernel_rfl
theorem zero34 (w : World) : (zeroValue 34).run Try.prog w = .ok (itV it0) w := by kernel_rfl

/-! what they compute -/
def keyB (s : ByteArray) : Bool := !s.toList.isEmpty && decide (s.size ≤ 32)
def wrongV (k v : ByteArray) : Int := if keyB k = false then 3 else if 2048 < v.size then 2 else 0
def noteV (f : Tab) (sz : Nat) (k v : ByteArray) (found : Bool) : Int :=
  if wrongV k v = 0 then (if (!found && !v.toList.isEmpty) = true then 3 else if (f k.data.toList).isSome = true then 6 else if sz = 16 then 2 else 0) else wrongV k v
def writeV (f : Tab) (sz : Nat) (k v : ByteArray) : Int :=
  if wrongV k v = 0 then (if (f k.data.toList).isSome = false ∧ sz = 16 then 2 else 0) else wrongV k v
def getV (fr fw : Tab) (k : ByteArray) : Item × Int :=
  if keyB k = false then (it0, 3) else match fw k.data.toList with | some x => (x, 0) | none => match fr k.data.toList with | some x => (x, 0) | none => (it0, 240)
theorem keyB_size {s : ByteArray} (h : keyB s = true) : s.size ≤ 32 := by
  unfold keyB at h
  simp at h
  exact h.2
theorem wrong_zero {k v : ByteArray} (h : wrongV k v = 0) : keyB k = true ∧ v.size ≤ 2048 := by
  unfold wrongV at h
  split at h
  · cases h
  · split at h
    · cases h
    · rename_i h1 h2
      exact ⟨by simpa using h1, by omega⟩

set_option maxRecDepth 100000 in
theorem among_walk (w : World) (x : Int) : Calls Try.prog 11 #[.int .i64 x, .int .i64 4] w fun e w' => e = .returned (.int .i64 ((x.tmod 4 + 4).tmod 4)) ∧ Below w.heap.size w w' := by
  have e : wrap64 (x.tmod 4 + 4) = x.tmod 4 + 4 := by unfold wrap64; ( have := Int.tmod_lt_of_pos x (show (0:Int) < 4 by omega); have := Int.lt_tmod_of_pos x (show (0:Int) < 4 by omega); omega)
  have HE := Aside0.mk e
  rw [← e]
  clear e
  go_enter Try.func11, Try.ntmps11
  go_wp2
  go_ret
  exact ⟨by rw [HE.out]; rfl, Below.refl _ _⟩

set_option maxRecDepth 100000 in
theorem key_walk (w : World) (s : ByteArray) (hs : s.size ≤ maxLen) : Calls Try.prog 40 #[.string s] w fun e w' => e = .returned (.bool (keyB s)) ∧ Below w.heap.size w w' := by
  go_enter Try.func40, Try.ntmps40
  go_wp2
  · rename_i h
    go_ret
    exact ⟨by unfold keyB; rw [h]; rfl, Below.refl _ _⟩
  · go_ret
    refine ⟨?_, Below.refl _ _⟩
    show Ending.returned (.bool (!s.toList.isEmpty && decide ((s.size : Int) ≤ 32))) = _
    have e : decide ((s.size : Int) ≤ 32) = decide (s.size ≤ 32) := by rw [decide_eq_decide]; omega
    rw [e]
    rfl

set_option maxRecDepth 100000 in
theorem wrong_walk (w : World) (k v : ByteArray) (hk : k.size ≤ maxLen) (hv : v.size ≤ maxLen) : Calls Try.prog 38 #[.string k, .string v] w fun e w' => e = .returned (.int .i64 (wrongV k v)) ∧ Below w.heap.size w w' := by
  have HK := Aside0.mk (key_walk w k hk)
  have HV := Aside0.mk hv
  clear hk hv
  go_enter Try.func38, Try.ntmps38
  go_wp2_with fail
  refine HK.out.mono ?_
  rintro e w1 ⟨rfl, hb⟩
  have HW : Aside0 (wrongV k v = if keyB k = false then 3 else if 2048 < v.size then 2 else 0) := ⟨rfl⟩
  generalize keyB k = b at *
  cases b with
  | false =>
    rw [if_pos rfl] at HW
    go_wp2
    go_ret
    exact ⟨by rw [HW.out]; rfl, hb⟩
  | true =>
    rw [if_neg (by simp)] at HW
    by_cases h : 2048 < v.size
    · rw [if_pos h] at HW
      go_wp2
      go_ret
      exact ⟨by rw [HW.out]; rfl, hb⟩
    · rw [if_neg h] at HW
      go_wp2
      go_ret
      exact ⟨by rw [HW.out]; rfl, hb⟩

set_option maxRecDepth 100000 in
set_option maxHeartbeats 1000000 in
/-- Get. -/
theorem get_walk (w : World) (b br bw : Nat) (num ts : Int) (N sr sw : Nat) (fr fw : Tab) (h : TxnAt w b br bw num ts N sr sw fr fw) (k : ByteArray) (hk : k.size ≤ maxLen) :
    Calls Try.prog 15 #[.pointer (some ⟨b, 0, none⟩), .string k] w fun e w' => e = .returned (.tuple #[.string (getV fr fw k).1.1, .bool (getV fr fw k).1.2, .int .i64 (getV fr fw k).2]) ∧ Below w.heap.size w w' := by
  have HK := Aside0.mk (key_walk w k hk)
  have HS := Aside0.mk hk
  have H := Aside0.mk h
  clear hk h
  go_enter Try.func15, Try.ntmps15
  go_wp2_with fail
  refine HK.out.mono ?_
  rintro e w1 ⟨rfl, hb⟩
  have HB := Aside0.mk hb
  have HT := Aside0.mk (H.out.below hb)
  have HG : Aside0 (getV fr fw k = if keyB k = false then ((it0, 3) : Item × Int) else match fw k.data.toList with | some x => (x, 0) | none => match fr k.data.toList with | some x => (x, 0) | none => (it0, 240)) := ⟨rfl⟩
  clear hb HK H
  generalize keyB k = kb at *
  cases kb with
  | false =>
    rw [if_pos rfl] at HG
    go_wp2
    go_ret3
    exact ⟨by rw [HG.out]; rfl, HB.out⟩
  | true =>
    rw [if_neg (by simp)] at HG
    obtain ⟨c1, c2, c3, c0⟩ := HT.out.cells
    go_wp2_with fail
    go_region
    have HX : Aside0 ((w1.alloc (Obj.cells #[Value.map (some bw), Value.map (some br)] 84)).drew.heap[w1.heap.size]? = some (.cells #[Value.map (some bw), Value.map (some br)] 84 (0, 0))) := ⟨blk_new _ _⟩
    have hb1 : Below w1.heap.size w1 (w1.alloc (Obj.cells #[Value.map (some bw), Value.map (some br)] 84)).drew := below_drew1 (below_alloc (Below.refl _ _) _)
    have HT1 := Aside0.mk (HT.out.below hb1)
    have HB1 : Aside0 (Below w.heap.size w (w1.alloc (Obj.cells #[Value.map (some bw), Value.map (some br)] 84)).drew) := ⟨HB.out.trans (hb1.mono HB.out.size)⟩
    clear hb1 HB HT c0 c1 c2 c3
    generalize w1.heap.size = g at *
    generalize (w1.alloc (Obj.cells #[Value.map (some bw), Value.map (some br)] 84)).drew = w2 at *
    clear w1
    go_wp2
    go_loopw [24] (fun i wr => ∃ j : Nat, j ≤ 2 ∧ i = .int .i64 j ∧ Aside0 (1 ≤ j → fw k.data.toList = none) ∧ Aside0 (2 ≤ j → fr k.data.toList = none) ∧ Aside0 (wr.heap[g]? = some (.cells #[Value.map (some bw), Value.map (some br)] 84 (0, 0))) ∧ Aside0 (TxnAt wr b br bw num ts N sr sw fr fw) ∧ Aside0 (Below w.heap.size w wr))
      (fun i _ => 2 - (intOf i).toNat)
    case atStart => exact ⟨0, by omega, rfl, ⟨by omega⟩, ⟨by omega⟩, HX, HT1, HB1⟩
    case round =>
      clear HX HT1 HB1
      obtain ⟨j, hj, rfl, HW, HR, HX, HT, HB⟩ := hrel
      have d0 : wr.cell? ⟨g, 0, none⟩ = some (.map (some bw)) := (blk_cell HX.out 0).trans rfl
      have d1 : wr.cell? ⟨g, 1, none⟩ = some (.map (some br)) := (blk_cell HX.out 1).trans rfl
      match j, hj with
      | 0, _ =>
        cases hf : fw k.data.toList with
        | none =>
          have HF := Aside0.mk hf
          clear hf
          go_wp2_with (first
            | (at_lookup; refine TabAt.look0 HT.out.writes rfl _ _ 84 88 rfl Try.underlying84 (zero88 _) rfl k rfl HS.out HF.out ?_))
          case roundEnd => exact ⟨⟨1, by omega, by go_num, ⟨fun hj => by first | trivial | exact HF.out | exact HW.out (by omega)⟩, ⟨fun hj => by first | omega | trivial | exact HF.out⟩, ⟨blk_alloc HX.out _⟩, ⟨HT.out.below (below_alloc (Below.refl _ _) _)⟩, ⟨below_alloc HB.out _⟩⟩, by simp [intOf]⟩
        | some x =>
          have HF := Aside0.mk hf
          have HGX : Aside0 (getV fr fw k = (x, 0)) := ⟨by rw [HG.out]; simp only [hf]⟩
          clear hf
          go_wp2_with (first
            | (at_lookup; refine TabAt.look1 HT.out.writes rfl _ _ 84 88 rfl Try.underlying84 (zero88 _) rfl k rfl HS.out HF.out ?_))
          go_quiet (fail)
          go_wp2
          go_ret3
          exact ⟨by rw [HGX.out]; rfl, pw_below_drewN (below_alloc HB.out _) _⟩
      | 1, _ =>
        have HFW := Aside0.mk (HW.out (by omega))
        cases hf : fr k.data.toList with
        | none =>
          have HF := Aside0.mk hf
          clear hf
          go_wp2_with (first
            | (at_lookup; refine TabAt.look0 HT.out.reads rfl _ _ 84 88 rfl Try.underlying84 (zero88 _) rfl k rfl HS.out HF.out ?_))
          case roundEnd => exact ⟨⟨2, by omega, by go_num, ⟨fun hj => by first | trivial | exact HF.out | exact HW.out (by omega)⟩, ⟨fun hj => by first | omega | trivial | exact HF.out⟩, ⟨blk_alloc HX.out _⟩, ⟨HT.out.below (below_alloc (Below.refl _ _) _)⟩, ⟨below_alloc HB.out _⟩⟩, by simp [intOf]⟩
        | some x =>
          have HF := Aside0.mk hf
          have HGX : Aside0 (getV fr fw k = (x, 0)) := ⟨by rw [HG.out]; simp only [HFW.out, hf]⟩
          clear hf
          go_wp2_with (first
            | (at_lookup; refine TabAt.look1 HT.out.reads rfl _ _ 84 88 rfl Try.underlying84 (zero88 _) rfl k rfl HS.out HF.out ?_))
          go_quiet (fail)
          go_wp2
          go_ret3
          exact ⟨by rw [HGX.out]; rfl, pw_below_drewN (below_alloc HB.out _) _⟩
      | 2, _ =>
        have HGX : Aside0 (getV fr fw k = (it0, 240)) := ⟨by rw [HG.out]; simp only [HW.out (by omega), HR.out (by omega)]⟩
        go_wp2
        go_ret3
        exact ⟨by rw [HGX.out]; rfl, HB.out⟩

set_option maxRecDepth 100000 in
set_option maxHeartbeats 1000000 in
/-- Note. -/
theorem note_walk (w : World) (b br bw : Nat) (num ts : Int) (N sr sw : Nat) (fr fw : Tab) (h : TxnAt w b br bw num ts N sr sw fr fw) (k v : ByteArray) (fd : Bool) (hk : k.size ≤ maxLen) (hv : v.size ≤ maxLen) (hN : N < maxLen) :
    Calls Try.prog 12 #[.pointer (some ⟨b, 0, none⟩), .string k, .string v, .bool fd] w fun e w' => e = .returned (.int .i64 (noteV fr sr k v fd)) ∧ w.grownBy w' (some br) ∧
      TxnAt w' b br bw num ts (N + 1) (if noteV fr sr k v fd = 0 then sr + 1 else sr) sw (if noteV fr sr k v fd = 0 then tput fr k.data.toList (v, fd) else fr) fw := by
  have HK := Aside0.mk (wrong_walk w k v hk hv)
  have HS := Aside0.mk (And.intro hk hN)
  have H := Aside0.mk h
  have HN : Aside0 (noteV fr sr k v fd = if wrongV k v = 0 then (if (!fd && !v.toList.isEmpty) = true then 3 else if (fr k.data.toList).isSome = true then 6 else if sr = 16 then 2 else 0) else wrongV k v) := ⟨rfl⟩
  clear hk hv h hN
  obtain ⟨s1, hs1⟩ : ∃ x, x = (if noteV fr sr k v fd = 0 then sr + 1 else sr) := ⟨_, rfl⟩
  obtain ⟨f1, hf1⟩ : ∃ x, x = (if noteV fr sr k v fd = 0 then tput fr k.data.toList (v, fd) else fr) := ⟨_, rfl⟩
  rw [← hs1, ← hf1]
  have HE : Aside0 (s1 = (if noteV fr sr k v fd = 0 then sr + 1 else sr) ∧ f1 = (if noteV fr sr k v fd = 0 then tput fr k.data.toList (v, fd) else fr)) := ⟨hs1, hf1⟩
  clear hs1 hf1
  generalize noteV fr sr k v fd = r at *
  have HEN : Aside0 (r ≠ 0 → s1 = sr ∧ f1 = fr) := ⟨fun h => by rw [HE.out.1, HE.out.2, if_neg h, if_neg h]; exact ⟨rfl, rfl⟩⟩
  go_enter Try.func12, Try.ntmps12
  go_wp2_with fail
  refine HK.out.mono ?_
  rintro e w1 ⟨rfl, hb⟩
  have HB := Aside0.mk (grownBy_of_below hb (some br))
  have HT := Aside0.mk (H.out.below hb)
  clear hb HK H
  by_cases hw : wrongV k v = 0
  · rw [if_pos hw] at HN
    rw [hw]
    clear hw
    obtain ⟨c1, c2, c3, c0⟩ := HT.out.cells
    cases hf : fr k.data.toList with
    | none =>
      have HF := Aside0.mk hf
      rw [hf] at HN
      clear hf
      have HT2 := Aside0.mk (HT.out.below (below_alloc (Below.refl _ _) (Obj.cells #[Value.string { data := #[] }, Value.bool false] 88)))
      have HB2 := Aside0.mk (HB.out.trans (grownBy_of_below (below_alloc (Below.refl _ _) (Obj.cells #[Value.string { data := #[] }, Value.bool false] 88)) (some br)))
      obtain ⟨d1, d2, d3, d0⟩ := HT2.out.cells
      cases fd with
      | true =>
        rw [Bool.not_true, Bool.false_and] at HN
        rw [if_neg (by simp)] at HN
        rw [if_neg (by simp)] at HN
        by_cases hs : sr = 16
        · rw [if_pos hs] at HN
          obtain ⟨e1, e2⟩ := HEN.out (by rw [HN.out]; decide)
          have HX : Aside0 (s1 = sr ∧ f1 = fr) := ⟨e1, e2⟩
          clear e1 e2
          subst hs
          go_wp2_with (first
            | (at_lookup; refine TabAt.look0 HT.out.reads rfl _ _ 84 88 rfl Try.underlying84 (zero88 _) rfl k rfl HS.out.1 HF.out ?_)
            | (at_len; refine TabAt.len HT2.out.reads rfl _ 84 88 rfl Try.underlying84 rfl ?_)
            | (at_mapUpdate; refine TabAt.store HT2.out.reads rfl _ _ _ 84 88 rfl Try.underlying84 HS.out.2 rfl k rfl HS.out.1 v _ rfl ?_; intro w3 hm3 hg3))
          go_ret
          exact ⟨by rw [HN.out]; rfl, HB2.out, by rw [HX.out.1, HX.out.2]; exact ⟨HT2.out.box, HT2.out.reads.mono (Nat.le_succ _), HT2.out.writes.mono (Nat.le_succ _), HT2.out.ne⟩⟩
        · rw [if_neg hs] at HN
          go_wp2_with (first
            | (at_lookup; refine TabAt.look0 HT.out.reads rfl _ _ 84 88 rfl Try.underlying84 (zero88 _) rfl k rfl HS.out.1 HF.out ?_)
            | (at_len; refine TabAt.len HT2.out.reads rfl _ 84 88 rfl Try.underlying84 rfl ?_)
            | (at_mapUpdate; refine TabAt.store HT2.out.reads rfl _ _ _ 84 88 rfl Try.underlying84 HS.out.2 rfl k rfl HS.out.1 v _ rfl ?_; intro w3 hm3 hg3))
          go_ret
          rw [HF.out] at hm3
          exact ⟨by rw [HN.out]; rfl, HB2.out.trans hg3, by
            rw [HE.out.1, HE.out.2, HN.out, if_pos rfl, if_pos rfl]
            exact ⟨blk_grown HT2.out.box hg3 (by have := HT2.out.apart.1; intro h; injection h with h; exact this h), hm3, (HT2.out.writes.kept hg3 (by have := HT2.out.ne; intro h; injection h with h; exact this h.symm)).mono (Nat.le_succ _), HT2.out.ne⟩⟩
      | false =>
        cases hq : v.toList.isEmpty with
        | true =>
          have he : v.toList = [] := by simpa using hq
          rw [hq, Bool.not_false, Bool.not_true, Bool.and_false] at HN
          clear hq
          rw [if_neg (by simp)] at HN
          rw [if_neg (by simp)] at HN
          by_cases hs : sr = 16
          · rw [if_pos hs] at HN
            obtain ⟨e1, e2⟩ := HEN.out (by rw [HN.out]; decide)
            have HX : Aside0 (s1 = sr ∧ f1 = fr) := ⟨e1, e2⟩
            clear e1 e2
            subst hs
            go_wp2_with (first
              | (at_lookup; refine TabAt.look0 HT.out.reads rfl _ _ 84 88 rfl Try.underlying84 (zero88 _) rfl k rfl HS.out.1 HF.out ?_)
              | (at_len; refine TabAt.len HT2.out.reads rfl _ 84 88 rfl Try.underlying84 rfl ?_)
              | (at_mapUpdate; refine TabAt.store HT2.out.reads rfl _ _ _ 84 88 rfl Try.underlying84 HS.out.2 rfl k rfl HS.out.1 v _ rfl ?_; intro w3 hm3 hg3))
            go_ret
            exact ⟨by rw [HN.out]; rfl, HB2.out, by rw [HX.out.1, HX.out.2]; exact ⟨HT2.out.box, HT2.out.reads.mono (Nat.le_succ _), HT2.out.writes.mono (Nat.le_succ _), HT2.out.ne⟩⟩
          · rw [if_neg hs] at HN
            go_wp2_with (first
              | (at_lookup; refine TabAt.look0 HT.out.reads rfl _ _ 84 88 rfl Try.underlying84 (zero88 _) rfl k rfl HS.out.1 HF.out ?_)
              | (at_len; refine TabAt.len HT2.out.reads rfl _ 84 88 rfl Try.underlying84 rfl ?_)
              | (at_mapUpdate; refine TabAt.store HT2.out.reads rfl _ _ _ 84 88 rfl Try.underlying84 HS.out.2 rfl k rfl HS.out.1 v _ rfl ?_; intro w3 hm3 hg3))
            go_ret
            rw [HF.out] at hm3
            exact ⟨by rw [HN.out]; rfl, HB2.out.trans hg3, by
              rw [HE.out.1, HE.out.2, HN.out, if_pos rfl, if_pos rfl]
              exact ⟨blk_grown HT2.out.box hg3 (by have := HT2.out.apart.1; intro h; injection h with h; exact this h), hm3, (HT2.out.writes.kept hg3 (by have := HT2.out.ne; intro h; injection h with h; exact this h.symm)).mono (Nat.le_succ _), HT2.out.ne⟩⟩
        | false =>
          have he : (!v.toList.isEmpty) = true := by rw [hq]; rfl
          rw [hq, Bool.not_false, Bool.and_true] at HN
          clear hq
          rw [if_pos rfl] at HN
          obtain ⟨e1, e2⟩ := HEN.out (by rw [HN.out]; decide)
          have HX : Aside0 (s1 = sr ∧ f1 = fr) := ⟨e1, e2⟩
          clear e1 e2
          go_wp2_with (first
            | (at_lookup; refine TabAt.look0 HT.out.reads rfl _ _ 84 88 rfl Try.underlying84 (zero88 _) rfl k rfl HS.out.1 HF.out ?_)
            | (at_len; refine TabAt.len HT2.out.reads rfl _ 84 88 rfl Try.underlying84 rfl ?_)
            | (at_mapUpdate; refine TabAt.store HT2.out.reads rfl _ _ _ 84 88 rfl Try.underlying84 HS.out.2 rfl k rfl HS.out.1 v _ rfl ?_; intro w3 hm3 hg3))
          go_ret
          exact ⟨by rw [HN.out]; rfl, HB2.out, by rw [HX.out.1, HX.out.2]; exact ⟨HT2.out.box, HT2.out.reads.mono (Nat.le_succ _), HT2.out.writes.mono (Nat.le_succ _), HT2.out.ne⟩⟩
    | some y =>
      have HF := Aside0.mk hf
      rw [hf] at HN
      clear hf
      have HT2 := Aside0.mk (HT.out.below (below_alloc (Below.refl _ _) (Obj.cells #[Value.string y.1, Value.bool y.2] 88)))
      have HB2 := Aside0.mk (HB.out.trans (grownBy_of_below (below_alloc (Below.refl _ _) (Obj.cells #[Value.string y.1, Value.bool y.2] 88)) (some br)))
      obtain ⟨d1, d2, d3, d0⟩ := HT2.out.cells
      cases fd with
      | true =>
        rw [Bool.not_true, Bool.false_and] at HN
        rw [if_neg (by simp)] at HN
        rw [if_pos (by simp)] at HN
        obtain ⟨e1, e2⟩ := HEN.out (by rw [HN.out]; decide)
        have HX : Aside0 (s1 = sr ∧ f1 = fr) := ⟨e1, e2⟩
        clear e1 e2
        go_wp2_with (first
          | (at_lookup; refine TabAt.look1 HT.out.reads rfl _ _ 84 88 rfl Try.underlying84 (zero88 _) rfl k rfl HS.out.1 HF.out ?_)
          | (at_len; refine TabAt.len HT2.out.reads rfl _ 84 88 rfl Try.underlying84 rfl ?_)
          | (at_mapUpdate; refine TabAt.store HT2.out.reads rfl _ _ _ 84 88 rfl Try.underlying84 HS.out.2 rfl k rfl HS.out.1 v _ rfl ?_; intro w3 hm3 hg3))
        go_ret
        exact ⟨by rw [HN.out]; rfl, HB2.out, by rw [HX.out.1, HX.out.2]; exact ⟨HT2.out.box, HT2.out.reads.mono (Nat.le_succ _), HT2.out.writes.mono (Nat.le_succ _), HT2.out.ne⟩⟩
      | false =>
        cases hq : v.toList.isEmpty with
        | true =>
          have he : v.toList = [] := by simpa using hq
          rw [hq, Bool.not_false, Bool.not_true, Bool.and_false] at HN
          clear hq
          rw [if_neg (by simp)] at HN
          rw [if_pos (by simp)] at HN
          obtain ⟨e1, e2⟩ := HEN.out (by rw [HN.out]; decide)
          have HX : Aside0 (s1 = sr ∧ f1 = fr) := ⟨e1, e2⟩
          clear e1 e2
          go_wp2_with (first
            | (at_lookup; refine TabAt.look1 HT.out.reads rfl _ _ 84 88 rfl Try.underlying84 (zero88 _) rfl k rfl HS.out.1 HF.out ?_)
            | (at_len; refine TabAt.len HT2.out.reads rfl _ 84 88 rfl Try.underlying84 rfl ?_)
            | (at_mapUpdate; refine TabAt.store HT2.out.reads rfl _ _ _ 84 88 rfl Try.underlying84 HS.out.2 rfl k rfl HS.out.1 v _ rfl ?_; intro w3 hm3 hg3))
          go_ret
          exact ⟨by rw [HN.out]; rfl, HB2.out, by rw [HX.out.1, HX.out.2]; exact ⟨HT2.out.box, HT2.out.reads.mono (Nat.le_succ _), HT2.out.writes.mono (Nat.le_succ _), HT2.out.ne⟩⟩
        | false =>
          have he : (!v.toList.isEmpty) = true := by rw [hq]; rfl
          rw [hq, Bool.not_false, Bool.and_true] at HN
          clear hq
          rw [if_pos rfl] at HN
          obtain ⟨e1, e2⟩ := HEN.out (by rw [HN.out]; decide)
          have HX : Aside0 (s1 = sr ∧ f1 = fr) := ⟨e1, e2⟩
          clear e1 e2
          go_wp2_with (first
            | (at_lookup; refine TabAt.look1 HT.out.reads rfl _ _ 84 88 rfl Try.underlying84 (zero88 _) rfl k rfl HS.out.1 HF.out ?_)
            | (at_len; refine TabAt.len HT2.out.reads rfl _ 84 88 rfl Try.underlying84 rfl ?_)
            | (at_mapUpdate; refine TabAt.store HT2.out.reads rfl _ _ _ 84 88 rfl Try.underlying84 HS.out.2 rfl k rfl HS.out.1 v _ rfl ?_; intro w3 hm3 hg3))
          go_ret
          exact ⟨by rw [HN.out]; rfl, HB2.out, by rw [HX.out.1, HX.out.2]; exact ⟨HT2.out.box, HT2.out.reads.mono (Nat.le_succ _), HT2.out.writes.mono (Nat.le_succ _), HT2.out.ne⟩⟩
  · rw [if_neg hw] at HN
    obtain ⟨e1, e2⟩ := HEN.out (by rw [HN.out]; exact hw)
    have HX : Aside0 (s1 = sr ∧ f1 = fr) := ⟨e1, e2⟩
    have hb : (wrongV k v != 0) = true := by simpa using hw
    generalize wrongV k v = x at *
    clear hw e1 e2
    go_wp2
    go_ret
    exact ⟨by rw [HN.out]; rfl, HB.out, by rw [HX.out.1, HX.out.2]; exact ⟨HT.out.box, HT.out.reads.mono (Nat.le_succ _), HT.out.writes.mono (Nat.le_succ _), HT.out.ne⟩⟩
end Go.Proofs.Yteibcojjbcihbaa.Txn
