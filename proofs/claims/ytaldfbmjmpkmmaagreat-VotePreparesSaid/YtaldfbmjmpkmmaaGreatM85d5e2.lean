/- Texts of this proof, one behind the other (merged by a program of this session). -/
import Derived.Test.YtaldfbmjmpkmmaaGreatW
import Derived.Deep.Slices
import Derived.ChangeSame
import Derived.SizedLaws
import Derived.Laws.Strings
import Derived.WalkKit
import Derived.Test.YtaldfbmjmpkmmaaGreatProg
import Derived.Below
import Derived.Deep.Draws
import Derived.Deep.AppendLies
import Derived.Maps.AppendAt
import Derived.OwnWalk
import Derived.Laws.BytesArg
import Derived.Laws.MakeOwn
import Derived.Laws.OwnMore
import Derived.Deep.OwnRows
import Derived.Tactics
import Derived.Lib.ConvBytes
import Derived.Laws.Slices
import Derived.KernelRfl
import Derived.RowKit3
import Derived.Deep.LoopGhost
import Derived.Deep.QuietTactic
import Derived.BigQuiet
import Derived.WideLaws
import Derived.Deep.DeepCutAuto
import Derived.Deep.CutBlock
import Derived.Deep.RegionHeld3
import Derived.Laws.Rows
import Derived.Lib.AppendStr
import Derived.ArgAppend
import Derived.Laws.IdiomCopy
import Derived.OrdersHeld
import Derived.Laws.BitsLemmas
import Derived.RowKit
namespace Go.Proofs.YtaldfbmjmpkmmaaGreat.Read
open Go.RowKit Go.Proofs.YtaldfbmjmpkmmaaGreatW.PrintWords
set_option linter.unusedVariables false

/-- Type t reads as kind d; what is read is good. -/
structure Opens {α : Type} (P : Program) (d : Kd α) (t : TypeId) (good : α → Prop) : Prop where
 sz : P.cellsOf t = d.sz
 read : ∀ {H : Type} {enc : TypeId × Value → H} {W : World} {base : Nat} {sp : Nat → Bool} {held : Bool} {fuel : Nat} {cs : List Value} {x : DataW H × List MemPlace},
  DataW.trod enc P W base sp held fuel t cs = some x → (DataW.weights P t x.1).all (· ≤ reachBytes) = true → ∃ a, d.K W a cs ∧ good a
section
variable {P : Program}
theorem opens_int {t : TypeId} {k : IntKind} (ht : P.underlying t = some (.int k)) (hc : P.cellsOf t = 1) : Opens P (Kd.int k) t (fun a => (Lit.int k a).wf = true) := by
 refine ⟨hc, fun {H enc W base sp held fuel cs x} h hs => ?_⟩
 cases fuel with
 | zero => cases h
 | succ n =>
  unfold DataW.trod at h
  rw [ht] at h
  split at h <;> first | cases h | skip
  all_goals first | (simp_all; done) | skip
  rename_i k0 k' m e1
  cases e1
  split at h
  ·rename_i hk
   obtain ⟨rfl, hw⟩ := hk
   exact ⟨m, rfl, hw⟩
  ·cases h
theorem opens_bool {t : TypeId} (ht : P.underlying t = some .bool) (hc : P.cellsOf t = 1) : Opens P Kd.bool t (fun _ => True) := by
 refine ⟨hc, fun {H enc W base sp held fuel cs x} h hs => ?_⟩
 cases fuel with
 | zero => cases h
 | succ n =>
  unfold DataW.trod at h
  rw [ht] at h
  split at h <;> first | cases h | skip
  all_goals first | (simp_all; done) | skip
  exact ⟨_, rfl, trivial⟩
theorem opens_string {t : TypeId} (ht : P.underlying t = some .string) (hc : P.cellsOf t = 1) : Opens P Kd.string t (fun a => a.size ≤ 140737488351232) := by
 refine ⟨hc, fun {H enc W base sp held fuel cs x} h hs => ?_⟩
 cases fuel with
 | zero => cases h
 | succ n =>
  unfold DataW.trod at h
  rw [ht] at h
  split at h <;> first | cases h | skip
  all_goals first | (simp_all; done) | skip
  split at h
  ·cases h
   refine ⟨_, rfl, ?_⟩
   simp only [DataW.weights, List.all_cons, Bool.and_eq_true, decide_eq_true_eq] at hs
   have := hs.1
   rwa [Array.length_toList] at this
  ·cases h
theorem weightsAll_mem {H : Type} {e : TypeId} : ∀ {l : List (DataW H)}, (DataW.weightsAll P e l).all (· ≤ reachBytes) = true → ∀ d, d ∈ l → (DataW.weights P e d).all (· ≤ reachBytes) = true
 | [], _, d, hd => by cases hd
 | a :: r, h, d, hd => by
  rw [DataW.weightsAll, List.all_append, Bool.and_eq_true] at h
  rcases List.mem_cons.1 hd with rfl | hd
  ·exact h.1
  ·exact weightsAll_mem h.2 d hd
/-- A slice of what opens: no longer than the row's weight allows. -/
theorem opens_slice {α : Type} [Inhabited α] {d : Kd α} {t e : TypeId} {good : α → Prop} {B : Nat} (ht : P.underlying t = some (.slice e)) (hc : P.cellsOf t = 1) (hB : P.bytesOf e = B) (hd : Opens P d e good) :
 Opens P (Kd.slice e d) t (fun l => l.length * B ≤ 140737488351232 ∧ ∀ a, a ∈ l → good a) := by
 refine ⟨hc, fun {H enc W base sp held fuel cs x} h hs => ?_⟩
 rcases Deep.open_slice ht h with ⟨rfl, rfl⟩ | ⟨a, len, cap, m, n, D, Pl, rfl, hb, hl, hm, hmm, rfl, hx⟩
 ·exact ⟨[], ⟨none, 0, rfl, Nat.le_refl _, Kd.C_nil d W⟩, by simp, fun _ h => by cases h⟩
 ·have hlm : len ≤ m := by rw [hmm]; split <;> omega
  simp only [DataW.weights, ht, List.all_cons, List.all_append, Bool.and_eq_true, decide_eq_true_eq, List.length_map, List.length_range] at hs
  obtain ⟨hw, hs1, hs2⟩ := hs
  obtain ⟨F, hF⟩ := Deep.choose_lt (α := α) (n := len) (p := fun i f => good f ∧ ∃ cs', W.cells? base (a.add (i * P.cellsOf e)) (P.cellsOf e) = some cs' ∧ d.K W f cs') (fun i hi => by
   obtain ⟨cs', h1, h2⟩ := hx i (Nat.lt_of_lt_of_le hi hlm)
   obtain ⟨f, hk, hg⟩ := hd.read h2 (weightsAll_mem hs1 _ (List.mem_map.2 ⟨i, List.mem_range.2 hi, rfl⟩))
   exact ⟨f, hg, cs', h1, hk⟩)
  have hmx : cap ≤ 9223372036854775807 := Nat.le_trans hm (by decide)
  refine ⟨(List.range len).map F, ⟨some a, cap, by simp, by simpa using hl, by simp, by simp; omega, fun _ => ⟨a, rfl, fun j p hj => ?_⟩⟩, ?_, fun b hb' => ?_⟩
  ·have hjl : j < len := by
    have := List.getElem?_eq_some_iff.1 hj
    obtain ⟨hj', _⟩ := this
    simpa using hj'
   obtain rfl : F j = p := by simpa [hjl] using hj
   obtain ⟨hg, cs', h1, hk⟩ := hF j hjl
   refine ⟨cs', d.K_len hk, hk, fun i u hu => ?_⟩
   obtain ⟨_, hl', hcell⟩ := World.cells?_some h1
   have hi : i < cs'.length := (List.getElem?_eq_some_iff.1 hu).1
   have := hcell i (by omega)
   rw [hu] at this
   rw [← hd.sz, ← Addr.add_add]
   exact this
  ·rw [hB] at hw
   have h2 : len + (m - len) = m := by omega
   rw [h2] at hw
   have h3 : len * B ≤ m * B := Nat.mul_le_mul_right _ hlm
   have h4 : len * B ≤ 140737488351232 := Nat.le_trans h3 hw
   simpa using h4
  ·obtain ⟨i, hi, rfl⟩ := List.mem_map.1 hb'
   exact (hF i (List.mem_range.1 hi)).1
/-- Fields, one behind the other, from cell o on. -/
def Parts {α : Type} (P : Program) (d : Kd α) (fs : List Field) (o : Nat) (good : α → Prop) : Prop :=
 ∀ {H : Type} {enc : TypeId × Value → H} {W : World} {base : Nat} {sp : Nat → Bool} {held : Bool} {fuel : Nat} {cs : List Value} {xs : List (DataW H × List MemPlace)},
  fs.mapM (fun f => DataW.trod enc P W base sp held fuel f.type ((cs.drop f.offset).take (P.cellsOf f.type))) = some xs →
  (DataW.weightsEach P (fs.map (·.type)) (xs.map (·.1))).all (· ≤ reachBytes) = true → cs.length = o + d.sz → ∃ a, d.K W a (cs.drop o) ∧ good a
theorem parts_one {α : Type} {d : Kd α} {f : Field} {o : Nat} {good : α → Prop} (ho : f.offset = o) (hd : Opens P d f.type good) : Parts P d [f] o good := by
 intro H enc W base sp held fuel cs xs h hs hl
 rw [List.mapM_cons, Option.bind_eq_bind, Option.bind_eq_some_iff] at h
 obtain ⟨y, hy, h⟩ := h
 simp only [List.mapM_nil, Option.pure_def, Option.bind_eq_bind, Option.bind_some, Option.some.injEq] at h
 subst h
 rw [ho, hd.sz, List.take_of_length_le (by rw [List.length_drop]; omega)] at hy
 simp only [List.map_cons, List.map_nil, DataW.weightsEach, List.append_nil] at hs
 exact hd.read hy hs
theorem parts_cons {α β : Type} {a : Kd α} {b : Kd β} {f : Field} {fs : List Field} {o : Nat} {ga : α → Prop} {gb : β → Prop} (ho : f.offset = o) (ha : Opens P a f.type ga) (hb : Parts P b fs (o + a.sz) gb) :
 Parts P (Kd.pair a b) (f :: fs) o (fun x => ga x.1 ∧ gb x.2) := by
 intro H enc W base sp held fuel cs xs h hs hl
 rw [List.mapM_cons, Option.bind_eq_bind, Option.bind_eq_some_iff] at h
 obtain ⟨y, hy, h⟩ := h
 rw [Option.bind_eq_bind, Option.bind_eq_some_iff] at h
 obtain ⟨ys, hys, h⟩ := h
 simp only [Option.pure_def, Option.some.injEq] at h
 subst h
 simp only [List.map_cons, DataW.weightsEach, List.all_append, Bool.and_eq_true] at hs
 have hl' : cs.length = o + (a.sz + b.sz) := hl
 rw [ho, ha.sz] at hy
 obtain ⟨x, hx, gx⟩ := ha.read hy hs.1
 obtain ⟨z, hz, gz⟩ := hb hys hs.2 (by omega)
 refine ⟨(x, z), ⟨_, _, ?_, hx, hz⟩, gx, gz⟩
 rw [← List.drop_drop, List.take_append_drop]
theorem opens_struct {α : Type} {d : Kd α} {t : TypeId} {fs : Array Field} {good : α → Prop} (ht : P.underlying t = some (.struct fs)) (hc : P.cellsOf t = d.sz) (hp : Parts P d fs.toList 0 good) : Opens P d t good := by
 refine ⟨hc, fun {H enc W base sp held fuel cs x} h hs => ?_⟩
 cases fuel with
 | zero => cases h
 | succ n =>
  unfold DataW.trod at h
  rw [ht] at h
  split at h <;> first | cases h | skip
  all_goals first | (simp_all; done) | skip
  rename_i fs' cs' e1
  cases e1
  split at h
  ·rename_i hl
   rw [Option.map_eq_some_iff] at h
   obtain ⟨xs, hxs, rfl⟩ := h
   simp only [DataW.weights, ht] at hs
   have := hp hxs hs (by rw [hl, hc]; omega)
   simpa using this
  ·cases h
theorem opens_iso {α β : Type} {d : Kd α} {f : β → α} {t : TypeId} {good : α → Prop} (g : α → β) (hg : ∀ a, f (g a) = a) (h : Opens P d t good) : Opens P (Kd.iso d f) t (fun b => good (f b)) :=
 ⟨h.sz, fun h1 h2 => by
  obtain ⟨a, hk, hgood⟩ := h.read h1 h2
  exact ⟨g a, by show d.K _ (f (g a)) _; rw [hg]; exact hk, by rw [hg]; exact hgood⟩⟩
theorem opens_good {α : Type} {d : Kd α} {t : TypeId} {good good' : α → Prop} (h : Opens P d t good) (hg : ∀ a, good a → good' a) : Opens P d t good' :=
 ⟨h.sz, fun h1 h2 => by
  obtain ⟨a, hk, hgood⟩ := h.read h1 h2
  exact ⟨a, hk, hg a hgood⟩⟩
theorem weightsEach_at {H : Type} : ∀ {ts : List TypeId} {ds : List (DataW H)} (j : Nat) {t : TypeId} {d : DataW H}, (DataW.weightsEach P ts ds).all (· ≤ reachBytes) = true → ts[j]? = some t → ds[j]? = some d → (DataW.weights P t d).all (· ≤ reachBytes) = true
 | [], _, j, t, d, _, h, _ => by simp at h
 | _ :: _, [], j, t, d, _, _, h => by simp at h
 | t0 :: ts, d0 :: ds, 0, t, d, h, h1, h2 => by
  rw [DataW.weightsEach, List.all_append, Bool.and_eq_true] at h
  simp only [List.getElem?_cons_zero, Option.some.injEq] at h1 h2
  subst h1 h2
  exact h.1
 | t0 :: ts, d0 :: ds, j + 1, t, d, h, h1, h2 => by
  rw [DataW.weightsEach, List.all_append, Bool.and_eq_true] at h
  exact weightsEach_at j h.2 (by simpa using h1) (by simpa using h2)
/-- An argument, read. -/
theorem Opens.arg {α : Type} {d : Kd α} {t : TypeId} {good : α → Prop} (o : Opens P d t good) {H : Type} {enc : TypeId × Value → H} {W : World} {base : Nat} {sp : Nat → Bool} {held : Bool} {v : Value} {x : DataW H} {ps : List MemPlace} {ts : List TypeId} {ds : List (DataW H)}
 (h : DataW.Trod enc P W base sp held t v x ps) (hsz : (DataW.weightsEach P ts ds).all (· ≤ reachBytes) = true) (j : Nat) (ht : ts[j]? = some t) (hd : ds[j]? = some x) : ∃ a, d.K W a v.cells.toList ∧ good a := by
 obtain ⟨n, hn⟩ := h
 exact o.read hn (weightsEach_at j hsz ht hd)
end
theorem list_value {α : Type} {d : Kd α} {W : World} {t : Nat} {l : List α} {a : Option Addr} {len cap : Nat} (h : (Kd.slice t d).K W l (Value.slice a len cap).cells.toList) : len = l.length ∧ l.length ≤ cap ∧ d.C W a l.length l := by
 obtain ⟨A, c, e, h1, h2⟩ := h
 simp [Value.cells] at e
 obtain ⟨rfl, rfl, rfl⟩ := e
 exact ⟨rfl, h1, h2⟩
end Go.Proofs.YtaldfbmjmpkmmaaGreat.Read
namespace Go.Proofs.YtaldfbmjmpkmmaaGreat.Mk
open Go.RowKit
theorem bytesLess_or_eq : ∀ (a b : List UInt8), (Op.bytesLess a b || a == b) = !Op.bytesLess b a
 | [], [] => by simp [Op.bytesLess]
 | [], b :: y => by simp [Op.bytesLess]
 | a :: x, [] => by simp [Op.bytesLess]
 | a :: x, b :: y => by
  have ih := bytesLess_or_eq x y
  simp only [Op.bytesLess]
  by_cases h : a = b
  ·subst h
   have h1 : decide (a < a) = false := by simp
   simp only [h1, Bool.false_or, beq_self_eq_true, Bool.true_and]
   rw [← ih]
   simp
  ·have h2 : (a == b) = false := by simpa using h
   have h3 : (b == a) = false := by simpa using fun e => h e.symm
   have h4 : (a :: x == b :: y) = false := by simp [h]
   rw [h2, h3, h4]
   simp only [Bool.false_and, Bool.or_false]
   by_cases h5 : a < b
   ·have h6 : ¬ b < a := by intro h7; exact absurd (UInt8.lt_trans h5 h7) (UInt8.lt_irrefl _)
    simp [h5, h6]
   ·have h6 : b < a := by
     rcases UInt8.lt_or_lt_of_ne h with h7 | h7
     ·exact absurd h7 h5
     ·exact h7
    simp [h5, h6]
theorem str_leq (t : TypeId) (a b : ByteArray) : binOp .leq t (.string a) (.string b) = pure (.bool (!(Op.bytesLess b.toList a.toList))) := by
 simp [binOp, Op.stringOp, bytesLess_or_eq]
theorem str_gtr (t : TypeId) (a b : ByteArray) : binOp .gtr t (.string a) (.string b) = pure (.bool (Op.bytesLess b.toList a.toList)) := by
 have h := bytesLess_or_eq a.toList b.toList
 simp only [binOp, Op.stringOp, h, Bool.not_not]
theorem str_geq (t : TypeId) (a b : ByteArray) : binOp .geq t (.string a) (.string b) = pure (.bool (!(Op.bytesLess a.toList b.toList))) := by
 simp [binOp, Op.stringOp]
end Go.Proofs.YtaldfbmjmpkmmaaGreat.Mk
namespace Go.Proofs.YtaldfbmjmpkmmaaGreat.PL
open Go.RowKit Go.Proofs.YtaldfbmjmpkmmaaGreatW.PrintWords Go.Proofs.YtaldfbmjmpkmmaaGreatW.PrintLast Go.Proofs.YtaldfbmjmpkmmaaGreatW.PrintMore
attribute [local go_sem] Mk.str_leq Mk.str_gtr Mk.str_geq max2_int min2_int max_two min_two max_three min_three max_four min_four   -- for this text's walks alone
set_option linter.unusedVariables false
set_option linter.unusedSimpArgs false



def errW : Option Int → Value
 | none => .nilIface
 | some c => .iface 0 (.int .i64 c)
theorem errW_none : errW none = .nilIface := rfl
theorem errW_some (c : Int) : errW (some c) = .iface 0 (.int .i64 c) := rfl

theorem info9 : (Tryz.prog.info? 9).map (fun i => (i.zero, i.size, i.bytes)) = some (some (.string ⟨#[]⟩), 1, 16) := by kernel_rfl
-- the values' own types
/-! #### struct type 57 -/
structure S57 where
 f0 : ByteArray
 f1 : ByteArray
 f2 : Bool
def z57 : S57 := ⟨(⟨#[]⟩ : ByteArray), (⟨#[]⟩ : ByteArray), false⟩
def k57 : Kd S57 := Kd.iso (Kd.pair Kd.string (Kd.pair Kd.string Kd.bool)) (fun x : S57 => (x.f0, x.f1, x.f2))
theorem k57_open {w : World} {x : S57} {cs : List Value} (h : k57.K w x cs) : cs = [.string x.f0, .string x.f1, .bool x.f2] := by
 obtain ⟨_, _, rfl, rfl, ⟨_, _, rfl, rfl, rfl⟩⟩ := h
 exact rfl
theorem k57_openM {w : World} {base : Nat} {ok : Nat → Prop} {x : S57} {cs : List Value} (h : k57.M w base ok x cs) : cs = [.string x.f0, .string x.f1, .bool x.f2] := by
 obtain ⟨_, _, rfl, rfl, ⟨_, _, rfl, rfl, rfl⟩⟩ := h
 exact rfl
theorem k57_mk (w : World) (x : S57)  : k57.K w x [.string x.f0, .string x.f1, .bool x.f2] := ⟨[.string x.f0], [.string x.f1, .bool x.f2], rfl, rfl, ⟨[.string x.f1], [.bool x.f2], rfl, rfl, rfl⟩⟩
theorem k57_mkM (w : World) (base : Nat) (ok : Nat → Prop) (x : S57)  : k57.M w base ok x [.string x.f0, .string x.f1, .bool x.f2] := ⟨[.string x.f0], [.string x.f1, .bool x.f2], rfl, rfl, ⟨[.string x.f1], [.bool x.f2], rfl, rfl, rfl⟩⟩
def rd_T57 (xs : List S57) (i : Int) : S57 := xs.getD i.toNat z57
theorem at_T57 {w : World} {A : Option Addr} {n : Nat} {xs : List S57} (h : Kd.C k57 w A n xs) (i : Int) (h0 : 0 ≤ i) (h1 : i < n) : ∃ ad , A = some ad ∧ w.cell? (ad.add (i.toNat * 3)) = some (.string (rd_T57 xs i).f0) ∧ w.cell? ⟨(ad.add (i.toNat * 3)).block, (ad.add (i.toNat * 3)).off + 1, none⟩ = some (.string (rd_T57 xs i).f1) ∧ w.cell? ⟨(ad.add (i.toNat * 3)).block, (ad.add (i.toNat * 3)).off + 2, none⟩ = some (.bool (rd_T57 xs i).f2) := by
 obtain ⟨ad, c, e, _, hK, hc0⟩ := Kd.C_get h z57 i h0 h1
 have hc : ∀ j u, c[j]? = some u → w.cell? (ad.add (i.toNat * 3 + j)) = some u := hc0
 obtain rfl := k57_open hK
 exact ⟨ad, e, hc 0 _ rfl, by rw [← add_field _ _ 1 (by omega)]; exact hc 1 _ rfl, by rw [← add_field _ _ 2 (by omega)]; exact hc 2 _ rfl⟩

/-! #### struct type 43 -/
structure S43 where
 f0 : Int
 f1 : ByteArray
 f2 : Bool
def z43 : S43 := ⟨(0 : Int), (⟨#[]⟩ : ByteArray), false⟩
def k43 : Kd S43 := Kd.iso (Kd.pair (Kd.int .i64) (Kd.pair Kd.string Kd.bool)) (fun x : S43 => (x.f0, x.f1, x.f2))
theorem k43_open {w : World} {x : S43} {cs : List Value} (h : k43.K w x cs) : cs = [.int .i64 x.f0, .string x.f1, .bool x.f2] := by
 obtain ⟨_, _, rfl, rfl, ⟨_, _, rfl, rfl, rfl⟩⟩ := h
 exact rfl
theorem k43_openM {w : World} {base : Nat} {ok : Nat → Prop} {x : S43} {cs : List Value} (h : k43.M w base ok x cs) : cs = [.int .i64 x.f0, .string x.f1, .bool x.f2] := by
 obtain ⟨_, _, rfl, rfl, ⟨_, _, rfl, rfl, rfl⟩⟩ := h
 exact rfl
theorem k43_mk (w : World) (x : S43)  : k43.K w x [.int .i64 x.f0, .string x.f1, .bool x.f2] := ⟨[.int .i64 x.f0], [.string x.f1, .bool x.f2], rfl, rfl, ⟨[.string x.f1], [.bool x.f2], rfl, rfl, rfl⟩⟩
theorem k43_mkM (w : World) (base : Nat) (ok : Nat → Prop) (x : S43)  : k43.M w base ok x [.int .i64 x.f0, .string x.f1, .bool x.f2] := ⟨[.int .i64 x.f0], [.string x.f1, .bool x.f2], rfl, rfl, ⟨[.string x.f1], [.bool x.f2], rfl, rfl, rfl⟩⟩
def rd_T43 (xs : List S43) (i : Int) : S43 := xs.getD i.toNat z43
theorem at_T43 {w : World} {A : Option Addr} {n : Nat} {xs : List S43} (h : Kd.C k43 w A n xs) (i : Int) (h0 : 0 ≤ i) (h1 : i < n) : ∃ ad , A = some ad ∧ w.cell? (ad.add (i.toNat * 3)) = some (.int .i64 (rd_T43 xs i).f0) ∧ w.cell? ⟨(ad.add (i.toNat * 3)).block, (ad.add (i.toNat * 3)).off + 1, none⟩ = some (.string (rd_T43 xs i).f1) ∧ w.cell? ⟨(ad.add (i.toNat * 3)).block, (ad.add (i.toNat * 3)).off + 2, none⟩ = some (.bool (rd_T43 xs i).f2) := by
 obtain ⟨ad, c, e, _, hK, hc0⟩ := Kd.C_get h z43 i h0 h1
 have hc : ∀ j u, c[j]? = some u → w.cell? (ad.add (i.toNat * 3 + j)) = some u := hc0
 obtain rfl := k43_open hK
 exact ⟨ad, e, hc 0 _ rfl, by rw [← add_field _ _ 1 (by omega)]; exact hc 1 _ rfl, by rw [← add_field _ _ 2 (by omega)]; exact hc 2 _ rfl⟩

def rd_L5 (xs : List (List ByteArray)) (i : Int) : (List ByteArray) := xs.getD i.toNat ([] : List ByteArray)
theorem at_L5 {w : World} {A : Option Addr} {n : Nat} {xs : List (List ByteArray)} (h : Kd.C (Kd.slice 9 Kd.string) w A n xs) (i : Int) (h0 : 0 ≤ i) (h1 : i < n) : ∃ ad A0 c0, A = some ad ∧ w.cell? (ad.add i.toNat) = some (.slice A0 (rd_L5 xs i).length c0) ∧ (rd_L5 xs i).length ≤ c0 ∧ Kd.string.C w A0 (rd_L5 xs i).length (rd_L5 xs i) := by
 obtain ⟨ad, c, e, _, hK, hc0⟩ := Kd.C_get h ([] : List ByteArray) i h0 h1
 have hc : ∀ j u, c[j]? = some u → w.cell? (ad.add (i.toNat * 1 + j)) = some u := hc0
 obtain ⟨A0, c0, rfl, l0, g0⟩ := hK
 exact ⟨ad, A0, c0, e, by have hq := hc 0 _ rfl; rwa [Nat.mul_one, Nat.add_zero] at hq, l0, g0⟩

def rd_L6 (xs : List (List S57)) (i : Int) : (List S57) := xs.getD i.toNat ([] : List S57)
theorem at_L6 {w : World} {A : Option Addr} {n : Nat} {xs : List (List S57)} (h : Kd.C (Kd.slice 57 k57) w A n xs) (i : Int) (h0 : 0 ≤ i) (h1 : i < n) : ∃ ad A0 c0, A = some ad ∧ w.cell? (ad.add i.toNat) = some (.slice A0 (rd_L6 xs i).length c0) ∧ (rd_L6 xs i).length ≤ c0 ∧ k57.C w A0 (rd_L6 xs i).length (rd_L6 xs i) := by
 obtain ⟨ad, c, e, _, hK, hc0⟩ := Kd.C_get h ([] : List S57) i h0 h1
 have hc : ∀ j u, c[j]? = some u → w.cell? (ad.add (i.toNat * 1 + j)) = some u := hc0
 obtain ⟨A0, c0, rfl, l0, g0⟩ := hK
 exact ⟨ad, A0, c0, e, by have hq := hc 0 _ rfl; rwa [Nat.mul_one, Nat.add_zero] at hq, l0, g0⟩

/-! #### struct type 26 -/
structure S26 where
 f0 : Int
 f1 : Int
 f2 : Int
 f3 : Int
 f4 : ByteArray
 f5 : ByteArray
 f6 : Bool
 f7 : (List ByteArray)
 f8 : (List S57)
def z26 : S26 := ⟨(0 : Int), (0 : Int), (0 : Int), (0 : Int), (⟨#[]⟩ : ByteArray), (⟨#[]⟩ : ByteArray), false, ([] : List ByteArray), ([] : List S57)⟩
def k26 : Kd S26 := Kd.iso (Kd.pair (Kd.int .i64) (Kd.pair (Kd.int .i64) (Kd.pair (Kd.int .i64) (Kd.pair (Kd.int .i64) (Kd.pair Kd.string (Kd.pair Kd.string (Kd.pair Kd.bool (Kd.pair (Kd.slice 9 Kd.string) (Kd.slice 57 k57))))))))) (fun x : S26 => (x.f0, x.f1, x.f2, x.f3, x.f4, x.f5, x.f6, x.f7, x.f8))
theorem k26_open {w : World} {x : S26} {cs : List Value} (h : k26.K w x cs) : ∃ A7 c7 A8 c8, cs = [.int .i64 x.f0, .int .i64 x.f1, .int .i64 x.f2, .int .i64 x.f3, .string x.f4, .string x.f5, .bool x.f6, .slice A7 x.f7.length c7, .slice A8 x.f8.length c8] ∧ x.f7.length ≤ c7 ∧ Kd.string.C w A7 x.f7.length x.f7 ∧ x.f8.length ≤ c8 ∧ k57.C w A8 x.f8.length x.f8 := by
 obtain ⟨_, _, rfl, rfl, ⟨_, _, rfl, rfl, ⟨_, _, rfl, rfl, ⟨_, _, rfl, rfl, ⟨_, _, rfl, rfl, ⟨_, _, rfl, rfl, ⟨_, _, rfl, rfl, ⟨_, _, rfl, ⟨A7, c7, rfl, l7, g7⟩, ⟨A8, c8, rfl, l8, g8⟩⟩⟩⟩⟩⟩⟩⟩⟩ := h
 exact ⟨A7, c7, A8, c8, rfl, l7, g7, l8, g8⟩
theorem k26_openM {w : World} {base : Nat} {ok : Nat → Prop} {x : S26} {cs : List Value} (h : k26.M w base ok x cs) : ∃ v7 v8, cs = [.int .i64 x.f0, .int .i64 x.f1, .int .i64 x.f2, .int .i64 x.f3, .string x.f4, .string x.f5, .bool x.f6, v7, v8] ∧ Kd.string.R 9 w base ok v7 x.f7 ∧ k57.R 57 w base ok v8 x.f8 := by
 obtain ⟨_, _, rfl, rfl, ⟨_, _, rfl, rfl, ⟨_, _, rfl, rfl, ⟨_, _, rfl, rfl, ⟨_, _, rfl, rfl, ⟨_, _, rfl, rfl, ⟨_, _, rfl, rfl, ⟨_, _, rfl, ⟨v7, rfl, g7⟩, ⟨v8, rfl, g8⟩⟩⟩⟩⟩⟩⟩⟩⟩ := h
 exact ⟨v7, v8, rfl, g7, g8⟩
theorem k26_mk (w : World) (x : S26) {A7 : Option Addr} {c7 : Nat} (l7 : x.f7.length ≤ c7) (g7 : Kd.string.C w A7 x.f7.length x.f7) {A8 : Option Addr} {c8 : Nat} (l8 : x.f8.length ≤ c8) (g8 : k57.C w A8 x.f8.length x.f8) : k26.K w x [.int .i64 x.f0, .int .i64 x.f1, .int .i64 x.f2, .int .i64 x.f3, .string x.f4, .string x.f5, .bool x.f6, .slice A7 x.f7.length c7, .slice A8 x.f8.length c8] := ⟨[.int .i64 x.f0], [.int .i64 x.f1, .int .i64 x.f2, .int .i64 x.f3, .string x.f4, .string x.f5, .bool x.f6, .slice A7 x.f7.length c7, .slice A8 x.f8.length c8], rfl, rfl, ⟨[.int .i64 x.f1], [.int .i64 x.f2, .int .i64 x.f3, .string x.f4, .string x.f5, .bool x.f6, .slice A7 x.f7.length c7, .slice A8 x.f8.length c8], rfl, rfl, ⟨[.int .i64 x.f2], [.int .i64 x.f3, .string x.f4, .string x.f5, .bool x.f6, .slice A7 x.f7.length c7, .slice A8 x.f8.length c8], rfl, rfl, ⟨[.int .i64 x.f3], [.string x.f4, .string x.f5, .bool x.f6, .slice A7 x.f7.length c7, .slice A8 x.f8.length c8], rfl, rfl, ⟨[.string x.f4], [.string x.f5, .bool x.f6, .slice A7 x.f7.length c7, .slice A8 x.f8.length c8], rfl, rfl, ⟨[.string x.f5], [.bool x.f6, .slice A7 x.f7.length c7, .slice A8 x.f8.length c8], rfl, rfl, ⟨[.bool x.f6], [.slice A7 x.f7.length c7, .slice A8 x.f8.length c8], rfl, rfl, ⟨[.slice A7 x.f7.length c7], [.slice A8 x.f8.length c8], rfl, ⟨A7, c7, rfl, l7, g7⟩, ⟨A8, c8, rfl, l8, g8⟩⟩⟩⟩⟩⟩⟩⟩⟩
theorem k26_mkM (w : World) (base : Nat) (ok : Nat → Prop) (x : S26) {v7 : Value} (g7 : Kd.string.R 9 w base ok v7 x.f7) {v8 : Value} (g8 : k57.R 57 w base ok v8 x.f8) : k26.M w base ok x [.int .i64 x.f0, .int .i64 x.f1, .int .i64 x.f2, .int .i64 x.f3, .string x.f4, .string x.f5, .bool x.f6, v7, v8] := ⟨[.int .i64 x.f0], [.int .i64 x.f1, .int .i64 x.f2, .int .i64 x.f3, .string x.f4, .string x.f5, .bool x.f6, v7, v8], rfl, rfl, ⟨[.int .i64 x.f1], [.int .i64 x.f2, .int .i64 x.f3, .string x.f4, .string x.f5, .bool x.f6, v7, v8], rfl, rfl, ⟨[.int .i64 x.f2], [.int .i64 x.f3, .string x.f4, .string x.f5, .bool x.f6, v7, v8], rfl, rfl, ⟨[.int .i64 x.f3], [.string x.f4, .string x.f5, .bool x.f6, v7, v8], rfl, rfl, ⟨[.string x.f4], [.string x.f5, .bool x.f6, v7, v8], rfl, rfl, ⟨[.string x.f5], [.bool x.f6, v7, v8], rfl, rfl, ⟨[.bool x.f6], [v7, v8], rfl, rfl, ⟨[v7], [v8], rfl, ⟨v7, rfl, g7⟩, ⟨v8, rfl, g8⟩⟩⟩⟩⟩⟩⟩⟩⟩
def rd_T26 (xs : List S26) (i : Int) : S26 := xs.getD i.toNat z26
theorem at_T26 {w : World} {A : Option Addr} {n : Nat} {xs : List S26} (h : Kd.C k26 w A n xs) (i : Int) (h0 : 0 ≤ i) (h1 : i < n) : ∃ ad A7 c7 A8 c8, A = some ad ∧ w.cell? (ad.add (i.toNat * 9)) = some (.int .i64 (rd_T26 xs i).f0) ∧ w.cell? ⟨(ad.add (i.toNat * 9)).block, (ad.add (i.toNat * 9)).off + 1, none⟩ = some (.int .i64 (rd_T26 xs i).f1) ∧ w.cell? ⟨(ad.add (i.toNat * 9)).block, (ad.add (i.toNat * 9)).off + 2, none⟩ = some (.int .i64 (rd_T26 xs i).f2) ∧ w.cell? ⟨(ad.add (i.toNat * 9)).block, (ad.add (i.toNat * 9)).off + 3, none⟩ = some (.int .i64 (rd_T26 xs i).f3) ∧ w.cell? ⟨(ad.add (i.toNat * 9)).block, (ad.add (i.toNat * 9)).off + 4, none⟩ = some (.string (rd_T26 xs i).f4) ∧ w.cell? ⟨(ad.add (i.toNat * 9)).block, (ad.add (i.toNat * 9)).off + 5, none⟩ = some (.string (rd_T26 xs i).f5) ∧ w.cell? ⟨(ad.add (i.toNat * 9)).block, (ad.add (i.toNat * 9)).off + 6, none⟩ = some (.bool (rd_T26 xs i).f6) ∧ w.cell? ⟨(ad.add (i.toNat * 9)).block, (ad.add (i.toNat * 9)).off + 7, none⟩ = some (.slice A7 (rd_T26 xs i).f7.length c7) ∧ w.cell? ⟨(ad.add (i.toNat * 9)).block, (ad.add (i.toNat * 9)).off + 8, none⟩ = some (.slice A8 (rd_T26 xs i).f8.length c8) ∧ (rd_T26 xs i).f7.length ≤ c7 ∧ Kd.string.C w A7 (rd_T26 xs i).f7.length (rd_T26 xs i).f7 ∧ (rd_T26 xs i).f8.length ≤ c8 ∧ k57.C w A8 (rd_T26 xs i).f8.length (rd_T26 xs i).f8 := by
 obtain ⟨ad, c, e, _, hK, hc0⟩ := Kd.C_get h z26 i h0 h1
 have hc : ∀ j u, c[j]? = some u → w.cell? (ad.add (i.toNat * 9 + j)) = some u := hc0
 obtain ⟨A7, c7, A8, c8, rfl, l7, g7, l8, g8⟩ := k26_open hK
 exact ⟨ad, A7, c7, A8, c8, e, hc 0 _ rfl, by rw [← add_field _ _ 1 (by omega)]; exact hc 1 _ rfl, by rw [← add_field _ _ 2 (by omega)]; exact hc 2 _ rfl, by rw [← add_field _ _ 3 (by omega)]; exact hc 3 _ rfl, by rw [← add_field _ _ 4 (by omega)]; exact hc 4 _ rfl, by rw [← add_field _ _ 5 (by omega)]; exact hc 5 _ rfl, by rw [← add_field _ _ 6 (by omega)]; exact hc 6 _ rfl, by rw [← add_field _ _ 7 (by omega)]; exact hc 7 _ rfl, by rw [← add_field _ _ 8 (by omega)]; exact hc 8 _ rfl, l7, g7, l8, g8⟩

end Go.Proofs.YtaldfbmjmpkmmaaGreat.PL
namespace Go.Proofs.YtaldfbmjmpkmmaaGreat.PL
open Go.RowKit Go.Proofs.YtaldfbmjmpkmmaaGreatW.PrintWords Go.Proofs.YtaldfbmjmpkmmaaGreat.Read
set_option linter.unusedVariables false
set_option maxRecDepth 100000
instance : Inhabited S57 := ⟨⟨⟨#[]⟩, ⟨#[]⟩, false⟩⟩
def okRec (r : S26) : Prop := r.f7.length * 16 ≤ 140737488351232 ∧ r.f8.length * 40 ≤ 140737488351232
theorem open62 : Opens Tryz.prog k57 57 (fun _ => True) :=
 opens_good (opens_iso (fun x => (⟨x.1, x.2.1, x.2.2⟩ : S57)) (fun _ => rfl)
  (opens_struct Tryz.underlying57 (by kernel_rfl) (parts_cons rfl (opens_string Tryz.underlying9 (by kernel_rfl)) (parts_cons rfl (opens_string Tryz.underlying9 (by kernel_rfl)) (parts_one rfl (opens_bool Tryz.underlying4 (by kernel_rfl))))))) (fun _ _ => trivial)
theorem openI : Opens Tryz.prog (Kd.int .i64) 3 (fun _ => True) := opens_good (opens_int Tryz.underlying3 (by kernel_rfl)) (fun _ _ => trivial)
theorem openS : Opens Tryz.prog Kd.string 9 (fun _ => True) := opens_good (opens_string Tryz.underlying9 (by kernel_rfl)) (fun _ _ => trivial)
theorem openB : Opens Tryz.prog Kd.bool 4 (fun _ => True) := opens_bool Tryz.underlying4 (by kernel_rfl)
theorem open22 : Opens Tryz.prog (Kd.slice 9 Kd.string) 23 (fun l => l.length * 16 ≤ 140737488351232) := opens_good (opens_slice Tryz.underlying23 (by kernel_rfl) (by kernel_rfl) openS) (fun _ h => h.1)
theorem open23 : Opens Tryz.prog (Kd.slice 57 k57) 24 (fun l => l.length * 40 ≤ 140737488351232) := opens_good (opens_slice Tryz.underlying24 (by kernel_rfl) (by kernel_rfl) open62) (fun _ h => h.1)
theorem open25 : Opens Tryz.prog k26 26 okRec :=
 opens_good (opens_iso (fun x => (⟨x.1, x.2.1, x.2.2.1, x.2.2.2.1, x.2.2.2.2.1, x.2.2.2.2.2.1, x.2.2.2.2.2.2.1, x.2.2.2.2.2.2.2.1, x.2.2.2.2.2.2.2.2⟩ : S26)) (fun _ => rfl)
  (opens_struct Tryz.underlying26 (by kernel_rfl) (parts_cons rfl openI (parts_cons rfl openI (parts_cons rfl openI (parts_cons rfl openI (parts_cons rfl openS (parts_cons rfl openS (parts_cons rfl openB (parts_cons rfl open22 (parts_one rfl open23)))))))))))
  (fun _ h => ⟨h.2.2.2.2.2.2.2.1, h.2.2.2.2.2.2.2.2⟩)
instance : Inhabited S26 := ⟨⟨0, 0, 0, 0, ⟨#[]⟩, ⟨#[]⟩, false, [], []⟩⟩
theorem open31 : Opens Tryz.prog (Kd.slice 26 k26) 22 (fun l => l.length * 120 ≤ 140737488351232 ∧ ∀ r, r ∈ l → okRec r) := opens_slice Tryz.underlying22 (by kernel_rfl) (by kernel_rfl) open25
/-- A record's value, from its cells. -/
theorem rec_value {W : World} {r : S26} {v : Value} (h : k26.K W r v.cells.toList) : ∃ A7 c7 A8 c8, v = .agg #[.int .i64 r.f0, .int .i64 r.f1, .int .i64 r.f2, .int .i64 r.f3, .string r.f4, .string r.f5, .bool r.f6, .slice A7 r.f7.length c7, .slice A8 r.f8.length c8] ∧
 r.f7.length ≤ c7 ∧ Kd.string.C W A7 r.f7.length r.f7 ∧ r.f8.length ≤ c8 ∧ k57.C W A8 r.f8.length r.f8 := by
 obtain ⟨A7, c7, A8, c8, e, h1, h2, h3, h4⟩ := k26_open h
 refine ⟨A7, c7, A8, c8, ?_, h1, h2, h3, h4⟩
 cases v <;> simp [Value.cells] at e
 rename_i cs
 congr 1
 exact Array.toList_inj.1 (by simpa using e)
theorem list_value {α : Type} {d : Kd α} {W : World} {t : Nat} {l : List α} {a : Option Addr} {len cap : Nat} (h : (Kd.slice t d).K W l (Value.slice a len cap).cells.toList) : len = l.length ∧ l.length ≤ cap ∧ d.C W a l.length l := by
 obtain ⟨A, c, e, h1, h2⟩ := h
 simp [Value.cells] at e
 obtain ⟨rfl, rfl, rfl⟩ := e
 exact ⟨rfl, h1, h2⟩
/-- A box with a record in it, cell by cell. -/
theorem rec_cells {w : World} {g : Nat} {t : Nat} {v0 v1 v2 v3 v4 v5 v6 v7 v8 : Value} (h : w.heap[g]? = some (.cells #[v0, v1, v2, v3, v4, v5, v6, v7, v8] t (0, 0))) :
 w.cell? ⟨g, 0, none⟩ = some v0 ∧ w.cell? ⟨g, 1, none⟩ = some v1 ∧ w.cell? ⟨g, 2, none⟩ = some v2 ∧ w.cell? ⟨g, 3, none⟩ = some v3 ∧ w.cell? ⟨g, 4, none⟩ = some v4 ∧ w.cell? ⟨g, 5, none⟩ = some v5 ∧ w.cell? ⟨g, 6, none⟩ = some v6 ∧
 w.cell? ⟨g, 7, none⟩ = some v7 ∧ w.cell? ⟨g, 8, none⟩ = some v8 :=
 ⟨(blk_cell h 0).trans rfl, (blk_cell h 1).trans rfl, (blk_cell h 2).trans rfl, (blk_cell h 3).trans rfl, (blk_cell h 4).trans rfl, (blk_cell h 5).trans rfl, (blk_cell h 6).trans rfl, (blk_cell h 7).trans rfl, (blk_cell h 8).trans rfl⟩
end Go.Proofs.YtaldfbmjmpkmmaaGreat.PL
namespace Go.Proofs.YtaldfbmjmpkmmaaGreat.PL
open Go.RowKit Go.Proofs.YtaldfbmjmpkmmaaGreatW.PrintWords Go.Proofs.YtaldfbmjmpkmmaaGreatW.PrintLast Go.Proofs.YtaldfbmjmpkmmaaGreatW.PrintMore
attribute [local go_sem] Mk.str_leq Mk.str_gtr Mk.str_geq max2_int min2_int max_two min_two max_three min_three max_four min_four   -- for this text's walks alone
set_option linter.unusedVariables false
set_option linter.unusedSimpArgs false

/-! ### letter_Key: function 72 -/
def letter_Key.f (a0 : ByteArray) : Option (Bool) := if a0.toList = ([] : List UInt8) then (some false) else (some (decide ((a0.size : Int) ≤ 32)))
set_option maxHeartbeats 8000000 in
set_option maxRecDepth 100000 in
theorem letter_Key.calls (a0 : ByteArray) (r : Bool) (w : World) (h : letter_Key.f a0 = some r) :
 Calls Tryz.prog 72 #[.string a0] w fun e w' => e = .returned (.bool r) ∧ Drawn0 w w' := by
 have H : (if a0.toList = ([] : List UInt8) then (some false) else (some (decide ((a0.size : Int) ≤ 32)))) = some r := h
 clear h
 by_cases c2 : a0.toList = ([] : List UInt8)
 ·rw [if_pos c2] at H
  have c2b0 : (a0.toList == ([] : List UInt8)) = true := beq_iff_eq.mpr c2
  have c2b1 : (a0.toList != ([] : List UInt8)) = false := bne_eq_false_iff_eq.mpr c2
  clear c2
  obtain rfl := Option.some.inj H
  go_enter Tryz.func72, Tryz.ntmps72
  go_wp2
  go_ret
  exact ⟨by first | rfl | (simp; done) | (simp [*]; done), by repeat (first | exact Drawn0.refl _ | apply Drawn0.step)⟩
 ·rw [if_neg c2] at H
  have c2b0 : (a0.toList == ([] : List UInt8)) = false := beq_eq_false_iff_ne.mpr c2
  have c2b1 : (a0.toList != ([] : List UInt8)) = true := bne_iff_ne.mpr c2
  obtain rfl := Option.some.inj H
  go_enter Tryz.func72, Tryz.ntmps72
  go_wp2
  go_ret
  exact ⟨by first | rfl | (simp; done) | (simp [*]; done), by repeat (first | exact Drawn0.refl _ | apply Drawn0.step)⟩

end Go.Proofs.YtaldfbmjmpkmmaaGreat.PL
