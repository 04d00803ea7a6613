/- How an argument of a law is read: what a row's reading says, as a kind of the printed words, with the sizes that the row allows. -/
import Derived.Test.YtaldfbmjmpkmmaaW
import Derived.Deep.Slices
import Derived.ChangeSame
import Derived.SizedLaws
namespace Go.Proofs.Ytaldfbmjmpkmmaa.Read
open Go.RowKit Go.Proofs.YtaldfbmjmpkmmaaW.PrintWords
set_option linter.unusedVariables false

/-- Type t reads as kind d; what is read is good. -/
structure Opens {α : Type} (P : Program) (d : Kd α) (t : TypeId) (good : α → Prop) : Prop where
 sz : P.cellsOf t = d.sz
 read : ∀ {H : Type} {enc : TypeId × Value → H} {W : World} {base : Nat} {sp : Nat → Bool} {held : Bool} {fuel : Nat} {cs : List Value} {x : DataW H × List MemPlace},
  DataW.trod enc P W base sp held fuel t cs = some x → (DataW.weights P t x.1).all (· ≤ reachBytes) = true → ∃ a, d.K W a cs ∧ good a
section
variable {P : Program}
theorem opens_int {t : TypeId} {k : IntKind} (ht : P.underlying t = some (.int k)) (hc : P.cellsOf t = 1) : Opens P (Kd.int k) t (fun a => (Lit.int k a).wf = true) := by
 refine ⟨hc, fun {H enc W base sp held fuel cs x} h hs => ?_⟩
 cases fuel with
 | zero => cases h
 | succ n =>
  unfold DataW.trod at h
  rw [ht] at h
  split at h <;> first | cases h | skip
  all_goals first | (simp_all; done) | skip
  rename_i k0 k' m e1
  cases e1
  split at h
  ·rename_i hk
   obtain ⟨rfl, hw⟩ := hk
   exact ⟨m, rfl, hw⟩
  ·cases h
theorem opens_bool {t : TypeId} (ht : P.underlying t = some .bool) (hc : P.cellsOf t = 1) : Opens P Kd.bool t (fun _ => True) := by
 refine ⟨hc, fun {H enc W base sp held fuel cs x} h hs => ?_⟩
 cases fuel with
 | zero => cases h
 | succ n =>
  unfold DataW.trod at h
  rw [ht] at h
  split at h <;> first | cases h | skip
  all_goals first | (simp_all; done) | skip
  exact ⟨_, rfl, trivial⟩
theorem opens_string {t : TypeId} (ht : P.underlying t = some .string) (hc : P.cellsOf t = 1) : Opens P Kd.string t (fun a => a.size ≤ 140737488351232) := by
 refine ⟨hc, fun {H enc W base sp held fuel cs x} h hs => ?_⟩
 cases fuel with
 | zero => cases h
 | succ n =>
  unfold DataW.trod at h
  rw [ht] at h
  split at h <;> first | cases h | skip
  all_goals first | (simp_all; done) | skip
  split at h
  ·cases h
   refine ⟨_, rfl, ?_⟩
   simp only [DataW.weights, List.all_cons, Bool.and_eq_true, decide_eq_true_eq] at hs
   have := hs.1
   rwa [Array.length_toList] at this
  ·cases h
theorem weightsAll_mem {H : Type} {e : TypeId} : ∀ {l : List (DataW H)}, (DataW.weightsAll P e l).all (· ≤ reachBytes) = true → ∀ d, d ∈ l → (DataW.weights P e d).all (· ≤ reachBytes) = true
 | [], _, d, hd => by cases hd
 | a :: r, h, d, hd => by
  rw [DataW.weightsAll, List.all_append, Bool.and_eq_true] at h
  rcases List.mem_cons.1 hd with rfl | hd
  ·exact h.1
  ·exact weightsAll_mem h.2 d hd
/-- A slice of what opens: no longer than the row's weight allows. -/
theorem opens_slice {α : Type} [Inhabited α] {d : Kd α} {t e : TypeId} {good : α → Prop} {B : Nat} (ht : P.underlying t = some (.slice e)) (hc : P.cellsOf t = 1) (hB : P.bytesOf e = B) (hd : Opens P d e good) :
 Opens P (Kd.slice e d) t (fun l => l.length * B ≤ 140737488351232 ∧ ∀ a, a ∈ l → good a) := by
 refine ⟨hc, fun {H enc W base sp held fuel cs x} h hs => ?_⟩
 rcases Deep.open_slice ht h with ⟨rfl, rfl⟩ | ⟨a, len, cap, m, n, D, Pl, rfl, hb, hl, hm, hmm, rfl, hx⟩
 ·exact ⟨[], ⟨none, 0, rfl, Nat.le_refl _, Kd.C_nil d W⟩, by simp, fun _ h => by cases h⟩
 ·have hlm : len ≤ m := by rw [hmm]; split <;> omega
  simp only [DataW.weights, ht, List.all_cons, List.all_append, Bool.and_eq_true, decide_eq_true_eq, List.length_map, List.length_range] at hs
  obtain ⟨hw, hs1, hs2⟩ := hs
  obtain ⟨F, hF⟩ := Deep.choose_lt (α := α) (n := len) (p := fun i f => good f ∧ ∃ cs', W.cells? base (a.add (i * P.cellsOf e)) (P.cellsOf e) = some cs' ∧ d.K W f cs') (fun i hi => by
   obtain ⟨cs', h1, h2⟩ := hx i (Nat.lt_of_lt_of_le hi hlm)
   obtain ⟨f, hk, hg⟩ := hd.read h2 (weightsAll_mem hs1 _ (List.mem_map.2 ⟨i, List.mem_range.2 hi, rfl⟩))
   exact ⟨f, hg, cs', h1, hk⟩)
  have hmx : cap ≤ 9223372036854775807 := Nat.le_trans hm (by decide)
  refine ⟨(List.range len).map F, ⟨some a, cap, by simp, by simpa using hl, by simp, by simp; omega, fun _ => ⟨a, rfl, fun j p hj => ?_⟩⟩, ?_, fun b hb' => ?_⟩
  ·have hjl : j < len := by
    have := List.getElem?_eq_some_iff.1 hj
    obtain ⟨hj', _⟩ := this
    simpa using hj'
   obtain rfl : F j = p := by simpa [hjl] using hj
   obtain ⟨hg, cs', h1, hk⟩ := hF j hjl
   refine ⟨cs', d.K_len hk, hk, fun i u hu => ?_⟩
   obtain ⟨_, hl', hcell⟩ := World.cells?_some h1
   have hi : i < cs'.length := (List.getElem?_eq_some_iff.1 hu).1
   have := hcell i (by omega)
   rw [hu] at this
   rw [← hd.sz, ← Addr.add_add]
   exact this
  ·rw [hB] at hw
   have h2 : len + (m - len) = m := by omega
   rw [h2] at hw
   have h3 : len * B ≤ m * B := Nat.mul_le_mul_right _ hlm
   have h4 : len * B ≤ 140737488351232 := Nat.le_trans h3 hw
   simpa using h4
  ·obtain ⟨i, hi, rfl⟩ := List.mem_map.1 hb'
   exact (hF i (List.mem_range.1 hi)).1
/-- Fields, one behind the other, from cell o on. -/
def Parts {α : Type} (P : Program) (d : Kd α) (fs : List Field) (o : Nat) (good : α → Prop) : Prop :=
 ∀ {H : Type} {enc : TypeId × Value → H} {W : World} {base : Nat} {sp : Nat → Bool} {held : Bool} {fuel : Nat} {cs : List Value} {xs : List (DataW H × List MemPlace)},
  fs.mapM (fun f => DataW.trod enc P W base sp held fuel f.type ((cs.drop f.offset).take (P.cellsOf f.type))) = some xs →
  (DataW.weightsEach P (fs.map (·.type)) (xs.map (·.1))).all (· ≤ reachBytes) = true → cs.length = o + d.sz → ∃ a, d.K W a (cs.drop o) ∧ good a
theorem parts_one {α : Type} {d : Kd α} {f : Field} {o : Nat} {good : α → Prop} (ho : f.offset = o) (hd : Opens P d f.type good) : Parts P d [f] o good := by
 intro H enc W base sp held fuel cs xs h hs hl
 rw [List.mapM_cons, Option.bind_eq_bind, Option.bind_eq_some_iff] at h
 obtain ⟨y, hy, h⟩ := h
 simp only [List.mapM_nil, Option.pure_def, Option.bind_eq_bind, Option.bind_some, Option.some.injEq] at h
 subst h
 rw [ho, hd.sz, List.take_of_length_le (by rw [List.length_drop]; omega)] at hy
 simp only [List.map_cons, List.map_nil, DataW.weightsEach, List.append_nil] at hs
 exact hd.read hy hs
theorem parts_cons {α β : Type} {a : Kd α} {b : Kd β} {f : Field} {fs : List Field} {o : Nat} {ga : α → Prop} {gb : β → Prop} (ho : f.offset = o) (ha : Opens P a f.type ga) (hb : Parts P b fs (o + a.sz) gb) :
 Parts P (Kd.pair a b) (f :: fs) o (fun x => ga x.1 ∧ gb x.2) := by
 intro H enc W base sp held fuel cs xs h hs hl
 rw [List.mapM_cons, Option.bind_eq_bind, Option.bind_eq_some_iff] at h
 obtain ⟨y, hy, h⟩ := h
 rw [Option.bind_eq_bind, Option.bind_eq_some_iff] at h
 obtain ⟨ys, hys, h⟩ := h
 simp only [Option.pure_def, Option.some.injEq] at h
 subst h
 simp only [List.map_cons, DataW.weightsEach, List.all_append, Bool.and_eq_true] at hs
 have hl' : cs.length = o + (a.sz + b.sz) := hl
 rw [ho, ha.sz] at hy
 obtain ⟨x, hx, gx⟩ := ha.read hy hs.1
 obtain ⟨z, hz, gz⟩ := hb hys hs.2 (by omega)
 refine ⟨(x, z), ⟨_, _, ?_, hx, hz⟩, gx, gz⟩
 rw [← List.drop_drop, List.take_append_drop]
theorem opens_struct {α : Type} {d : Kd α} {t : TypeId} {fs : Array Field} {good : α → Prop} (ht : P.underlying t = some (.struct fs)) (hc : P.cellsOf t = d.sz) (hp : Parts P d fs.toList 0 good) : Opens P d t good := by
 refine ⟨hc, fun {H enc W base sp held fuel cs x} h hs => ?_⟩
 cases fuel with
 | zero => cases h
 | succ n =>
  unfold DataW.trod at h
  rw [ht] at h
  split at h <;> first | cases h | skip
  all_goals first | (simp_all; done) | skip
  rename_i fs' cs' e1
  cases e1
  split at h
  ·rename_i hl
   rw [Option.map_eq_some_iff] at h
   obtain ⟨xs, hxs, rfl⟩ := h
   simp only [DataW.weights, ht] at hs
   have := hp hxs hs (by rw [hl, hc]; omega)
   simpa using this
  ·cases h
theorem opens_iso {α β : Type} {d : Kd α} {f : β → α} {t : TypeId} {good : α → Prop} (g : α → β) (hg : ∀ a, f (g a) = a) (h : Opens P d t good) : Opens P (Kd.iso d f) t (fun b => good (f b)) :=
 ⟨h.sz, fun h1 h2 => by
  obtain ⟨a, hk, hgood⟩ := h.read h1 h2
  exact ⟨g a, by show d.K _ (f (g a)) _; rw [hg]; exact hk, by rw [hg]; exact hgood⟩⟩
theorem opens_good {α : Type} {d : Kd α} {t : TypeId} {good good' : α → Prop} (h : Opens P d t good) (hg : ∀ a, good a → good' a) : Opens P d t good' :=
 ⟨h.sz, fun h1 h2 => by
  obtain ⟨a, hk, hgood⟩ := h.read h1 h2
  exact ⟨a, hk, hg a hgood⟩⟩
theorem weightsEach_at {H : Type} : ∀ {ts : List TypeId} {ds : List (DataW H)} (j : Nat) {t : TypeId} {d : DataW H}, (DataW.weightsEach P ts ds).all (· ≤ reachBytes) = true → ts[j]? = some t → ds[j]? = some d → (DataW.weights P t d).all (· ≤ reachBytes) = true
 | [], _, j, t, d, _, h, _ => by simp at h
 | _ :: _, [], j, t, d, _, _, h => by simp at h
 | t0 :: ts, d0 :: ds, 0, t, d, h, h1, h2 => by
  rw [DataW.weightsEach, List.all_append, Bool.and_eq_true] at h
  simp only [List.getElem?_cons_zero, Option.some.injEq] at h1 h2
  subst h1 h2
  exact h.1
 | t0 :: ts, d0 :: ds, j + 1, t, d, h, h1, h2 => by
  rw [DataW.weightsEach, List.all_append, Bool.and_eq_true] at h
  exact weightsEach_at j h.2 (by simpa using h1) (by simpa using h2)
/-- An argument, read. -/
theorem Opens.arg {α : Type} {d : Kd α} {t : TypeId} {good : α → Prop} (o : Opens P d t good) {H : Type} {enc : TypeId × Value → H} {W : World} {base : Nat} {sp : Nat → Bool} {held : Bool} {v : Value} {x : DataW H} {ps : List MemPlace} {ts : List TypeId} {ds : List (DataW H)}
 (h : DataW.Trod enc P W base sp held t v x ps) (hsz : (DataW.weightsEach P ts ds).all (· ≤ reachBytes) = true) (j : Nat) (ht : ts[j]? = some t) (hd : ds[j]? = some x) : ∃ a, d.K W a v.cells.toList ∧ good a := by
 obtain ⟨n, hn⟩ := h
 exact o.read hn (weightsEach_at j hsz ht hd)
end
theorem list_value {α : Type} {d : Kd α} {W : World} {t : Nat} {l : List α} {a : Option Addr} {len cap : Nat} (h : (Kd.slice t d).K W l (Value.slice a len cap).cells.toList) : len = l.length ∧ l.length ≤ cap ∧ d.C W a l.length l := by
 obtain ⟨A, c, e, h1, h2⟩ := h
 simp [Value.cells] at e
 obtain ⟨rfl, rfl, rfl⟩ := e
 exact ⟨rfl, h1, h2⟩
end Go.Proofs.Ytaldfbmjmpkmmaa.Read
