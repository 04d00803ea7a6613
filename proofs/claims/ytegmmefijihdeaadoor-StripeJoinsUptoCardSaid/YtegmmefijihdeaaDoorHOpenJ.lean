/- How a list of texts is read, with its bulk. -/
import Derived.Test.YtegmmefijihdeaaDoorHOpenS
import Derived.Test.YtegmmefijihdeaaDoorHJoin
import Derived.Test.YtegmmefijihdeaaDoorRows
namespace Go.Proofs.YtegmmefijihdeaaDoor.Read
open Go.RowKit Go.Proofs.YtegmmefijihdeaaDoorW.PrintWords Go.Proofs.YtegmmefijihdeaaDoor.PS
open Go.Proofs.YtegmmefijihdeaaDoor (Rows.uptoBulk Rows.uptoBulkAll)
set_option linter.unusedVariables false
theorem read_str {P : Program} {t : TypeId} (ht : P.underlying t = some .string) {H : Type} {enc : TypeId × Value → H} {W : World} {base : Nat} {sp : Nat → Bool} {held : Bool} {fuel : Nat} {cs : List Value} {x : DataW H × List MemPlace}
    (h : DataW.trod enc P W base sp held fuel t cs = some x) : ∃ a : ByteArray, Kd.string.K W a cs ∧ Rows.uptoBulk x.1 = a.data.toList.length + 1 := by
  cases fuel with
  | zero => cases h
  | succ n =>
    unfold DataW.trod at h
    rw [ht] at h
    split at h <;> first | cases h | skip
    all_goals first | (simp_all; done) | skip
    split at h
    · cases h
      refine ⟨_, rfl, ?_⟩
      simp only [Rows.uptoBulk]
    · cases h
theorem bulk_map {H : Type} (D : Nat → DataW H) (F : Nat → ByteArray) : ∀ is : List Nat, (∀ i, i ∈ is → Rows.uptoBulk (D i) = (F i).data.toList.length + 1) → Rows.uptoBulkAll (is.map D) = (flat (is.map F)).length + is.length
  | [], _ => by simp [Rows.uptoBulkAll, flat]
  | i :: is, h => by
    have h1 := h i List.mem_cons_self
    have h2 := bulk_map D F is (fun j hj => h j (List.mem_cons_of_mem _ hj))
    have h3 : flat ((i :: is).map F) = (F i).data.toList ++ flat (is.map F) := by unfold flat; simp
    rw [h3, List.length_append, List.length_cons]
    simp only [List.map_cons, Rows.uptoBulkAll]
    omega
theorem texts_read {H : Type} {enc : TypeId × Value → H} {W : World} {base : Nat} {sp : Nat → Bool} {held : Bool} {fuel : Nat} {cs : List Value} {x : DataW H × List MemPlace}
    (h : DataW.trod enc Tryd.prog W base sp held fuel 25 cs = some x) : ∃ l, (Kd.slice 9 Kd.string).K W l cs ∧ (flat l).length + l.length ≤ Rows.uptoBulk x.1 := by
  rcases Deep.open_slice Tryd.underlying25 h with ⟨rfl, rfl⟩ | ⟨a, len, cap, m, n, D, Pl, rfl, hb, hl, hm, hmm, rfl, hx⟩
  · exact ⟨[], ⟨none, 0, rfl, Nat.le_refl _, Kd.C_nil Kd.string W⟩, by simp [flat]⟩
  · have hlm : len ≤ m := by rw [hmm]; split <;> omega
    obtain ⟨F, hF⟩ := Deep.choose_lt (α := ByteArray) (n := len) (p := fun i f => Rows.uptoBulk (D i) = f.data.toList.length + 1 ∧ ∃ cs', W.cells? base (a.add (i * Tryd.prog.cellsOf 9)) (Tryd.prog.cellsOf 9) = some cs' ∧ Kd.string.K W f cs') (fun i hi => by
      obtain ⟨cs', h1, h2⟩ := hx i (Nat.lt_of_lt_of_le hi hlm)
      obtain ⟨f, hk, hg⟩ := read_str Tryd.underlying9 h2
      exact ⟨f, hg, cs', h1, hk⟩)
    have hmx : cap ≤ 9223372036854775807 := Nat.le_trans hm (by decide)
    refine ⟨(List.range len).map F, ⟨some a, cap, by simp, by simpa using hl, by simp, by simp; omega, fun _ => ⟨a, rfl, fun j p hj => ?_⟩⟩, ?_⟩
    · have hjl : j < len := by
        have := List.getElem?_eq_some_iff.1 hj
        obtain ⟨hj', _⟩ := this
        simpa using hj'
      obtain rfl : F j = p := by simpa [hjl] using hj
      obtain ⟨hg, cs', h1, hk⟩ := hF j hjl
      refine ⟨cs', Kd.string.K_len hk, hk, fun i u hu => ?_⟩
      obtain ⟨_, hl', hcell⟩ := World.cells?_some h1
      have hi : i < cs'.length := (List.getElem?_eq_some_iff.1 hu).1
      have := hcell i (by omega)
      rw [hu] at this
      rw [← openStr.sz, ← Addr.add_add]
      exact this
    · have e := bulk_map D F (List.range len) (fun i hi => (hF i (List.mem_range.1 hi)).1)
      simp only [Rows.uptoBulk]
      rw [e, List.length_map]
      omega
theorem openTextsU.arg {H : Type} {enc : TypeId × Value → H} {W : World} {base : Nat} {sp : Nat → Bool} {held : Bool} {v : Value} {x : DataW H} {ps : List MemPlace} {ts : List TypeId} {ds : List (DataW H)}
    (h : DataW.Trod enc Tryd.prog W base sp held 25 v x ps) (_ : (DataW.weightsEach Tryd.prog ts ds).all (· ≤ reachBytes) = true) (j : Nat) (_ : ts[j]? = some 25) (_ : ds[j]? = some x) : ∃ l, (Kd.slice 9 Kd.string).K W l v.cells.toList ∧ (flat l).length + l.length ≤ Rows.uptoBulk x := by
  obtain ⟨n, hn⟩ := h
  exact texts_read hn
theorem bulk_one {H : Type} {d : DataW H} (h : Rows.uptoSmall H ([d] ++ []) = true) : Rows.uptoBulk d ≤ 1048576 := by
  have := of_decide_eq_true h
  simp only [List.append_nil, Rows.uptoBulkAll] at this
  omega
end Go.Proofs.YtegmmefijihdeaaDoor.Read
