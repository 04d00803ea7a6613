/- A store at a key that is there, while the map is ranged over; maps keyed by whole numbers with plain values, told as functions; ranges over maps with plain values. -/
import Derived.Test.YtaldfbmjmpkmmaaHMapV
import Derived.Maps.Range
import Derived.Maps.RangeWalk
namespace Go.Proofs.Ytaldfbmjmpkmmaa.Mk
open Go.RowKit Go.Maps Go.WideMaps Go.ChangeMaps Go.MapKept Go.WideShapes
open Go.WideElems (Fit rd rg pl rd_key rd_val rg_of other_key rd_mk)
open Go.Maps (Keyed)
set_option linter.unusedVariables false
set_option linter.unusedSectionVars false
section
variable {H : Type} {P : Program} {k : TypeId} {R : Value → Option (DataW H × List MemPlace)} {w : World} {b r n : Nat} {D : DataW H} {left : Lit → Bool} {cnt : Nat}
theorem born_modify (es : Array MapEntry) (j : Nat) (key val : Value) : (es.modify j (fun e' => { e' with key := key, val := val })).toList.map (·.born) = es.toList.map (·.born) := by
 apply List.ext_getElem?
 intro i
 rw [List.getElem?_map, List.getElem?_map, Array.getElem?_toList, Array.getElem?_toList, Array.getElem?_modify]
 by_cases h : j = i
 ·rw [if_pos h, Option.map_map]
  rfl
 ·rw [if_neg h]
theorem left_len (es : Array MapEntry) (seen : Array Nat) : (leftOf es seen).size = ((es.toList.map (·.born)).filter fun b => !seen.contains b).length := by
 unfold leftOf
 rw [← Array.length_toList, Array.toList_filter, List.filter_map, List.length_map]
 rfl
/-- 'm[k] = v' in the round, at a key that is there. -/
theorem ranges_put (h : w.ranges P k R b r n D left cnt) (K : Keyed P k) {t e : TypeId} (ht : P.underlying t = some (.map k e)) (hn : n < maxLen) {key val : Value} {kl : Lit} {d : DataW H} {ps : List MemPlace}
 (hkey : keyOf P k key = some kl) (hv : R val = some (d, ps)) (hhas : Maps.has D kl = true) :
 ∃ w', (Instr.mapUpdate t (.map (some b)) key val).run P w = .ok () w' ∧ w'.ranges P k R b r n (D.put kl d) left cnt ∧ w.grownBy w' (some b) := by
 have hne := h.ne
 obtain ⟨es, clock, since, seen, c0, hb, F, hs, rfl, hr, hold, rfl, hl1, hl2, hsc, hsk⟩ := h
 obtain ⟨es', clock', hrun, F', hput, _⟩ := Maps.fit_store (R' := R) K ht hb F (Nat.lt_of_le_of_lt hs hn) (fun _ _ _ _ hz => hz) hkey hv
 rcases K.find w hkey es.toList F.keys with ⟨h1, h2⟩ | ⟨j, e0, h1, h2, h3⟩
 ·exfalso
  obtain ⟨p, hp, hpk⟩ := List.any_eq_true.1 hhas
  obtain ⟨x, hx, rfl⟩ := List.mem_map.1 (mem_sorted.1 hp)
  obtain ⟨y, hy⟩ := F.reads x hx
  have e1 := WideAt.sameKey_eq hpk
  rw [rg_of hy] at e1
  exact h2 x hx (K.inj (e1 ▸ rd_key hy) hkey)
 ·have hj : es[j]? = some e0 := by simpa using h2
  have hrun2 : (Instr.mapUpdate t (.map (some b)) key val).run P w = .ok () (setBlock w b (.map (es.modify j (fun e' => { e' with key := key, val := val })) clock)) := by
   simp [Instr.mapUpdate, run_underlying ht, MapKept.run_getObj_map hb, K.check w false hkey, h1, hj, h3, K.stays w hkey, MapKept.run_setObj_map _ hb, Result.andThen, setBlock]
  rw [hrun2] at hrun
  have hw : setBlock w b (.map (es.modify j (fun e' => { e' with key := key, val := val })) clock) = setBlock w b (.map es' clock') := by injection hrun
  have hob : (Obj.map (es.modify j (fun e' => { e' with key := key, val := val })) clock) = .map es' clock' := by
   have g1 := heap_setBlock_same hb (.map (es.modify j (fun e' => { e' with key := key, val := val })) clock)
   have g2 := heap_setBlock_same hb (.map es' clock')
   rw [hw, g2] at g1
   injection g1 with g1
   exact g1.symm
  injection hob with he1 he2
  subst he1 he2
  have hlist : (es.modify j (fun e' => { e' with key := key, val := val })).toList = es.toList.set j { e0 with key := key, val := val } := by
   apply List.ext_getElem?
   intro i
   rw [Array.getElem?_toList, Array.getElem?_modify, List.getElem?_set]
   have hjl : j < es.toList.length := (List.getElem?_eq_some_iff.1 h2).1
   by_cases hji : j = i
   ·subst hji
    rw [if_pos rfl, if_pos rfl, if_pos hjl, hj]
    rfl
   ·rw [if_neg hji, if_neg hji, Array.getElem?_toList]
  have hjl : j < es.toList.length := (List.getElem?_eq_some_iff.1 h2).1
  have he0 : e0 ∈ es.toList := List.mem_of_getElem? h2
  have who : ∀ x ∈ es.toList.set j { e0 with key := key, val := val }, x = { e0 with key := key, val := val } ∨ x ∈ es.toList := by
   intro x hx
   rcases List.mem_or_eq_of_mem_set hx with hx | hx
   ·exact .inr hx
   ·exact .inl hx
  have hk0 : (rg P k R e0).1 = kl := by
   obtain ⟨y, hy⟩ := F.reads e0 he0
   rw [rg_of hy]
   have := rd_key hy
   rw [h3, hkey] at this
   injection this with this
   exact this.symm
  have hnew : ∀ bn, (rg P k R { e0 with key := key, val := val, born := bn }).1 = kl := fun bn => by rw [rg_of (rd_mk hkey hv)]
  refine ⟨_, hrun2, ⟨_, clock, since, seen, c0, heap_setBlock_same hb _, F', by simpa using hs, by rw [DataW.put_eq, hput], (heap_setBlock_other hb _ hne).trans hr, ?_, ?_, ?_, ?_, hsc, hsk⟩, ⟨rfl, rfl, rfl, by simp [setBlock], fun i _ hi => heap_setBlock_other hb _ (fun e => hi (by rw [e]))⟩⟩
  ·intro x hx
   rw [hlist] at hx
   rcases who x hx with rfl | hx
   ·exact hold e0 he0
   ·exact hold x hx
  ·rw [left_len, left_len, born_modify]
  ·intro x hx
   rw [hlist] at hx
   rcases who x hx with rfl | hx
   ·show left (rg P k R { e0 with key := key, val := val, born := e0.born }).1 = _
    rw [hnew, ← hk0, hl1 e0 he0]
   ·exact hl1 x hx
  ·intro q hq
   obtain ⟨x, hx, rfl⟩ := hl2 q hq
   rw [hlist]
   obtain ⟨i, hi, ei⟩ := List.getElem_of_mem hx
   by_cases hji : j = i
   ·subst hji
    have : x = e0 := by
     rw [List.getElem?_eq_getElem hi, ei] at h2
     exact Option.some.inj h2
    subst this
    exact ⟨_, List.mem_of_getElem? (List.getElem?_set_self hjl), by rw [hnew x.born]; exact hk0.symm⟩
   ·refine ⟨x, List.mem_of_getElem? (i := i) ?_, rfl⟩
    rw [List.getElem?_set_ne hji, List.getElem?_eq_getElem hi, ei]
end
end Go.Proofs.Ytaldfbmjmpkmmaa.Mk
