/- The document's device: Make. -/
import Derived.Test.YteibcojjbcihbaaHRefD3
import Derived.Deep.AppendLies
import Derived.Deep.RegionLaw
import Derived.Deep.RegionHeld3
namespace Go.Proofs.Yteibcojjbcihbaa.Sec
open Go.RowKit Go.Proofs.YteibcojjbcihbaaW.PrintWords Go.Proofs.YteibcojjbcihbaaW.PrintLast Go.Proofs.YteibcojjbcihbaaW.PrintMore Go.Maps Go.Proofs.Yteibcojjbcihbaa.Mk
open Go.Proofs.Yteibcojjbcihbaa.Txn (unguard blk_newI)
open Go.Lib (byteCells byteCells_length byteCells_append byteCells_one)
set_option linter.unusedVariables false
set_option linter.unusedSimpArgs false

theorem info9b : (Try.prog.info? 9).map (fun i => (i.zero, i.size, i.bytes)) = some (some (.string ⟨#[]⟩), 1, 16) := by kernel_rfl
/-- The device while it is made: k1 and k2 sectors. -/
structure Making (w : World) (base r k1 k2 : Nat) (z : ByteArray) (v1 v2 : Value) : Prop where
  box : w.heap[r]? = some (.cells #[v1, v2, .int .i64 0, .bool false] 79 (0, 0))
  o1 : w.ownsRow base 9 1 v1 k1 (List.replicate k1 (.string z))
  o2 : w.ownsRow base 9 1 v2 k2 (List.replicate k2 (.string ⟨#[]⟩))
  ne : v1.ownBlock = none ∨ v1.ownBlock ≠ v2.ownBlock
theorem own_box {w : World} {base r k : Nat} {v : Value} {xs : List Value} {cs : Array Value} (h : w.ownsRow base 9 1 v k xs) (hb : w.heap[r]? = some (.cells cs 79 (0, 0))) : v.ownBlock ≠ some r := by
  rcases h.2 with ⟨rfl, _⟩ | ⟨g, cap, cur, rfl, _, hh, _⟩
  · simp [Value.ownBlock]
  · intro he
    have : g = r := by simpa [Value.ownBlock] using he
    subst this
    rw [hb] at hh
    injection hh with hh
    injection hh with _ hh _
    cases hh
theorem Making.below {w w' : World} {base r k1 k2 : Nat} {z : ByteArray} {v1 v2 : Value} (h : Making w base r k1 k2 z v1 v2) (hb : Below w.heap.size w w') : Making w' base r k1 k2 z v1 v2 :=
  ⟨blk_below h.box hb, h.o1.kept (grownBy_of_below hb none) (by cases v1.ownBlock <;> simp), h.o2.kept (grownBy_of_below hb none) (by cases v2.ownBlock <;> simp), h.ne⟩
theorem rep_snoc {α : Type} (k : Nat) (x : α) : List.replicate k x ++ [x] = List.replicate (k + 1) x := (List.replicate_succ' ..).symm
theorem Making.one {w w6 : World} {base r k1 k2 g c : Nat} {z : ByteArray} {v1 v2 : Value} (h : Making w base r k1 k2 z v1 v2) (ho : w6.ownsRow base 9 1 (.slice (some ⟨g, 0, none⟩) (k1 + 1) c) (k1 + 1) (List.replicate k1 (.string z) ++ [.string z])) (hg : w.grownBy w6 v1.ownBlock) (hat : v1.ownBlock = some g ∨ g = w.heap.size) :
    Making (w6.setCell ⟨r, 0, none⟩ (.slice (some ⟨g, 0, none⟩) (k1 + 1) c)) base r (k1 + 1) k2 z (.slice (some ⟨g, 0, none⟩) (k1 + 1) c) v2 := by
  have hr1 : some r ≠ v1.ownBlock := fun e => own_box h.o1 h.box e.symm
  have hb6 := blk_grown h.box hg hr1
  have h2 : w6.ownsRow base 9 1 v2 k2 (List.replicate k2 (.string ⟨#[]⟩)) := h.o2.kept hg (by
    rcases h.ne with e | e
    · rw [e]; cases v2.ownBlock <;> simp
    · exact .inr (fun q => e q.symm))
  rw [rep_snoc] at ho
  refine ⟨blk_put hb6 0 _ rfl, ho.kept (set_grown _ _ _ _) (.inr (own_box ho hb6)), h2.kept (set_grown _ _ _ _) (.inr (own_box h2 hb6)), .inr (fun e => ?_)⟩
  rcases hat with e2 | e2
  · rcases h.ne with e3 | e3
    · rw [e3] at e2; cases e2
    · exact e3 (e2.trans e)
  · have := (h.o2.lt g e.symm).2
    omega
theorem Making.two {w w6 : World} {base r k1 k2 g c : Nat} {z : ByteArray} {v1 v2 : Value} (h : Making w base r k1 k2 z v1 v2) (ho : w6.ownsRow base 9 1 (.slice (some ⟨g, 0, none⟩) (k2 + 1) c) (k2 + 1) (List.replicate k2 (.string ⟨#[]⟩) ++ [.string ⟨#[]⟩])) (hg : w.grownBy w6 v2.ownBlock) (hat : v2.ownBlock = some g ∨ g = w.heap.size) :
    Making (w6.setCell ⟨r, 1, none⟩ (.slice (some ⟨g, 0, none⟩) (k2 + 1) c)) base r k1 (k2 + 1) z v1 (.slice (some ⟨g, 0, none⟩) (k2 + 1) c) := by
  have hr1 : some r ≠ v2.ownBlock := fun e => own_box h.o2 h.box e.symm
  have hb6 := blk_grown h.box hg hr1
  have h2 : w6.ownsRow base 9 1 v1 k1 (List.replicate k1 (.string z)) := h.o1.kept hg h.ne
  rw [rep_snoc] at ho
  refine ⟨blk_put hb6 1 _ rfl, h2.kept (set_grown _ _ _ _) (.inr (own_box h2 hb6)), ho.kept (set_grown _ _ _ _) (.inr (own_box ho hb6)), ?_⟩
  rcases h.ne with e | e
  · exact .inl e
  · refine .inr (fun q => ?_)
    rcases hat with e2 | e2
    · exact e (q.trans e2.symm)
    · have := (h.o1.lt g q).2
      omega
theorem own_row {w : World} {base k : Nat} {v : Value} {L : List ByteArray} (h : w.ownsRow base 9 1 v k (L.map Value.string)) (hk : L.length = k) (hp : 0 < k) : ∃ g c sl, v = .slice (some ⟨g, 0, none⟩) k c ∧ base ≤ g ∧ RowT w g L sl := by
  rcases h.2 with ⟨_, h0⟩ | ⟨g, cap, cur, rfl, hg, hh, hc, _, hs, ht⟩
  · omega
  · refine ⟨g, cap, cur.toList.drop k, rfl, hg, ?_⟩
    unfold RowT
    rw [hh, ← ht, Nat.mul_one, List.take_append_drop, Array.toArray_toList]
set_option maxRecDepth 100000 in
set_option maxHeartbeats 4000000 in
theorem makeR_walk (w : World) (n : Nat) (h1 : 1 ≤ n) (h2 : n ≤ 2048) : Calls Try.prog 32 #[.int .i64 (n : Int)] w fun e w' => Below w.heap.size w w' ∧ ∃ (r g1 g2 c1 c2 : Nat) (sl1 sl2 : List Value), w.heap.size ≤ r ∧ w.heap.size ≤ g1 ∧ w.heap.size ≤ g2 ∧
      e = .returned (.tuple #[.pointer (some ⟨r, 0, none⟩), .int .i64 0]) ∧ RefAt w' r g1 g2 c1 c2 sl1 sl2 (List.replicate n (zeros 64)) (fun _ => none) 0 false := by
  obtain ⟨i0, hi0, hz0, hz1, hz2⟩ := info_parts info9b
  obtain ⟨z, hz⟩ : ∃ z, z = txt (zeros 64) := ⟨_, rfl⟩
  have HN := Aside0.mk none_walk
  rw [← hz] at HN
  have HZ := Aside0.mk hz
  clear hz
  go_enter Try.func32, Try.ntmps32
  go_wp2
  have hm0 : Making (w.alloc (Obj.cells #[Value.slice none 0 0, Value.slice none 0 0, Value.int IntKind.i64 0, Value.bool false] 79)) w.heap.size w.heap.size 0 0 z (.slice none 0 0) (.slice none 0 0) := ⟨blk_new _ _, World.ownsRow_nil _ _ _ _, World.ownsRow_nil _ _ _ _, .inl rfl⟩
  have HM0 := Aside0.mk hm0
  have HB0 : Aside0 (Below w.heap.size w (w.alloc (Obj.cells #[Value.slice none 0 0, Value.slice none 0 0, Value.int IntKind.i64 0, Value.bool false] 79))) := ⟨below_alloc (Below.refl _ _) _⟩
  clear hm0
  generalize w.alloc (Obj.cells #[Value.slice none 0 0, Value.slice none 0 0, Value.int IntKind.i64 0, Value.bool false] 79) = w0 at *
  have HRB : Aside0 (w.heap.size ≤ w.heap.size) := ⟨Nat.le_refl _⟩
  obtain ⟨r, hr⟩ : ∃ r, r = w.heap.size := ⟨_, rfl⟩
  generalize hb0 : w.heap.size = base at *
  rw [← hr]
  have HMr : Aside0 (Making w0 base r 0 0 z (.slice none 0 0) (.slice none 0 0)) := ⟨by rw [hr]; exact HM0.out⟩
  have HRR : Aside0 (base ≤ r) := ⟨by omega⟩
  clear HM0 HRB hr
  go_loopg [5] (n + 1) (fun kq v5 wr => ∃ (k : Nat) (v1 v2 : Value), v5 = .int .i64 k ∧ k ≤ n ∧ k + kq = n + 1 ∧ Aside0 (Making wr base r k k z v1 v2) ∧ Aside0 (Below base w wr))
  case atStart => exact ⟨0, _, _, rfl, by omega, by omega, HMr, HB0⟩
  case round =>
    clear HMr HB0
    obtain ⟨k, v1, v2, rfl, hk, hkq, HM, HB⟩ := hrel
    have q0 : wr.cell? ⟨r, 0, none⟩ = some v1 := (blk_cell HM.out.box 0).trans rfl
    have q1 : wr.cell? ⟨r, 1, none⟩ = some v2 := (blk_cell HM.out.box 1).trans rfl
    by_cases hlt : k < n
    · have fz0 := blk_frozen HM.out.box 0
      have hbs : base ≤ wr.heap.size := by rw [← hb0]; exact HB.out.size
      have HD : Aside0 (Making wr.drew base r k k z v1 v2) := ⟨⟨HM.out.box, HM.out.o1, HM.out.o2, HM.out.ne⟩⟩
      have HBD : Aside0 (Below base w wr.drew) := ⟨HB.out.trans (below_drew1 (Below.refl _ _))⟩
      have HNR := Aside0.mk (own_box HD.out.o1 HD.out.box)
      have HI := Aside0.mk (And.intro hi0 (And.intro hz0 (And.intro hz1 hz2)))
      have HLIM : Aside0 (k + 1 ≤ maxLen ∧ (k + 1) * 16 ≤ 140737488355328) := ⟨by unfold maxLen; omega⟩
      have HBW : Aside0 (base ≤ wr.drew.heap.size) := ⟨hbs⟩
      go_wp2_with fail
      go_region_law (first
        | (refine step_append_lies _ (by rfl) (.tmp 23) (.tmp 25) 40 (by rfl) base 9 i0 (.string ⟨#[]⟩) 1 16 Try.underlying40 HI.out.1 HI.out.2.1 HI.out.2.2.1 HI.out.2.2.2 rfl (by omega) v1 k (List.replicate k (.string z)) (by simp [Act.eval, Act.put]) (HM5.out.o1.alloc _) ⟨w5.heap.size, 0, none⟩ 1 1 [.string z] (by simp [Act.eval, Act.put]) rfl (World.news_of_block (cs := #[.string z]) (t := 9) (fr := (0, 0)) (heap_alloc_new w5 _)) (by simp [Value.oneCell']) (by omega) HLIM.out.1 HLIM.out.2 HBW5.out (w5.heap.size + 1) (by simp) ?_; intro g c w6 hown6 hg6 hat6 hlt6; have fz6 : w6.frozen? ⟨r, 0, none⟩ = false := blk_frozen (blk_grown (blk_alloc HM5.out.box _) hg6 (fun e => HNR.out e.symm)) 0; have k6 : w6.cell? ⟨r, 0, none⟩ = some v1 := (blk_cell (blk_grown (blk_alloc HM5.out.box _) hg6 (fun e => HNR.out e.symm)) 0).trans rfl)
        | (go_simp; go_at_call 54; refine (HN.out _).mono ?_; rintro e w5 ⟨rfl, hb5⟩; have HM5 : Aside0 (Making w5 base r k k z v1 v2) := ⟨HD.out.below hb5⟩; have HBW5 : Aside0 (base ≤ (w5.alloc (.cells #[.string z] 9)).heap.size) := ⟨by have := hb5.size; have := HBW.out; simp; omega⟩; have k0 : w5.cell? ⟨r, 0, none⟩ = some v1 := (blk_cell HM5.out.box 0).trans rfl; have k1 : (w5.alloc (.cells #[.string z] 9)).cell? ⟨r, 0, none⟩ = some v1 := (blk_cell (blk_alloc HM5.out.box _) 0).trans rfl))
      all_goals (have HG6 : Aside0 (Making (w6.setCell ⟨r, 0, none⟩ (.slice (some ⟨g, 0, none⟩) (k + 1) c)) base r (k + 1) k z (.slice (some ⟨g, 0, none⟩) (k + 1) c) v2) := ⟨(HM5.out.below (below_alloc (Below.refl _ _) (.cells #[.string z] 9))).one hown6 hg6 (by rw [World.size_alloc]; exact hat6)⟩)
      all_goals (have HB6 : Aside0 (Below base w (w6.setCell ⟨r, 0, none⟩ (.slice (some ⟨g, 0, none⟩) (k + 1) c))) := ⟨((((HBD.out.trans (hb5.mono HBW.out)).trans ((below_alloc (Below.refl w5.heap.size w5) (.cells #[.string z] 9)).mono (Nat.le_trans HBW.out hb5.size))).grown hg6 HBW5.out (fun j e => (HM5.out.o1.lt j e).1)).grown (set_grown _ _ _ _) (Nat.le_trans HBW5.out hg6.size) (fun j e => by injection e with e; rw [← e]; exact HRR.out))⟩)
      all_goals (have hs6 : base ≤ (w6.setCell ⟨r, 0, none⟩ (.slice (some ⟨g, 0, none⟩) (k + 1) c)).heap.size := Nat.le_trans HBW5.out (Nat.le_trans hg6.size (by simp)))
      all_goals (have HS6 := Aside0.mk hs6)
      all_goals clear hown6 hg6 hat6 hlt6 fz6 k6 hb5 k0 k1 HM5 HBW5 HBD HD HBW hs6
      all_goals generalize w6.setCell ⟨r, 0, none⟩ (.slice (some ⟨g, 0, none⟩) (k + 1) c) = w7 at *
      all_goals (have p1 : w7.cell? ⟨r, 1, none⟩ = some v2 := (blk_cell HG6.out.box 1).trans rfl)
      all_goals (have HNR2 := Aside0.mk (own_box HG6.out.o2 HG6.out.box))
      all_goals (have HA6 : Aside0 (Making (w7.alloc (.cells #[.string ⟨#[]⟩] 9)) base r (k + 1) k z (.slice (some ⟨g, 0, none⟩) (k + 1) c) v2) := ⟨HG6.out.below (below_alloc (Below.refl _ _) _)⟩)
      all_goals (have HS7 : Aside0 (base ≤ (w7.alloc (.cells #[.string ⟨#[]⟩] 9)).heap.size) := ⟨by rw [World.size_alloc]; have := HS6.out; omega⟩)
      all_goals clear fz0 q0 q1
      all_goals (go_wp2_with (at_builtin; refine wpList_append_lies _ (by rfl) (.tmp 33) (.tmp 34) 40 (by rfl) base 9 i0 (.string ⟨#[]⟩) 1 16 Try.underlying40 HI.out.1 HI.out.2.1 HI.out.2.2.1 HI.out.2.2.2 rfl (by omega) v2 k (List.replicate k (.string ⟨#[]⟩)) (by rfl) HA6.out.o2 ⟨w7.heap.size, 0, none⟩ 1 1 [.string ⟨#[]⟩] (by rfl) rfl (World.news_of_block (cs := #[.string ⟨#[]⟩]) (t := 9) (fr := (0, 0)) (heap_alloc_new w7 _)) (by simp [Value.oneCell']) (by omega) HLIM.out.1 HLIM.out.2 HS7.out (w7.heap.size + 1) (by simp) ?_; intro g' c' w8 hown8 hg8 hat8 hlt8; have fz8 : w8.frozen? ⟨r, 1, none⟩ = false := blk_frozen (blk_grown HA6.out.box hg8 (fun e => HNR2.out e.symm)) 1; have k8 : w8.cell? ⟨r, 1, none⟩ = some v2 := (blk_cell (blk_grown HA6.out.box hg8 (fun e => HNR2.out e.symm)) 1).trans rfl))
      all_goals (have HG8 : Aside0 (Making (w8.setCell ⟨r, 1, none⟩ (.slice (some ⟨g', 0, none⟩) (k + 1) c')) base r (k + 1) (k + 1) z (.slice (some ⟨g, 0, none⟩) (k + 1) c) (.slice (some ⟨g', 0, none⟩) (k + 1) c')) := ⟨HA6.out.two hown8 hg8 (by rw [World.size_alloc]; exact hat8)⟩)
      all_goals (have HB8 : Aside0 (Below base w (w8.setCell ⟨r, 1, none⟩ (.slice (some ⟨g', 0, none⟩) (k + 1) c'))) := ⟨(((HB6.out.trans ((below_alloc (Below.refl w7.heap.size w7) (.cells #[.string ⟨#[]⟩] 9)).mono HS6.out)).grown hg8 HS7.out (fun j e => (HA6.out.o2.lt j e).1)).grown (set_grown _ _ _ _) (Nat.le_trans HS7.out hg8.size) (fun j e => by injection e with e; rw [← e]; exact HRR.out))⟩)
      all_goals clear hown8 hg8 hat8 hlt8 HA6 HS7
      all_goals go_wp2
      all_goals go_roundg (gk - 1)
      all_goals first
        | (case measure => omega)
        | skip
      all_goals (case rel => exact ⟨k + 1, _, _, by go_num, by omega, by omega, HG8, HB8⟩)
    · obtain rfl : k = n := by omega
      go_wp2
      go_ret2
      have o1 := HM.out.o1
      have o2 := HM.out.o2
      rw [show List.replicate k (Value.string z) = (List.replicate k z).map Value.string from (List.map_replicate ..).symm] at o1
      rw [show List.replicate k (Value.string ⟨#[]⟩) = (List.replicate k (⟨#[]⟩ : ByteArray)).map Value.string from (List.map_replicate ..).symm] at o2
      obtain ⟨g1, c1, sl1, rfl, hg1, hr1⟩ := own_row o1 (List.length_replicate ..) h1
      obtain ⟨g2, c2, sl2, rfl, hg2, hr2⟩ := own_row o2 (List.length_replicate ..) h1
      refine ⟨by rw [hb0]; exact HB.out, r, g1, g2, c1, c2, sl1, sl2, by rw [hb0]; exact HRR.out, by rw [hb0]; exact hg1, by rw [hb0]; exact hg2, rfl, ?_⟩
      have hlen : (List.replicate k (zeros 64)).length = k := List.length_replicate ..
      refine ⟨by rw [hlen]; exact HM.out.box, ?_, ?_, ?_, ⟨fun s hs => by rw [(List.mem_replicate.1 hs).2, zeros_len], by rw [hlen]; exact h2, by rw [hlen]; omega, fun _ _ h => by cases h⟩, by decide⟩
      · rw [List.map_replicate, ← HZ.out]
        exact hr1
      · rw [hlen]
        have e : nwOf (fun _ => none) k = List.replicate k (⟨#[]⟩ : ByteArray) := by
          apply List.ext_getElem?
          intro j
          by_cases hj : j < k
          · rw [nwOf_get _ _ _ hj, List.getElem?_replicate, if_pos hj]
            rfl
          · rw [List.getElem?_eq_none (by rw [nwOf_len]; omega), List.getElem?_eq_none (by rw [List.length_replicate]; omega)]
        rw [e]
        exact hr2
      · rcases HM.out.ne with e | e
        · cases e
        · exact fun q => e (by rw [q]; rfl)
end Go.Proofs.Yteibcojjbcihbaa.Sec
