/- A shelf in memory: Last; whether a record writes a key; whether a key is held. -/
import Derived.Test.YtaldfbmjmpkmmaaHShA
namespace Go.Proofs.Ytaldfbmjmpkmmaa.PL
open Go.RowKit Go.Proofs.YtaldfbmjmpkmmaaW.PrintWords Go.Proofs.YtaldfbmjmpkmmaaW.PrintLast Go.Proofs.YtaldfbmjmpkmmaaW.PrintMore Go.Shelf Go.Maps Go.WideMaps Go.Proofs.Ytaldfbmjmpkmmaa.Mk
set_option linter.unusedVariables false
set_option linter.unusedSimpArgs false
set_option linter.unusedSectionVars false
theorem kb_beq (a b : ByteArray) : (a.toList == b.toList) = (kb a == kb b) := by rw [kb_toList, kb_toList]
set_option maxRecDepth 100000 in
theorem lastS_walk {w : World} {ok : Nat → Prop} {b N : Nat} {s : Sh} (h : ShAt w ok b N s) (k : ByteArray) (hk : k.size ≤ maxLen) :
    Calls Try.prog 43 #[.pointer (some ⟨b, 0, none⟩), .string k] w fun e w' => e = .returned (.int .i64 (lastV (look s.K (kb k)))) ∧ Below w.heap.size w w' := by
  obtain ⟨bk, bp, ve, fk, fp, hp⟩ := h
  obtain ⟨A, c, hv, hl, hC⟩ := hp.chain (kb k)
  obtain ⟨c0, c1, c2, c3⟩ := hp.cells
  have HL := Aside0.mk (last_walk w A c (look s.K (kb k)) hC hl (hp.good.keys.look _))
  have HV := Aside0.mk hv
  have HK := Aside0.mk hp.keys
  have HS := Aside0.mk hk
  clear hp hv hC
  generalize lastV (look s.K (kb k)) = r at *
  generalize (look s.K (kb k)) = l at *
  go_enter Try.func43, Try.ntmps43
  go_wp2_with (at_lookup; refine MapL.at_ HK.out keyedS rfl _ _ 74 81 rfl Try.underlying74 (zeroC _) rfl rfl (key_sk HS.out) ?_; rw [HV.out])
  refine HL.out.mono ?_
  rintro e w1 ⟨rfl, hb⟩
  have HB := Aside0.mk hb
  clear hb
  go_wp2_with fail
  go_ret
  exact ⟨rfl, HB.out⟩
set_option maxRecDepth 100000 in
theorem writes1_walk (W : World) (bx : Nat) (key : ByteArray) (hx : W.cell? ⟨bx, 0, none⟩ = some (.string key)) (x : Wr) :
    Calls Try.prog 108 (#[.agg #[.string x.f0, .string x.f1, .bool x.f2]] ++ #[.pointer (some ⟨bx, 0, none⟩)]) W fun e W' => e = .returned (.bool (kb x.f0 == kb key)) ∧ Below W.heap.size W W' := by
  rw [← kb_beq]
  have hlt := World.block_lt_of_cell? W _ hx
  have hne : bx ≠ W.heap.size := by simp only at hlt; omega
  show Calls Try.prog 108 #[.agg #[.string x.f0, .string x.f1, .bool x.f2], .pointer (some ⟨bx, 0, none⟩)] W _
  obtain ⟨a, s, d⟩ := x
  simp only
  have hx2 : (W.alloc (.cells #[.string a, .string s, .bool d] 56)).cell? ⟨bx, 0, none⟩ = some (.string key) := pw_cell_below (below_alloc (Below.refl _ W) _) hx
  go_enter Try.func108, Try.ntmps108
  go_wp2
  go_ret
  exact ⟨rfl, below_alloc (Below.refl _ W) _⟩
theorem contains_enough {α : Type} {w : World} {g : Nat} {cap : Array Value} {enc : α → Value} {xs : List α} {p : α → Bool} (h : ∀ W : World, Below w.heap.size w W → ∀ x, Calls Try.prog g (#[enc x] ++ cap) W fun e W' => e = .returned (.bool (p x)) ∧ Below W.heap.size W W') : TellsG w g cap enc xs p := fun W hW x _ => h W hW x
set_option maxRecDepth 100000 in
/-- shelf.writes. -/
theorem writes_walk (w : World) (r : Rec) (cs : List Value) (hr : k35.K w r cs) (key : ByteArray) :
    Calls Try.prog 67 #[.agg cs.toArray, .string key] w fun e w' => e = .returned (.bool (wrote r (kb key))) ∧ Below w.heap.size w w' := by
  obtain ⟨A7, c7, A8, c8, rfl, h1, h2, h3, h4⟩ := k35_open hr
  obtain ⟨w2, hw2⟩ : ∃ w2, w2 = (w.alloc (.cells #[.int .i64 r.f0, .int .i64 r.f1, .int .i64 r.f2, .int .i64 r.f3, .string r.f4, .string r.f5, .bool r.f6, .slice A7 r.f7.length c7, .slice A8 r.f8.length c8] 35)).alloc (.cells #[.string key] 9) := ⟨_, rfl⟩
  have hB : Below w.heap.size w w2 := by rw [hw2]; exact below_alloc (below_alloc (Below.refl _ w) _) _
  have b1 : w2.heap[w.heap.size + 1]? = some (.cells #[.string key] 9 (0, 0)) := by
    rw [hw2]
    have := blk_new (w.alloc (.cells #[.int .i64 r.f0, .int .i64 r.f1, .int .i64 r.f2, .int .i64 r.f3, .string r.f4, .string r.f5, .bool r.f6, .slice A7 r.f7.length c7, .slice A8 r.f8.length c8] 35)) (.cells #[.string key] 9)
    simpa using this
  have hcon := contains_wrW w2 A8 c8 r.f8 (.pointer (some ⟨w.heap.size + 1, 0, none⟩)) (fun x => kb x.f0 == kb key) (Kd.C_below h4 hB) (contains_enough fun W hW x => writes1_walk W _ key (by rw [blk_cell (blk_below b1 hW) 0]; rfl) x)
  have HC := Aside0.mk hcon
  have HW := Aside0.mk hw2
  have HB := Aside0.mk hB
  have HV : Aside0 (wrote r (kb key) = r.f8.any fun x => kb x.f0 == kb key) := ⟨rfl⟩
  clear hcon hw2 hB b1 h1 h2 h3 h4 hr
  generalize wrote r (kb key) = q at *
  rw [← HV.out] at HC
  go_enter Try.func67, Try.ntmps67
  go_wp2_with fail
  rw [← HW.out]
  refine HC.out.mono ?_
  rintro e w1 ⟨rfl, hb⟩
  have HB1 : Aside0 (Below w.heap.size w w1) := ⟨HB.out.trans (hb.mono HB.out.size)⟩
  clear hb
  go_wp2_with fail
  go_ret
  exact ⟨rfl, HB1.out⟩
end Go.Proofs.Ytaldfbmjmpkmmaa.PL
