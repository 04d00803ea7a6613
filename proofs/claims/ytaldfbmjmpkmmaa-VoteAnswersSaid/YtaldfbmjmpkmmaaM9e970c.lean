/- Texts of this proof, one behind the other (merged by a program of this session). -/
import Derived.Test.YtaldfbmjmpkmmaaM418163
import Derived.Test.YtaldfbmjmpkmmaaMa84066
namespace Go.Proofs.Ytaldfbmjmpkmmaa.PL
open Go.RowKit Go.Proofs.YtaldfbmjmpkmmaaW.PrintWords Go.Proofs.YtaldfbmjmpkmmaaW.PrintLast Go.Proofs.YtaldfbmjmpkmmaaW.PrintMore Go.Shelf Go.Maps Go.WideMaps Go.Proofs.Ytaldfbmjmpkmmaa.Mk
set_option linter.unusedVariables false
set_option linter.unusedSimpArgs false
set_option linter.unusedSectionVars false
set_option maxRecDepth 100000 in
theorem state1_walk (W : World) (bx : Nat) (t : Int) (hx : W.cell? ⟨bx, 0, none⟩ = some (.int .i64 t)) (x : Int × Int) :
 Calls Try.prog 70 (#[.agg #[.int .i64 x.1, .int .i64 x.2]] ++ #[.pointer (some ⟨bx, 0, none⟩)]) W fun e W' => e = .returned (.bool (decide (x.1 = t))) ∧ Below W.heap.size W W' := by
 have hlt := World.block_lt_of_cell? W _ hx
 have hne : bx ≠ W.heap.size := by simp only at hlt; omega
 show Calls Try.prog 70 #[.agg #[.int .i64 x.1, .int .i64 x.2], .pointer (some ⟨bx, 0, none⟩)] W _
 obtain ⟨a, d⟩ := x
 simp only
 have hx2 : (W.alloc (.cells #[.int .i64 a, .int .i64 d] 96)).cell? ⟨bx, 0, none⟩ = some (.int .i64 t) := pw_cell_below (below_alloc (Below.refl _ W) _) hx
 have HV : Aside0 ((a == t) = decide (a = t)) := ⟨rfl⟩
 go_enter Try.func70, Try.ntmps70
 go_wp2
 go_ret
 exact ⟨by rw [← HV.out]; rfl, below_alloc (Below.refl _ W) _⟩
theorem firstG_find {α : Type} (p : α → Bool) : ∀ (l : List α) (i : Int), (firstG p l i = -1 ∧ l.find? p = none) ∨ ∃ k e, k < l.length ∧ l[k]? = some e ∧ firstG p l i = i + (k : Int) ∧ l.find? p = some e
 | [], i => .inl ⟨rfl, rfl⟩
 | x :: r, i => by
  unfold firstG
  rw [List.find?_cons]
  cases hx : p x with
  | true => exact .inr ⟨0, x, by simp, rfl, by simp, rfl⟩
  | false =>
   rcases firstG_find p r (i + 1) with ⟨h1, h2⟩ | ⟨k, e, hk, he, h1, h2⟩
   ·exact .inl ⟨by simpa using h1, by simpa using h2⟩
   ·refine .inr ⟨k + 1, e, by simpa using hk, by simpa using he, ?_, by simpa using h2⟩
    simp only [Bool.false_eq_true, if_false]
    rw [h1]
    omega
/-- A prepared record, as a look-up gives it. -/
theorem Parts.prep_val {w : World} {ok : Nat → Prop} {b N : Nat} {s : Sh} {bk bp : Nat} {ve : Value} {fk fp : Lit → Option Value} (h : Parts w ok b N s bk bp ve fk fp) (t : Int) : ∃ a0 a1 a2 a3 a4 a5 a6 A7 n7 c7 A8 n8 c8,
 (fp (ik t)).getD (.agg #[.int .i64 0, .int .i64 0, .int .i64 0, .int .i64 0, .string ⟨#[]⟩, .string ⟨#[]⟩, .bool false, .slice none 0 0, .slice none 0 0]) = .agg #[.int .i64 a0, .int .i64 a1, .int .i64 a2, .int .i64 a3, .string a4, .string a5, .bool a6, .slice A7 n7 c7, .slice A8 n8 c8] := by
 cases hf : fp (ik t) with
 | none => exact ⟨0, 0, 0, 0, ⟨#[]⟩, ⟨#[]⟩, false, none, 0, 0, none, 0, 0, rfl⟩
 | some v =>
  obtain ⟨r, _, _, cs, rfl, hM⟩ := h.pf _ v hf
  obtain ⟨A7, c7, A8, c8, rfl, _⟩ := k35_open (k35.K_of_M hM)
  exact ⟨_, _, _, _, _, _, _, _, _, _, _, _, _, rfl⟩
set_option maxRecDepth 100000 in
set_option maxHeartbeats 4000000 in
theorem state_walk {w : World} {ok : Nat → Prop} {b N : Nat} {s : Sh} (h : ShAt w ok b N s) (t : Int) (ht : -9223372036854775808 ≤ t ∧ t ≤ 9223372036854775807) :
 Calls Try.prog 33 #[.pointer (some ⟨b, 0, none⟩), .int .i64 t] w fun e w' => e = .returned (.tuple #[.int .i64 (stateV s t).1, .int .i64 (stateV s t).2]) ∧ Below w.heap.size w w' := by
 obtain ⟨bk, bp, ve, fk, fp, hp⟩ := h
 have hb0 := below_alloc (Below.refl _ w) (.cells #[.int .i64 t] 3)
 have hbx := blk_new w (.cells #[.int .i64 t] 3)
 have HP := Aside0.mk (hp.below hb0)
 have HS := Aside0.mk (hp.prep_some t)
 have HT := Aside0.mk ht
 obtain ⟨a0, a1, a2, a3, a4, a5, a6, A7, n7, c7, A8, n8, c8, hval⟩ := hp.prep_val t
 have HV := Aside0.mk hval
 clear hval hp
 obtain ⟨c0, c1, c2, c3⟩ := HP.out.cells
 obtain ⟨w1, hw1⟩ : ∃ w1, w1 = w.alloc (.cells #[.int .i64 t] 3) := ⟨_, rfl⟩
 have HW := Aside0.mk hw1
 rw [← hw1] at c0 c1 c2 c3 HP hb0 hbx
 have HB0 := Aside0.mk hb0
 have HBX := Aside0.mk hbx
 clear hw1 hb0 hbx
 go_enter Try.func33, Try.ntmps33
 go_wp2_with fail
 rw [← HW.out]
 have x0 := blk_cell HBX.out 0
 go_cut [7] (fun v7 wc => v7 = .bool (s.P.any fun r => decide (r.f1 = t)) ∧ Aside0 (Below w1.heap.size w1 wc))
 case first =>
  have hlk : Sem.run Try.prog (Instr.lookup 75 (.map (some bp)) (.int .i64 t) true) ((w1.alloc (.cells #[.int .i64 0, .int .i64 0, .int .i64 0, .int .i64 0, .string ⟨#[]⟩, .string ⟨#[]⟩, .bool false, .slice none 0 0, .slice none 0 0] 35)).drew) = .ok (.tuple #[.agg #[.int .i64 a0, .int .i64 a1, .int .i64 a2, .int .i64 a3, .string a4, .string a5, .bool a6, .slice A7 n7 c7, .slice A8 n8 c8], .bool (s.P.any fun r => decide (r.f1 = t))]) ((w1.alloc (.cells #[.int .i64 0, .int .i64 0, .int .i64 0, .int .i64 0, .string ⟨#[]⟩, .string ⟨#[]⟩, .bool false, .slice none 0 0, .slice none 0 0] 35)).drew) := by
   have := (MapL.get_ (MapL.below HP.out.preps (below_drew1 (below_alloc (Below.refl _ _) _))) keyedI Try.underlying75 (zeroR ((w1.alloc (.cells #[.int .i64 0, .int .i64 0, .int .i64 0, .int .i64 0, .string ⟨#[]⟩, .string ⟨#[]⟩, .bool false, .slice none 0 0, .slice none 0 0] 35)).drew)) (key_ik HT.out)).2
   rw [HV.out, HS.out] at this
   exact this
  have hB2 := below_drew1 (below_alloc (Below.refl _ w1) (.cells #[.int .i64 0, .int .i64 0, .int .i64 0, .int .i64 0, .string ⟨#[]⟩, .string ⟨#[]⟩, .bool false, .slice none 0 0, .slice none 0 0] 35))
  have c1' := pw_cell_below hB2 c1
  have x0' := pw_cell_below hB2 x0
  have HB2 := Aside0.mk hB2
  clear hB2
  have hlk0 : Sem.run Try.prog (Instr.lookup 75 (.map (some bp)) (.int .i64 t) true) w1.drew = .ok (.tuple #[.agg #[.int .i64 a0, .int .i64 a1, .int .i64 a2, .int .i64 a3, .string a4, .string a5, .bool a6, .slice A7 n7 c7, .slice A8 n8 c8], .bool (s.P.any fun r => decide (r.f1 = t))]) w1.drew := by
   have := (MapL.get_ (MapL.below HP.out.preps (below_drew1 (Below.refl _ _))) keyedI Try.underlying75 (zeroR _) (key_ik HT.out)).2
   rw [HV.out, HS.out] at this
   exact this
  generalize (s.P.any fun r => decide (r.f1 = t)) = q at *
  go_region
  all_goals (try go_wp2_with fail)
  all_goals go_meet
  all_goals (case rel => exact ⟨rfl, ⟨below_drew1 (below_alloc (Below.refl _ _) _)⟩⟩)
 case rest =>
  obtain ⟨rfl, HB⟩ := hcut
  have HPC := Aside0.mk (HP.out.below HB.out)
  have HBC : Aside0 (Below w.heap.size w wc) := ⟨HB0.out.trans (HB.out.mono HB0.out.size)⟩
  have BXC := Aside0.mk (blk_below HBX.out HB.out)
  clear x0 c0 c1 c2 c3 HS HV
  obtain ⟨c0, c1, c2, c3⟩ := HPC.out.cells
  have x0 := blk_cell BXC.out 0
  have HSV : Aside0 (stateV s t = if (s.P.any fun r => decide (r.f1 = t)) = true then ((1, 0) : Int × Int) else match s.E.find? (fun e => decide (e.1 = t)) with | none => (0, 0) | some e => if e.2 = 0 then (3, 0) else (2, e.2)) := ⟨rfl⟩
  cases hq : s.P.any fun r => decide (r.f1 = t) with
  | true =>
   rw [hq, if_pos rfl] at HSV
   clear hq
   go_wp2_with fail
   go_ret2
   exact ⟨by rw [HSV.out]; rfl, HBC.out⟩
  | false =>
   rw [hq, if_neg (by simp)] at HSV
   clear hq
   obtain ⟨A, c, hve, hle, hC⟩ := Kd.R_reads HPC.out.ends
   subst hve
   have HC := Aside0.mk hC
   have HIX := Aside0.mk (index_endS wc A c s.E (.pointer (some ⟨w.heap.size, 0, none⟩)) (fun e => decide (e.1 = t)) hC (contains_enough fun W hW x => state1_walk W _ t (by rw [blk_cell (blk_below BXC.out hW) 0]; rfl) x))
   have hmx := HPC.out.good.ends
   clear hC hle
   go_wp2_with fail
   refine HIX.out.mono ?_
   rintro e w2 ⟨rfl, hb2⟩
   have HB2 : Aside0 (Below w.heap.size w w2) := ⟨HBC.out.trans (hb2.mono HBC.out.size)⟩
   have HP2 := Aside0.mk (HPC.out.below hb2)
   have HC2 := Aside0.mk (Kd.C_below HC.out hb2)
   clear c0 c1 c2 c3 x0 HIX hb2
   obtain ⟨c0, c1, c2, c3⟩ := HP2.out.cells
   rcases firstG_find (fun e : Int × Int => decide (e.1 = t)) s.E 0 with ⟨h1, h2⟩ | ⟨k, e, hk, he, h1, h2⟩
   ·rw [h2] at HSV
    rw [h1]
    clear h1 h2
    go_wp2_with fail
    go_ret2
    exact ⟨by rw [HSV.out]; rfl, HB2.out⟩
   ·rw [h2] at HSV
    rw [h1]
    obtain ⟨ad, cs, rfl, hlen, hK, hc0⟩ := Kd.C_get HC2.out ((0, 0) : Int × Int) (k : Int) (by omega) (by omega)
    rw [Int.toNat_natCast] at hK hc0
    have hget : s.E.getD k (0, 0) = e := by rw [List.getD_eq_getElem?_getD, he]; rfl
    rw [hget] at hK
    obtain rfl := kEnd_open hK
    have d1 : w2.cell? ⟨(ad.add (k * 2)).block, (ad.add (k * 2)).off + 1, none⟩ = some (.int .i64 e.2) := by rw [← add_field _ _ 1 (by omega)]; exact hc0 1 _ rfl
    have hzk : (0 : Int) + (k : Int) = (k : Int) := by omega
    rw [hzk]
    clear hget hK hc0 hlen h1 h2 he hzk
    obtain ⟨e1, e2⟩ := e
    simp only at d1 HSV
    by_cases hz : e2 = 0
    ·subst hz
     rw [if_pos rfl] at HSV
     go_wp2_with fail
     go_ret2
     exact ⟨by rw [HSV.out]; rfl, HB2.out⟩
    ·rw [if_neg hz] at HSV
     have hzb : (e2 == 0) = false := by simpa using hz
     go_wp2_with fail
     go_quiet (fail)
     all_goals (try go_wp2)
     go_ret2
     exact ⟨by rw [HSV.out]; rfl, by repeat (first | exact HB2.out | apply below_drew1 | apply pw_below_drewN)⟩
end Go.Proofs.Ytaldfbmjmpkmmaa.PL
namespace Go.Proofs.Ytaldfbmjmpkmmaa.PL
open Go.RowKit Go.Proofs.YtaldfbmjmpkmmaaW.PrintWords Go.Proofs.YtaldfbmjmpkmmaaW.PrintLast Go.Proofs.YtaldfbmjmpkmmaaW.PrintMore
set_option linter.unusedVariables false
set_option linter.unusedSimpArgs false
set_option linter.unusedSectionVars false
theorem put9_blk {w : World} {b t : Nat} {u0 u1 u2 u3 u4 u5 u6 u7 u8 : Value} (h : w.heap[b]? = some (.cells #[u0, u1, u2, u3, u4, u5, u6, u7, u8] t (0, 0))) (v0 v1 v2 v3 v4 v5 v6 v7 v8 : Value) :
 (((((((((w.setCell ⟨b, 0, none⟩ (v0)).setCell ⟨b, 1, none⟩ (v1)).setCell ⟨b, 2, none⟩ (v2)).setCell ⟨b, 3, none⟩ (v3)).setCell ⟨b, 4, none⟩ (v4)).setCell ⟨b, 5, none⟩ (v5)).setCell ⟨b, 6, none⟩ (v6)).setCell ⟨b, 7, none⟩ (v7)).setCell ⟨b, 8, none⟩ (v8)).heap[b]? = some (.cells #[v0, v1, v2, v3, v4, v5, v6, v7, v8] t (0, 0)) := by
 have z0 := blk_put (cs' := #[v0, u1, u2, u3, u4, u5, u6, u7, u8]) h 0 v0 rfl
 have z1 := blk_put (cs' := #[v0, v1, u2, u3, u4, u5, u6, u7, u8]) z0 1 v1 rfl
 have z2 := blk_put (cs' := #[v0, v1, v2, u3, u4, u5, u6, u7, u8]) z1 2 v2 rfl
 have z3 := blk_put (cs' := #[v0, v1, v2, v3, u4, u5, u6, u7, u8]) z2 3 v3 rfl
 have z4 := blk_put (cs' := #[v0, v1, v2, v3, v4, u5, u6, u7, u8]) z3 4 v4 rfl
 have z5 := blk_put (cs' := #[v0, v1, v2, v3, v4, v5, u6, u7, u8]) z4 5 v5 rfl
 have z6 := blk_put (cs' := #[v0, v1, v2, v3, v4, v5, v6, u7, u8]) z5 6 v6 rfl
 have z7 := blk_put (cs' := #[v0, v1, v2, v3, v4, v5, v6, v7, u8]) z6 7 v7 rfl
 have z8 := blk_put (cs' := #[v0, v1, v2, v3, v4, v5, v6, v7, v8]) z7 8 v8 rfl
 exact z8
theorem put9_below {w0 w : World} {n b : Nat} (h : Below n w0 w) (hn : n ≤ b) (v0 v1 v2 v3 v4 v5 v6 v7 v8 : Value) :
 Below n w0 (((((((((w.setCell ⟨b, 0, none⟩ (v0)).setCell ⟨b, 1, none⟩ (v1)).setCell ⟨b, 2, none⟩ (v2)).setCell ⟨b, 3, none⟩ (v3)).setCell ⟨b, 4, none⟩ (v4)).setCell ⟨b, 5, none⟩ (v5)).setCell ⟨b, 6, none⟩ (v6)).setCell ⟨b, 7, none⟩ (v7)).setCell ⟨b, 8, none⟩ (v8)) :=
 Below.setCell (Below.setCell (Below.setCell (Below.setCell (Below.setCell (Below.setCell (Below.setCell (Below.setCell (Below.setCell (h) hn _) hn _) hn _) hn _) hn _) hn _) hn _) hn _) hn _
def mineV (k fr tw tx ts cd : Int) (text : ByteArray) (l7 : List ByteArray) (l8 : List S56) (kind me : Int) : Int := if letV k fr tw tx ts cd text l7 l8 = 0 ∧ k = kind ∧ tw = me then 0 else 70
set_option maxRecDepth 100000 in
set_option maxHeartbeats 4000000 in
theorem mine_walk (w : World) (b : Nat) (kind me : Int) (k fr tw tx ts cd : Int) (text : ByteArray) (A7 : Option Addr) (c7 : Nat) (l7 : List ByteArray) (A8 : Option Addr) (c8 : Nat) (l8 : List S56) (hr7 : Kd.C Kd.string w A7 l7.length l7) (hc7 : l7.length ≤ c7) (hr8 : Kd.C k56 w A8 l8.length l8) (hc8 : l8.length ≤ c8) (h8 : l8.length < 8796093022208) :
 Calls Try.prog 47 #[.pointer (some ⟨b, 0, none⟩), .agg #[.int .i64 k, .int .i64 fr, .int .i64 tw, .int .i64 tx, .int .i64 ts, .int .i64 cd, .string text, .slice A7 l7.length c7, .slice A8 l8.length c8], .int .i64 kind, .int .i64 me] w fun e w' => e = .returned (.int .i64 (mineV k fr tw tx ts cd text l7 l8 kind me)) ∧ Below w.heap.size w w' := by
 obtain ⟨wy, hwy⟩ : ∃ wy, wy = w.alloc (.cells #[.int .i64 k, .int .i64 fr, .int .i64 tw, .int .i64 tx, .int .i64 ts, .int .i64 cd, .string text, .slice A7 l7.length c7, .slice A8 l8.length c8] 46) := ⟨_, rfl⟩
 have hby : Below w.heap.size w wy := by rw [hwy]; exact below_alloc (Below.refl _ _) _
 have hyx : wy.heap[w.heap.size]? = some (.cells #[.int .i64 k, .int .i64 fr, .int .i64 tw, .int .i64 tx, .int .i64 ts, .int .i64 cd, .string text, .slice A7 l7.length c7, .slice A8 l8.length c8] 46 (0, 0)) := by rw [hwy]; exact blk_new _ _
 have HWY := Aside0.mk hwy
 have HBY := Aside0.mk hby
 have HYX := Aside0.mk hyx
 have HLC := Aside0.mk (letCheck_walk wy k fr tw tx ts cd text A7 c7 l7 A8 c8 l8 (Kd.C_below hr7 hby) hc7 (Kd.C_below hr8 hby) hc8 h8)
 have h7m := Kd.C_max hr7
 have h8m := Kd.C_max hr8
 have HV : Aside0 (mineV k fr tw tx ts cd text l7 l8 kind me = if letV k fr tw tx ts cd text l7 l8 = 0 ∧ k = kind ∧ tw = me then 0 else 70) := ⟨rfl⟩
 obtain ⟨q0, q1, q2, q3, q4, q5, q6, q7, q8⟩ := rec_cells hyx
 clear hr7 hc7 hr8 hc8 h8 hwy hby hyx
 generalize mineV k fr tw tx ts cd text l7 l8 kind me = mv at *
 generalize letV k fr tw tx ts cd text l7 l8 = lv at *
 go_enter Try.func47, Try.ntmps47
 go_wp2_with fail
 rw [← HWY.out]
 refine HLC.out.mono ?_
 rintro e w1 ⟨rfl, hb1⟩
 have HB1 : Aside0 (Below w.heap.size w w1) := ⟨HBY.out.trans (hb1.mono HBY.out.size)⟩
 have HX1 := Aside0.mk (blk_below HYX.out hb1)
 clear hb1 HLC HYX HBY HWY q0 q1 q2 q3 q4 q5 q6 q7 q8
 obtain ⟨q0, q1, q2, q3, q4, q5, q6, q7, q8⟩ := rec_cells HX1.out
 by_cases h1 : lv = 0
 ·subst h1
  by_cases h2 : k = kind
  ·have d2 : (k != kind) = false := by simpa using h2
   by_cases h3 : tw = me
   ·have d3 : (tw != me) = false := by simpa using h3
    rw [if_pos ⟨rfl, h2, h3⟩] at HV
    obtain rfl := HV.out
    clear HV h2 h3
    go_wp2_with fail
    go_ret
    exact ⟨rfl, HB1.out⟩
   ·have d3 : (tw != me) = true := by simpa using h3
    rw [if_neg (fun h => h3 h.2.2)] at HV
    obtain rfl := HV.out
    clear HV h2 h3
    go_wp2_with fail
    go_ret
    exact ⟨rfl, HB1.out⟩
  ·have d2 : (k != kind) = true := by simpa using h2
   rw [if_neg (fun h => h2 h.2.1)] at HV
   obtain rfl := HV.out
   clear HV h2
   go_wp2_with fail
   go_ret
   exact ⟨rfl, HB1.out⟩
 ·have d1 : (lv != 0) = true := by simpa using h1
  rw [if_neg (fun h => h1 h.1)] at HV
  obtain rfl := HV.out
  clear HV h1
  go_wp2_with fail
  go_ret
  exact ⟨rfl, HB1.out⟩
end Go.Proofs.Ytaldfbmjmpkmmaa.PL
namespace Go.Proofs.Ytaldfbmjmpkmmaa.PL
open Go.RowKit Go.Proofs.YtaldfbmjmpkmmaaW.PrintWords Go.Proofs.YtaldfbmjmpkmmaaW.PrintLast Go.Proofs.YtaldfbmjmpkmmaaW.PrintMore Go.Shelf Go.Maps Go.WideMaps Go.Proofs.Ytaldfbmjmpkmmaa.Mk
set_option linter.unusedVariables false
set_option linter.unusedSimpArgs false
set_option linter.unusedSectionVars false
set_option maxRecDepth 100000 in
set_option maxHeartbeats 4000000 in
theorem read_walk {w : World} {ok : Nat → Prop} {b N : Nat} {s : Sh} (h : ShAt w ok b N s) (k : ByteArray) (hk : k.size ≤ maxLen) (t : Int) :
 Calls Try.prog 12 #[.pointer (some ⟨b, 0, none⟩), .string k, .int .i64 t] w fun e w' => e = .returned (.tuple #[.int .i64 (readV s (kb k) t).1, .agg #[.int .i64 (readV s (kb k) t).2.f0, .string (readV s (kb k) t).2.f1, .bool (readV s (kb k) t).2.f2]]) ∧ Below w.heap.size w w' := by
 obtain ⟨w1, hw1⟩ : ∃ w1, w1 = w.alloc (.cells #[.int .i64 0, .string ⟨#[]⟩, .bool false] 29) := ⟨_, rfl⟩
 have HW := Aside0.mk hw1
 have hB1 : Below w.heap.size w w1 := by rw [hw1]; exact below_alloc (Below.refl _ w) _
 have hbx : w1.heap[w.heap.size]? = some (.cells #[.int .i64 0, .string ⟨#[]⟩, .bool false] 29 (0, 0)) := by rw [hw1]; exact blk_new _ _
 have H1 := h.below hB1
 clear hw1
 have HHD := Aside0.mk (held_walk H1 k false)
 obtain ⟨bk, bp, ve, fk, fp, hp⟩ := H1
 obtain ⟨c0, c1, c2, c3⟩ := hp.cells
 have HP := Aside0.mk hp
 have HB1 := Aside0.mk hB1
 have BX1 := Aside0.mk hbx
 have HS := Aside0.mk hk
 have hu := Try.underlying29
 have HV : Aside0 (readV s (kb k) t = if t < s.over then (4, zVer) else if heldV s (kb k) false = true then (3, zVer) else if (atV (look s.K (kb k)) t).2 = false then (0, (atV (look s.K (kb k)) t).1) else if (atV (look s.K (kb k)) t).1.f2 = true then (2, (atV (look s.K (kb k)) t).1) else (1, (atV (look s.K (kb k)) t).1)) := ⟨rfl⟩
 have x0 := blk_cell hbx 0
 have x1 := blk_cell hbx 1
 have x2 := blk_cell hbx 2
 have g0 := blk_frozen hbx 0
 have g1 := blk_frozen hbx 1
 have g2 := blk_frozen hbx 2
 clear hp hB1 hbx hk h
 have c3w := c3
 rw [HW.out] at c3w
 by_cases ho : t < s.over
 ·rw [if_pos ho] at HV
  have BXW := BX1
  have HBW := HB1
  rw [HW.out] at x0 x1 x2 g0 g1 g2 BXW HBW
  have d1 : decide (t < s.over) = true := decide_eq_true ho
  clear c0 c1 c2 c3
  go_enter Try.func12, Try.ntmps12
  go_wp2_with fail
  go_region
  all_goals (try go_wp2_with fail)
  (try simp only [Exit.inBlock, Exit.then])
  refine bodyPost_ret (results_list (rs := [.tmp 6, .cell 7 29]) rfl (by simp) (Vals.tmp (Vals.cell w.heap.size 29 _ (0, 0) _ rfl (blk_drew BXW.out) Try.underlying29 rfl (by kernel_rfl) Vals.nil))) rfl ?_
  exact ⟨by rw [HV.out]; rfl, below_drew1 HBW.out⟩
 ·rw [if_neg ho] at HV
  have d1 : decide (t < s.over) = false := decide_eq_false ho
  go_enter Try.func12, Try.ntmps12
  go_wp2_with fail
  rw [← HW.out]
  refine HHD.out.mono ?_
  rintro e w2 ⟨rfl, hb2⟩
  have HB2 : Aside0 (Below w.heap.size w w2) := ⟨HB1.out.trans (hb2.mono HB1.out.size)⟩
  have HP2 := Aside0.mk (HP.out.below hb2)
  have BX2 := Aside0.mk (blk_below BX1.out hb2)
  clear hb2 x0 x1 x2 g0 g1 g2 c0 c1 c2 c3 c3w HP BX1 HB1 HHD
  obtain ⟨c0, c1, c2, c3⟩ := HP2.out.cells
  have x0 := blk_cell BX2.out 0
  have x1 := blk_cell BX2.out 1
  have x2 := blk_cell BX2.out 2
  have g0 := blk_frozen BX2.out 0
  have g1 := blk_frozen BX2.out 1
  have g2 := blk_frozen BX2.out 2
  cases hh : heldV s (kb k) false with
  | true =>
   rw [hh, if_pos rfl] at HV
   clear hh
   go_wp2_with fail
   go_region
   all_goals (try go_wp2_with fail)
   (try simp only [Exit.inBlock, Exit.then])
   refine bodyPost_ret (results_list (rs := [.tmp 6, .cell 7 29]) rfl (by simp) (Vals.tmp (Vals.cell w.heap.size 29 _ (0, 0) _ rfl (blk_drew (blk_put (blk_put (blk_put BX2.out 0 _ rfl) 1 _ rfl) 2 _ rfl)) Try.underlying29 rfl (by kernel_rfl) Vals.nil))) rfl ?_
   exact ⟨by rw [HV.out]; rfl, below_drew1 (Below.setCell (Below.setCell (Below.setCell HB2.out (Nat.le_refl _) _) (Nat.le_refl _) _) (Nat.le_refl _) _)⟩
  | false =>
   rw [hh, if_neg (by simp)] at HV
   clear hh
   obtain ⟨A, c, hv, hl, hC⟩ := HP2.out.chain (kb k)
   have HAT := Aside0.mk (at_walk w2 A c (look s.K (kb k)) t hC hl (HP2.out.good.keys.look _))
   have HVL := Aside0.mk hv
   clear hv hl hC
   generalize atV (look s.K (kb k)) t = r at *
   generalize (look s.K (kb k)) = l at *
   go_wp2_with (at_lookup; refine MapL.at_ HP2.out.keys keyedS rfl _ _ 74 81 rfl Try.underlying74 (zeroC _) rfl rfl (key_sk HS.out) ?_; rw [HVL.out])
   refine HAT.out.mono ?_
   rintro e w3 ⟨rfl, hb3⟩
   have HB3 : Aside0 (Below w.heap.size w w3) := ⟨HB2.out.trans (hb3.mono HB2.out.size)⟩
   have BX3 := Aside0.mk (blk_below BX2.out hb3)
   clear hb3 x0 x1 x2 g0 g1 g2 c0 c1 c2 c3 HP2 BX2 HB2 HAT HVL
   have x0 := blk_cell BX3.out 0
   have x1 := blk_cell BX3.out 1
   have x2 := blk_cell BX3.out 2
   have g0 := blk_frozen BX3.out 0
   have g1 := blk_frozen BX3.out 1
   have g2 := blk_frozen BX3.out 2
   obtain ⟨⟨a0, a1, a2⟩, q⟩ := r
   simp only at HV ⊢
   cases q with
   | false =>
    rw [if_pos rfl] at HV
    go_wp2_with fail
    go_region
    all_goals (try go_wp2_with fail)
    (try simp only [Exit.inBlock, Exit.then])
    refine bodyPost_ret (results_list (rs := [.tmp 6, .cell 7 29]) rfl (by simp) (Vals.tmp (Vals.cell w.heap.size 29 _ (0, 0) _ rfl (blk_drew (blk_put (blk_put (blk_put (blk_put (blk_put (blk_put BX3.out 0 _ rfl) 1 _ rfl) 2 _ rfl) 0 _ rfl) 1 _ rfl) 2 _ rfl)) Try.underlying29 rfl (by kernel_rfl) Vals.nil))) rfl ?_
    exact ⟨by rw [HV.out]; rfl, below_drew1 (Below.setCell (Below.setCell (Below.setCell (Below.setCell (Below.setCell (Below.setCell HB3.out (Nat.le_refl _) _) (Nat.le_refl _) _) (Nat.le_refl _) _) (Nat.le_refl _) _) (Nat.le_refl _) _) (Nat.le_refl _) _)⟩
   | true =>
    rw [if_neg (by simp)] at HV
    cases a2 with
    | true =>
     rw [if_pos rfl] at HV
     go_wp2_with fail
     go_region
     all_goals (try go_wp2_with fail)
     (try simp only [Exit.inBlock, Exit.then])
     refine bodyPost_ret (results_list (rs := [.tmp 6, .cell 7 29]) rfl (by simp) (Vals.tmp (Vals.cell w.heap.size 29 _ (0, 0) _ rfl (blk_drew (blk_put (blk_put (blk_put (blk_put (blk_put (blk_put BX3.out 0 _ rfl) 1 _ rfl) 2 _ rfl) 0 _ rfl) 1 _ rfl) 2 _ rfl)) Try.underlying29 rfl (by kernel_rfl) Vals.nil))) rfl ?_
     exact ⟨by rw [HV.out]; rfl, below_drew1 (Below.setCell (Below.setCell (Below.setCell (Below.setCell (Below.setCell (Below.setCell HB3.out (Nat.le_refl _) _) (Nat.le_refl _) _) (Nat.le_refl _) _) (Nat.le_refl _) _) (Nat.le_refl _) _) (Nat.le_refl _) _)⟩
    | false =>
     rw [if_neg (by simp)] at HV
     go_wp2_with fail
     go_region
     all_goals (try go_wp2_with fail)
     (try simp only [Exit.inBlock, Exit.then])
     refine bodyPost_ret (results_list (rs := [.tmp 6, .cell 7 29]) rfl (by simp) (Vals.tmp (Vals.cell w.heap.size 29 _ (0, 0) _ rfl (blk_drew (blk_put (blk_put (blk_put (blk_put (blk_put (blk_put BX3.out 0 _ rfl) 1 _ rfl) 2 _ rfl) 0 _ rfl) 1 _ rfl) 2 _ rfl)) Try.underlying29 rfl (by kernel_rfl) Vals.nil))) rfl ?_
     exact ⟨by rw [HV.out]; rfl, below_drew1 (Below.setCell (Below.setCell (Below.setCell (Below.setCell (Below.setCell (Below.setCell HB3.out (Nat.le_refl _) _) (Nat.le_refl _) _) (Nat.le_refl _) _) (Nat.le_refl _) _) (Nat.le_refl _) _) (Nat.le_refl _) _)⟩
end Go.Proofs.Ytaldfbmjmpkmmaa.PL
