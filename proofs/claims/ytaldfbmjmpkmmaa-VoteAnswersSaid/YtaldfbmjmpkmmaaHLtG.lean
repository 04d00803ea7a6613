/- vote.Shard, walked. -/
import Derived.Test.YtaldfbmjmpkmmaaHLtF
import Derived.Deep.RegionHeld3
namespace Go.Proofs.Ytaldfbmjmpkmmaa.PL
open Go.RowKit Go.Proofs.YtaldfbmjmpkmmaaW.PrintWords Go.Proofs.YtaldfbmjmpkmmaaW.PrintLast Go.Proofs.YtaldfbmjmpkmmaaW.PrintMore
set_option linter.unusedVariables false
set_option linter.unusedSimpArgs false
set_option linter.unusedSectionVars false
theorem let_key1 {fr tw tx ts cd : Int} {text : ByteArray} {l7 : List ByteArray} {l8 : List S56} (h : letV 1 fr tw tx ts cd text l7 l8 = 0) : ∃ x, l7 = [x] ∧ keyB x = true := by
 have h3 := (let_zero h).2.2
 unfold keysV at h3
 rw [if_pos (.inr rfl)] at h3
 match l7, h3 with
 | [], h3 => cases h3
 | [x], h3 => exact ⟨x, rfl, h3⟩
 | x :: y :: r, h3 => cases h3
theorem belT {a b c : World} (h : Below a.heap.size a b) (hq : Below b.heap.size b c) : Below a.heap.size a c := h.trans (hq.mono h.size)
theorem belS {a q : World} {n g : Nat} (h : Below n a q) (hg : n ≤ g) (x y z : Value) : Below n a (((q.setCell ⟨g, 0, none⟩ x).setCell ⟨g, 1, none⟩ y).setCell ⟨g, 2, none⟩ z) := ((h.setCell hg _).setCell hg _).setCell hg _
theorem put3_other {w : World} {b g : Nat} {o : Obj} (h : w.heap[g]? = some o) (hne : g ≠ b) (i j k : Nat) (u v t : Value) : (((w.setCell ⟨b, i, none⟩ u).setCell ⟨b, j, none⟩ v).setCell ⟨b, k, none⟩ t).heap[g]? = some o :=
 (Below.heap_setCell _ _ _ g hne).trans ((Below.heap_setCell _ _ _ g hne).trans ((Below.heap_setCell _ _ _ g hne).trans h))
theorem put9_other {w : World} {b g : Nat} {o : Obj} (h : w.heap[g]? = some o) (hne : g ≠ b) (v0 v1 v2 v3 v4 v5 v6 v7 v8 : Value) :
 (((((((((w.setCell ⟨b, 0, none⟩ (v0)).setCell ⟨b, 1, none⟩ (v1)).setCell ⟨b, 2, none⟩ (v2)).setCell ⟨b, 3, none⟩ (v3)).setCell ⟨b, 4, none⟩ (v4)).setCell ⟨b, 5, none⟩ (v5)).setCell ⟨b, 6, none⟩ (v6)).setCell ⟨b, 7, none⟩ (v7)).setCell ⟨b, 8, none⟩ (v8)).heap[g]? = some o :=
 (Below.heap_setCell _ _ _ g hne).trans ((Below.heap_setCell _ _ _ g hne).trans ((Below.heap_setCell _ _ _ g hne).trans ((Below.heap_setCell _ _ _ g hne).trans ((Below.heap_setCell _ _ _ g hne).trans ((Below.heap_setCell _ _ _ g hne).trans ((Below.heap_setCell _ _ _ g hne).trans ((Below.heap_setCell _ _ _ g hne).trans ((Below.heap_setCell _ _ _ g hne).trans (h)))))))))
set_option maxRecDepth 100000 in
set_option maxHeartbeats 8000000 in
theorem shard_yes {w : World} {ok : Nat → Prop} {b N : Nat} {s : Sh} (h : ShAt w ok b N s) (me fr tw tx ts cd : Int) (text : ByteArray) (ad : Addr) (c7 : Nat) (x : ByteArray) (A8 : Option Addr) (c8 : Nat) (l8 : List S56) (hr7 : Kd.C Kd.string w (some ad) 1 [x]) (hc7 : 1 ≤ c7) (hr8 : Kd.C k56 w A8 l8.length l8) (hc8 : l8.length ≤ c8) (h8 : l8.length < 8796093022208) (hx : x.size ≤ maxLen) (hm : mineV 1 fr tw tx ts cd text [x] l8 1 me = 0) :
 Calls Try.prog 19 #[.pointer (some ⟨b, 0, none⟩), .int .i64 me, .agg #[.int .i64 1, .int .i64 fr, .int .i64 tw, .int .i64 tx, .int .i64 ts, .int .i64 cd, .string text, .slice (some ad) 1 c7, .slice A8 l8.length c8]] w fun e w' => ∃ g, e = .returned (.tuple #[.agg #[.int .i64 2, .int .i64 tw, .int .i64 fr, .int .i64 tx, .int .i64 (readV s (kb x) ts).2.f0, .int .i64 (readV s (kb x) ts).1, .string (readV s (kb x) ts).2.f1, .slice (some ⟨g, 0, none⟩) 1 1, .slice none 0 0], .int .i64 0]) ∧ w'.heap[g]? = some (.cells #[.string x] 9 (0, 0)) ∧ Below w.heap.size w w' := by
 obtain ⟨wy, hwy⟩ : ∃ wy, wy = ((w.alloc (.cells #[.int .i64 1, .int .i64 fr, .int .i64 tw, .int .i64 tx, .int .i64 ts, .int .i64 cd, .string text, .slice (some ad) 1 c7, .slice A8 l8.length c8] 46)).alloc (.cells #[.int .i64 0, .int .i64 0, .int .i64 0, .int .i64 0, .int .i64 0, .int .i64 0, .string ⟨#[]⟩, .slice none 0 0, .slice none 0 0] 46)) := ⟨_, rfl⟩
 have hby : Below w.heap.size w wy := by rw [hwy]; exact below_alloc (below_alloc (Below.refl _ _) _) _
 have hyx : wy.heap[w.heap.size]? = some (.cells #[.int .i64 1, .int .i64 fr, .int .i64 tw, .int .i64 tx, .int .i64 ts, .int .i64 cd, .string text, .slice (some ad) 1 c7, .slice A8 l8.length c8] 46 (0, 0)) := by rw [hwy]; exact blk_alloc (blk_new _ _) _
 have hyz : wy.heap[w.heap.size + 1]? = some (.cells #[.int .i64 0, .int .i64 0, .int .i64 0, .int .i64 0, .int .i64 0, .int .i64 0, .string ⟨#[]⟩, .slice none 0 0, .slice none 0 0] 46 (0, 0)) := by
  rw [hwy]
  have h := blk_new (w.alloc (.cells #[.int .i64 1, .int .i64 fr, .int .i64 tw, .int .i64 tx, .int .i64 ts, .int .i64 cd, .string text, .slice (some ad) 1 c7, .slice A8 l8.length c8] 46)) (.cells #[.int .i64 0, .int .i64 0, .int .i64 0, .int .i64 0, .int .i64 0, .int .i64 0, .string ⟨#[]⟩, .slice none 0 0, .slice none 0 0] 46)
  rwa [show (w.alloc (.cells #[.int .i64 1, .int .i64 fr, .int .i64 tw, .int .i64 tx, .int .i64 ts, .int .i64 cd, .string text, .slice (some ad) 1 c7, .slice A8 l8.length c8] 46)).heap.size = w.heap.size + 1 by simp] at h
 have HWY := Aside0.mk hwy
 have HBY := Aside0.mk hby
 have HYX := Aside0.mk hyx
 have HYZ := Aside0.mk hyz
 have HSH := Aside0.mk (h.below hby)
 have hmi := mine_walk wy b 1 me 1 fr tw tx ts cd text (some ad) c7 [x] A8 c8 l8 (Kd.C_below hr7 hby) hc7 (Kd.C_below hr8 hby) hc8 h8
 rw [hm] at hmi
 have HMI : Aside0 (Calls Try.prog 47 #[.pointer (some ⟨b, 0, none⟩), .agg #[.int .i64 1, .int .i64 fr, .int .i64 tw, .int .i64 tx, .int .i64 ts, .int .i64 cd, .string text, .slice (some ad) 1 c7, .slice A8 l8.length c8], .int .i64 1, .int .i64 me] wy fun e w' => e = .returned (.int .i64 0) ∧ Below wy.heap.size wy w') := ⟨hmi⟩
 have HBK : Aside0 (∀ W, Calls Try.prog 48 #[.agg #[.int .i64 1, .int .i64 fr, .int .i64 tw, .int .i64 tx, .int .i64 ts, .int .i64 cd, .string text, .slice (some ad) 1 c7, .slice A8 l8.length c8], .int .i64 2] W fun e w' => e = .returned (.agg #[.int .i64 2, .int .i64 tw, .int .i64 fr, .int .i64 tx, .int .i64 0, .int .i64 0, .string ⟨#[]⟩, .slice none 0 0, .slice none 0 0]) ∧ Below W.heap.size W w') := ⟨fun W => back_walk W 2 1 fr tw tx ts cd text (some ad) 1 c7 A8 l8.length c8⟩
 have h8m := Kd.C_max hr8
 obtain ⟨_, had, hz0⟩ := strK_at0 hr7
 obtain rfl := Option.some.inj had
 have hz0' : w.cell? ad = some (.string x) := hz0
 have HZ := Aside0.mk hz0'
 have HXS := Aside0.mk hx
 have hu := Try.underlying46
 clear hr7 hr8 hc8 h8 hby hyx hyz hwy h hm hmi had hz0 hz0' hx
 go_enter Try.func19, Try.ntmps19
 go_wp2_with fail
 rw [← HWY.out]
 refine HMI.out.mono ?_
 rintro e w1 ⟨rfl, hb1⟩
 have HB1 : Aside0 (Below w.heap.size w w1) := ⟨HBY.out.trans (hb1.mono HBY.out.size)⟩
 have hx1 := blk_below HYX.out hb1
 have hz1 := blk_below HYZ.out hb1
 have HX1 := Aside0.mk hx1
 have HZ1 := Aside0.mk hz1
 have HS1 := Aside0.mk (HSH.out.below hb1)
 obtain ⟨q0, q1, q2, q3, q4, q5, q6, q7, q8⟩ := rec_cells hx1
 clear hb1 HMI HYX HYZ HBY HWY HSH hx1 hz1
 go_wp2_with fail
 refine (HBK.out _).mono ?_
 rintro e w2 ⟨rfl, hb2⟩
 have HB2 : Aside0 (Below w.heap.size w w2) := ⟨HB1.out.trans (hb2.mono HB1.out.size)⟩
 obtain ⟨w3, hw3⟩ : ∃ w3, w3 = w2.alloc (.cells #[.int .i64 2, .int .i64 tw, .int .i64 fr, .int .i64 tx, .int .i64 0, .int .i64 0, .string ⟨#[]⟩, .slice none 0 0, .slice none 0 0] 46) := ⟨_, rfl⟩
 have hb3 : Below w2.heap.size w2 w3 := by rw [hw3]; exact below_alloc (Below.refl _ _) _
 have hy3 : w3.heap[w2.heap.size]? = some (.cells #[.int .i64 2, .int .i64 tw, .int .i64 fr, .int .i64 tx, .int .i64 0, .int .i64 0, .string ⟨#[]⟩, .slice none 0 0, .slice none 0 0] 46 (0, 0)) := by rw [hw3]; exact blk_new _ _
 have hx3 := blk_below (blk_below HX1.out hb2) hb3
 have hz3 := blk_below (blk_below HZ1.out hb2) hb3
 have HB3 : Aside0 (Below w.heap.size w w3) := ⟨HB2.out.trans (hb3.mono HB2.out.size)⟩
 have HG3 : Aside0 (w.heap.size + 1 < w2.heap.size) := ⟨blk_lt (blk_below HZ1.out hb2)⟩
 have z0 := pw_cell_below HB3.out HZ.out
 have HW3 := Aside0.mk hw3
 clear q0 q1 q2 q3 q4 q5 q6 q7 q8
 obtain ⟨q0, q1, q2, q3, q4, q5, q6, q7, q8⟩ := rec_cells hx3
 rw [hw3] at q0 q1 q2 q3 q4 q5 q6 q7 q8 z0
 go_upto_region 6 with (fail)
 obtain ⟨w5, hw5⟩ : ∃ w5, w5 = ((w2.alloc (.cells #[.int .i64 2, .int .i64 tw, .int .i64 fr, .int .i64 tx, .int .i64 0, .int .i64 0, .string ⟨#[]⟩, .slice (some ⟨w2.heap.size + 1, 0, none⟩) 1 1, .slice none 0 0] 46)).alloc (.cells #[.string x] 9)) := ⟨_, rfl⟩
 have hy5 : w5.heap[w2.heap.size]? = some (.cells #[.int .i64 2, .int .i64 tw, .int .i64 fr, .int .i64 tx, .int .i64 0, .int .i64 0, .string ⟨#[]⟩, .slice (some ⟨w2.heap.size + 1, 0, none⟩) 1 1, .slice none 0 0] 46 (0, 0)) := by rw [hw5]; exact blk_alloc (blk_new _ _) _
 have hs5 : w5.heap[w2.heap.size + 1]? = some (.cells #[.string x] 9 (0, 0)) := by
  rw [hw5]
  have h := blk_new (w2.alloc (.cells #[.int .i64 2, .int .i64 tw, .int .i64 fr, .int .i64 tx, .int .i64 0, .int .i64 0, .string ⟨#[]⟩, .slice (some ⟨w2.heap.size + 1, 0, none⟩) 1 1, .slice none 0 0] 46)) (.cells #[.string x] 9)
  rwa [show (w2.alloc (.cells #[.int .i64 2, .int .i64 tw, .int .i64 fr, .int .i64 tx, .int .i64 0, .int .i64 0, .string ⟨#[]⟩, .slice (some ⟨w2.heap.size + 1, 0, none⟩) 1 1, .slice none 0 0] 46)).heap.size = w2.heap.size + 1 by simp] at h
 have hb5 : Below w2.heap.size w2 w5 := by rw [hw5]; exact below_alloc (below_alloc (Below.refl _ _) _) _
 have hx5 := blk_below (blk_below HX1.out hb2) hb5
 have hz5 := blk_below (blk_below HZ1.out hb2) hb5
 have HB5 : Aside0 (Below w.heap.size w w5) := ⟨HB2.out.trans (hb5.mono HB2.out.size)⟩
 have HS5 := Aside0.mk ((HS1.out.below hb2).below hb5)
 have HW5 := Aside0.mk hw5
 have HX5 := Aside0.mk hx5
 have HY5 := Aside0.mk hy5
 have HZ5 := Aside0.mk hz5
 have HT5 := Aside0.mk hs5
 clear hb2 hb3 hb5 hy3 hx3 hz3 hw3 hw5 hx5 hy5 hz5 hs5 HB1 HB2 HB3 HX1 HZ1 HS1 HBK HW3 z0 q0 q1 q2 q3 q4 q5 q6 q7 q8
 rw [← HW5.out]
 clear HW5
 have HRD : Aside0 (∀ W, Below w5.heap.size w5 W → Calls Try.prog 12 #[.pointer (some ⟨b, 0, none⟩), .string x, .int .i64 ts] W fun e w' => e = .returned (.tuple #[.int .i64 (readV s (kb x) ts).1, .agg #[.int .i64 (readV s (kb x) ts).2.f0, .string (readV s (kb x) ts).2.f1, .bool (readV s (kb x) ts).2.f2]]) ∧ Below W.heap.size W w') := ⟨fun W hW => read_walk (HS5.out.below hW) x HXS.out ts⟩
 have KEEP : Aside0 (∀ W, Below w5.heap.size w5 W → W.cell? ⟨w.heap.size, 7, none⟩ = some (.slice (some ad) 1 c7) ∧ W.cell? ⟨w.heap.size, 4, none⟩ = some (.int .i64 ts) ∧ W.cell? ad = some (.string x)) := ⟨fun W hW => ⟨(blk_cell (blk_below HX5.out hW) 7).trans rfl, (blk_cell (blk_below HX5.out hW) 4).trans rfl, pw_cell_below (HB5.out.trans (hW.mono HB5.out.size)) HZ.out⟩⟩
 obtain ⟨rv, hrv⟩ : ∃ rv, readV s (kb x) ts = rv := ⟨_, rfl⟩
 have HEQ := Aside0.mk hrv
 rw [hrv] at HRD
 clear hrv HS5 HXS HZ
 obtain ⟨cd', v0, v1, v2⟩ := rv
 try simp only at HRD
 go_cut [10, 11] (fun va vb wd => ∃ g, va = .int .i64 cd' ∧ vb = .pointer (some ⟨g, 0, none⟩) ∧ Aside0 (wd.heap[g]? = some (.cells #[.int .i64 v0, .string v1, .bool v2] 29 (0, 0)) ∧ Below w5.heap.size w5 wd))
 case first =>
  go_region_held3 (fun w' => w'.cell? ⟨w.heap.size, 7, none⟩ = some (.slice (some ad) 1 c7) ∧ w'.cell? ⟨w.heap.size, 4, none⟩ = some (.int .i64 ts) ∧ w'.cell? ad = some (.string x)) (exact KEEP.out _ (by repeat (first | exact HQ.out | exact Below.refl _ _ | apply below_drew1 | apply below_alloc | exact belS HQ.out (Nat.le_refl _) _ _ _ | exact belS HQ.out HQ.out.size _ _ _ | exact belS (below_alloc HQ.out _) HQ.out.size _ _ _)))
   (first
    | (go_simp; go_at_call 12; refine (HRD.out _ (by repeat (first | exact HQ.out | exact Below.refl _ _ | apply below_drew1 | apply below_alloc | exact belS HQ.out (Nat.le_refl _) _ _ _ | exact belS HQ.out HQ.out.size _ _ _ | exact belS (below_alloc HQ.out _) HQ.out.size _ _ _))).mono ?_; rintro e wq ⟨rfl, hq⟩; have HQ := Aside0.mk (belT (a := w5) (by repeat (first | exact HQ.out | exact Below.refl _ _ | apply below_drew1 | apply below_alloc | exact belS HQ.out (Nat.le_refl _) _ _ _ | exact belS HQ.out HQ.out.size _ _ _ | exact belS (below_alloc HQ.out _) HQ.out.size _ _ _)) hq); (first | (have hgx := blk_below (show ((w5.drew).alloc (.cells #[.int .i64 0, .string ⟨#[]⟩, .bool false] 29)).heap[w5.heap.size]? = some (.cells #[.int .i64 0, .string ⟨#[]⟩, .bool false] 29 (0, 0)) from blk_new _ _) hq; have HGX := Aside0.mk hgx; have gx0 := blk_cell hgx 0; have gx1 := blk_cell hgx 1; have gx2 := blk_cell hgx 2; have fx0 := blk_frozen hgx 0; have fx1 := blk_frozen hgx 1; have fx2 := blk_frozen hgx 2; clear hgx hq) | clear hq)))
  all_goals (try go_wp2_with fail)
  all_goals go_meet
  all_goals (case rel => first | exact ⟨wq.heap.size, rfl, rfl, ⟨blk_new _ _, below_alloc HQ.out _⟩⟩ | exact ⟨w5.heap.size, rfl, rfl, ⟨blk_put (blk_put (blk_put HGX.out 0 _ rfl) 1 _ rfl) 2 _ rfl, belS HQ.out (Nat.le_refl _) _ _ _⟩⟩)
 case rest =>
  obtain ⟨g, rfl, rfl, HG⟩ := hcut
  obtain ⟨w6, hw6⟩ : ∃ w6, w6 = wc := ⟨_, rfl⟩
  subst hw6
  have HB6 : Aside0 (Below w.heap.size w w6) := ⟨HB5.out.trans (HG.out.2.mono HB5.out.size)⟩
  have hy6 := blk_below HY5.out HG.out.2
  have hg6 := HG.out.1
  have HY6 := Aside0.mk hy6
  have HZ6 := Aside0.mk (blk_below HZ5.out HG.out.2)
  have HT6 := Aside0.mk (blk_below HT5.out HG.out.2)
  clear KEEP HRD HG HX5 HY5 HZ5 HT5 HB5
  have g0 := (blk_cell hg6 0).trans rfl
  have g1 := (blk_cell hg6 1).trans rfl
  obtain ⟨x0, x1, x2, x3, x4, x5, x6, x7, x8⟩ := rec_cells hy6
  have f0 := blk_frozen hy6 0
  have f1 := blk_frozen hy6 1
  have f2 := blk_frozen hy6 2
  have f3 := blk_frozen hy6 3
  have f4 := blk_frozen hy6 4
  have f5 := blk_frozen hy6 5
  have f6 := blk_frozen hy6 6
  have f7 := blk_frozen hy6 7
  have f8 := blk_frozen hy6 8
  clear hg6 hy6
  go_upto_region 7 with (fail)
  go_cut [10] (fun va wd => va = .int .i64 cd' ∧ Aside0 (wd.heap[w2.heap.size]? = some (.cells #[.int .i64 2, .int .i64 tw, .int .i64 fr, .int .i64 tx, .int .i64 v0, .int .i64 cd', .string v1, .slice (some ⟨w2.heap.size + 1, 0, none⟩) 1 1, .slice none 0 0] 46 (0, 0)) ∧ wd.heap[w.heap.size + 1]? = some (.cells #[.int .i64 0, .int .i64 0, .int .i64 0, .int .i64 0, .int .i64 0, .int .i64 0, .string ⟨#[]⟩, .slice none 0 0, .slice none 0 0] 46 (0, 0)) ∧ wd.heap[w2.heap.size + 1]? = some (.cells #[.string x] 9 (0, 0)) ∧ Below w.heap.size w wd))
  case first =>
   go_region
   all_goals (try go_wp2_with fail)
   all_goals go_meet
   all_goals (case rel => exact ⟨rfl, ⟨blk_drew (blk_put (blk_put (blk_put HY6.out 5 (.int .i64 cd') rfl) 4 (.int .i64 v0) rfl) 6 (.string v1) rfl), blk_drew (put3_other HZ6.out (by have := HG3.out; omega) _ _ _ _ _ _), blk_drew (put3_other HT6.out (by omega) _ _ _ _ _ _), below_drew1 (Below.setCell (Below.setCell (Below.setCell HB6.out (show w.heap.size ≤ w2.heap.size by have := HG3.out; omega) _) (show w.heap.size ≤ w2.heap.size by have := HG3.out; omega) _) (show w.heap.size ≤ w2.heap.size by have := HG3.out; omega) _)⟩⟩)
  case rest =>
   obtain ⟨rfl, H7⟩ := hcut
   clear HY6 HZ6 HT6 HB6 x0 x1 x2 x3 x4 x5 x6 x7 x8 f0 f1 f2 f3 f4 f5 f6 f7 f8 g0 g1
   obtain ⟨x0, x1, x2, x3, x4, x5, x6, x7, x8⟩ := rec_cells H7.out.1
   have f0 := blk_frozen H7.out.2.1 0
   have f1 := blk_frozen H7.out.2.1 1
   have f2 := blk_frozen H7.out.2.1 2
   have f3 := blk_frozen H7.out.2.1 3
   have f4 := blk_frozen H7.out.2.1 4
   have f5 := blk_frozen H7.out.2.1 5
   have f6 := blk_frozen H7.out.2.1 6
   have f7 := blk_frozen H7.out.2.1 7
   have f8 := blk_frozen H7.out.2.1 8
   obtain ⟨r0, r1, r2, r3, r4, r5, r6, r7, r8⟩ := rec_cells H7.out.2.1
   go_wp2_with fail
   obtain ⟨w6, hw6⟩ : ∃ w6, w6 = (((((((((wc.setCell ⟨w.heap.size + 1, 0, none⟩ (.int .i64 2)).setCell ⟨w.heap.size + 1, 1, none⟩ (.int .i64 tw)).setCell ⟨w.heap.size + 1, 2, none⟩ (.int .i64 fr)).setCell ⟨w.heap.size + 1, 3, none⟩ (.int .i64 tx)).setCell ⟨w.heap.size + 1, 4, none⟩ (.int .i64 v0)).setCell ⟨w.heap.size + 1, 5, none⟩ (.int .i64 cd')).setCell ⟨w.heap.size + 1, 6, none⟩ (.string v1)).setCell ⟨w.heap.size + 1, 7, none⟩ (.slice (some ⟨w2.heap.size + 1, 0, none⟩) 1 1)).setCell ⟨w.heap.size + 1, 8, none⟩ (.slice none 0 0)) := ⟨_, rfl⟩
   have hz : w6.heap[w.heap.size + 1]? = some (.cells #[.int .i64 2, .int .i64 tw, .int .i64 fr, .int .i64 tx, .int .i64 v0, .int .i64 cd', .string v1, .slice (some ⟨w2.heap.size + 1, 0, none⟩) 1 1, .slice none 0 0] 46 (0, 0)) := by rw [hw6]; exact put9_blk H7.out.2.1 (.int .i64 2) (.int .i64 tw) (.int .i64 fr) (.int .i64 tx) (.int .i64 v0) (.int .i64 cd') (.string v1) (.slice (some ⟨w2.heap.size + 1, 0, none⟩) 1 1) (.slice none 0 0)
   have hzb : Below w.heap.size w w6 := by rw [hw6]; exact put9_below (H7.out.2.2.2) (Nat.le_succ _) (.int .i64 2) (.int .i64 tw) (.int .i64 fr) (.int .i64 tx) (.int .i64 v0) (.int .i64 cd') (.string v1) (.slice (some ⟨w2.heap.size + 1, 0, none⟩) 1 1) (.slice none 0 0)
   have hs : w6.heap[w2.heap.size + 1]? = some (.cells #[.string x] 9 (0, 0)) := by rw [hw6]; exact put9_other H7.out.2.2.1 (by have := HG3.out; omega) (.int .i64 2) (.int .i64 tw) (.int .i64 fr) (.int .i64 tx) (.int .i64 v0) (.int .i64 cd') (.string v1) (.slice (some ⟨w2.heap.size + 1, 0, none⟩) 1 1) (.slice none 0 0)
   rw [← hw6]
   clear hw6
   (try simp only [Exit.inBlock, Exit.then])
   refine bodyPost_ret (results_list (rs := [.cell 6 46, .tmp 7]) rfl (by simp) (Vals.cell (w.heap.size + 1) 46 _ (0, 0) _ rfl hz Try.underlying46 rfl (by kernel_rfl) (Vals.tmp Vals.nil))) rfl ?_
   exact ⟨w2.heap.size + 1, by rw [HEQ.out]; rfl, hs, hzb⟩
set_option maxRecDepth 100000 in
set_option maxHeartbeats 8000000 in
theorem shard_no {w : World} {ok : Nat → Prop} {b N : Nat} {s : Sh} (h : ShAt w ok b N s) (me : Int) (k fr tw tx ts cd : Int) (text : ByteArray) (A7 : Option Addr) (c7 : Nat) (l7 : List ByteArray) (A8 : Option Addr) (c8 : Nat) (l8 : List S56) (hr7 : Kd.C Kd.string w A7 l7.length l7) (hc7 : l7.length ≤ c7) (hr8 : Kd.C k56 w A8 l8.length l8) (hc8 : l8.length ≤ c8) (h8 : l8.length < 8796093022208) (hm : mineV k fr tw tx ts cd text l7 l8 1 me ≠ 0) :
 Calls Try.prog 19 #[.pointer (some ⟨b, 0, none⟩), .int .i64 me, .agg #[.int .i64 k, .int .i64 fr, .int .i64 tw, .int .i64 tx, .int .i64 ts, .int .i64 cd, .string text, .slice A7 l7.length c7, .slice A8 l8.length c8]] w fun e w' => e = .returned (.tuple #[.agg #[.int .i64 0, .int .i64 0, .int .i64 0, .int .i64 0, .int .i64 0, .int .i64 0, .string ⟨#[]⟩, .slice none 0 0, .slice none 0 0], .int .i64 70]) ∧ Below w.heap.size w w' := by
 obtain ⟨wy, hwy⟩ : ∃ wy, wy = ((w.alloc (.cells #[.int .i64 k, .int .i64 fr, .int .i64 tw, .int .i64 tx, .int .i64 ts, .int .i64 cd, .string text, .slice A7 l7.length c7, .slice A8 l8.length c8] 46)).alloc (.cells #[.int .i64 0, .int .i64 0, .int .i64 0, .int .i64 0, .int .i64 0, .int .i64 0, .string ⟨#[]⟩, .slice none 0 0, .slice none 0 0] 46)) := ⟨_, rfl⟩
 have hby : Below w.heap.size w wy := by rw [hwy]; exact below_alloc (below_alloc (Below.refl _ _) _) _
 have hyz : wy.heap[w.heap.size + 1]? = some (.cells #[.int .i64 0, .int .i64 0, .int .i64 0, .int .i64 0, .int .i64 0, .int .i64 0, .string ⟨#[]⟩, .slice none 0 0, .slice none 0 0] 46 (0, 0)) := by
  rw [hwy]
  have h := blk_new (w.alloc (.cells #[.int .i64 k, .int .i64 fr, .int .i64 tw, .int .i64 tx, .int .i64 ts, .int .i64 cd, .string text, .slice A7 l7.length c7, .slice A8 l8.length c8] 46)) (.cells #[.int .i64 0, .int .i64 0, .int .i64 0, .int .i64 0, .int .i64 0, .int .i64 0, .string ⟨#[]⟩, .slice none 0 0, .slice none 0 0] 46)
  rwa [show (w.alloc (.cells #[.int .i64 k, .int .i64 fr, .int .i64 tw, .int .i64 tx, .int .i64 ts, .int .i64 cd, .string text, .slice A7 l7.length c7, .slice A8 l8.length c8] 46)).heap.size = w.heap.size + 1 by simp] at h
 have HWY := Aside0.mk hwy
 have HBY := Aside0.mk hby
 have HYZ := Aside0.mk hyz
 have hmi := mine_walk wy b 1 me k fr tw tx ts cd text A7 c7 l7 A8 c8 l8 (Kd.C_below hr7 hby) hc7 (Kd.C_below hr8 hby) hc8 h8
 rw [(mine_two k fr tw tx ts cd text l7 l8 1 me).resolve_left hm] at hmi
 have HMI := Aside0.mk hmi
 have h7m := Kd.C_max hr7
 have h8m := Kd.C_max hr8
 have hu := Try.underlying46
 clear hr7 hc7 hr8 hc8 h8 hby hyz hwy h hm hmi
 go_enter Try.func19, Try.ntmps19
 go_wp2_with fail
 rw [← HWY.out]
 refine HMI.out.mono ?_
 rintro e w1 ⟨rfl, hb1⟩
 have HB1 : Aside0 (Below w.heap.size w w1) := ⟨HBY.out.trans (hb1.mono HBY.out.size)⟩
 have hz1 := blk_below HYZ.out hb1
 have HZ1 := Aside0.mk hz1
 have f0 := blk_frozen hz1 0
 have f1 := blk_frozen hz1 1
 have f2 := blk_frozen hz1 2
 have f3 := blk_frozen hz1 3
 have f4 := blk_frozen hz1 4
 have f5 := blk_frozen hz1 5
 have f6 := blk_frozen hz1 6
 have f7 := blk_frozen hz1 7
 have f8 := blk_frozen hz1 8
 obtain ⟨r0, r1, r2, r3, r4, r5, r6, r7, r8⟩ := rec_cells hz1
 clear hb1 HMI HYZ HBY HWY hz1
 go_wp2_with fail
 obtain ⟨w6, hw6⟩ : ∃ w6, w6 = (((((((((w1.setCell ⟨w.heap.size + 1, 0, none⟩ (.int .i64 0)).setCell ⟨w.heap.size + 1, 1, none⟩ (.int .i64 0)).setCell ⟨w.heap.size + 1, 2, none⟩ (.int .i64 0)).setCell ⟨w.heap.size + 1, 3, none⟩ (.int .i64 0)).setCell ⟨w.heap.size + 1, 4, none⟩ (.int .i64 0)).setCell ⟨w.heap.size + 1, 5, none⟩ (.int .i64 0)).setCell ⟨w.heap.size + 1, 6, none⟩ (.string ⟨#[]⟩)).setCell ⟨w.heap.size + 1, 7, none⟩ (.slice none 0 0)).setCell ⟨w.heap.size + 1, 8, none⟩ (.slice none 0 0)) := ⟨_, rfl⟩
 have hz : w6.heap[w.heap.size + 1]? = some (.cells #[.int .i64 0, .int .i64 0, .int .i64 0, .int .i64 0, .int .i64 0, .int .i64 0, .string ⟨#[]⟩, .slice none 0 0, .slice none 0 0] 46 (0, 0)) := by rw [hw6]; exact put9_blk HZ1.out (.int .i64 0) (.int .i64 0) (.int .i64 0) (.int .i64 0) (.int .i64 0) (.int .i64 0) (.string ⟨#[]⟩) (.slice none 0 0) (.slice none 0 0)
 have hzb : Below w.heap.size w w6 := by rw [hw6]; exact put9_below (HB1.out) (Nat.le_succ _) (.int .i64 0) (.int .i64 0) (.int .i64 0) (.int .i64 0) (.int .i64 0) (.int .i64 0) (.string ⟨#[]⟩) (.slice none 0 0) (.slice none 0 0)
 rw [← hw6]
 clear hw6
 (try simp only [Exit.inBlock, Exit.then])
 refine bodyPost_ret (results_list (rs := [.cell 6 46, .tmp 7]) rfl (by simp) (Vals.cell (w.heap.size + 1) 46 _ (0, 0) _ rfl hz Try.underlying46 rfl (by kernel_rfl) (Vals.tmp Vals.nil))) rfl ?_
 exact ⟨rfl, hzb⟩
end Go.Proofs.Ytaldfbmjmpkmmaa.PL
