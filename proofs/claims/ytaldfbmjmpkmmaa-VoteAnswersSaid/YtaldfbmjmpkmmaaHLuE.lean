/- corncribref19.Shard, walked. -/
import Derived.Test.YtaldfbmjmpkmmaaM4a6c21
import Derived.Test.YtaldfbmjmpkmmaaHLtG
import Derived.Test.YtaldfbmjmpkmmaaHRfN
import Derived.StillTailTactics
namespace Go.Proofs.Ytaldfbmjmpkmmaa.PL
open Go.RowKit Go.Proofs.YtaldfbmjmpkmmaaW.PrintWords Go.Proofs.YtaldfbmjmpkmmaaW.PrintLast Go.Proofs.YtaldfbmjmpkmmaaW.PrintMore
set_option linter.unusedVariables false
set_option linter.unusedSimpArgs false
set_option linter.unusedSectionVars false
set_option maxRecDepth 100000 in
set_option maxHeartbeats 8000000 in
theorem rshard_yes {w : World} {ok : Nat → Prop} {b : Nat} {s : Sh} (h : RfAt w ok b s) (me fr tw tx ts cd : Int) (text : ByteArray) (ad : Addr) (c7 : Nat) (x : ByteArray) (A8 : Option Addr) (c8 : Nat) (l8 : List S56) (hr7 : Kd.C Kd.string w (some ad) 1 [x]) (hc7 : 1 ≤ c7) (hr8 : Kd.C k56 w A8 l8.length l8) (hc8 : l8.length ≤ c8) (h8 : l8.length < 8796093022208) (hm : mineV 1 fr tw tx ts cd text [x] l8 1 me = 0) :
 Calls Try.prog 20 #[.pointer (some ⟨b, 0, none⟩), .int .i64 me, .agg #[.int .i64 1, .int .i64 fr, .int .i64 tw, .int .i64 tx, .int .i64 ts, .int .i64 cd, .string text, .slice (some ad) 1 c7, .slice A8 l8.length c8]] w fun e w' => ∃ g, e = .returned (.tuple #[.agg #[.int .i64 2, .int .i64 tw, .int .i64 fr, .int .i64 tx, .int .i64 (readV s (kb x) ts).2.f0, .int .i64 (readV s (kb x) ts).1, .string (readV s (kb x) ts).2.f1, .slice (some ⟨g, 0, none⟩) 1 1, .slice none 0 0], .int .i64 0]) ∧ w'.heap[g]? = some (.cells #[.string x] 9 (0, 0)) ∧ Below w.heap.size w w' := by
 obtain ⟨wy, hwy⟩ : ∃ wy, wy = ((w.alloc (.cells #[.int .i64 1, .int .i64 fr, .int .i64 tw, .int .i64 tx, .int .i64 ts, .int .i64 cd, .string text, .slice (some ad) 1 c7, .slice A8 l8.length c8] 46)).alloc (.cells #[.int .i64 0, .int .i64 0, .int .i64 0, .int .i64 0, .int .i64 0, .int .i64 0, .string ⟨#[]⟩, .slice none 0 0, .slice none 0 0] 46)) := ⟨_, rfl⟩
 have hby : Below w.heap.size w wy := by rw [hwy]; exact below_alloc (below_alloc (Below.refl _ _) _) _
 have hyx : wy.heap[w.heap.size]? = some (.cells #[.int .i64 1, .int .i64 fr, .int .i64 tw, .int .i64 tx, .int .i64 ts, .int .i64 cd, .string text, .slice (some ad) 1 c7, .slice A8 l8.length c8] 46 (0, 0)) := by rw [hwy]; exact blk_alloc (blk_new _ _) _
 have hyz : wy.heap[w.heap.size + 1]? = some (.cells #[.int .i64 0, .int .i64 0, .int .i64 0, .int .i64 0, .int .i64 0, .int .i64 0, .string ⟨#[]⟩, .slice none 0 0, .slice none 0 0] 46 (0, 0)) := by
  rw [hwy]
  have h := blk_new (w.alloc (.cells #[.int .i64 1, .int .i64 fr, .int .i64 tw, .int .i64 tx, .int .i64 ts, .int .i64 cd, .string text, .slice (some ad) 1 c7, .slice A8 l8.length c8] 46)) (.cells #[.int .i64 0, .int .i64 0, .int .i64 0, .int .i64 0, .int .i64 0, .int .i64 0, .string ⟨#[]⟩, .slice none 0 0, .slice none 0 0] 46)
  rwa [show (w.alloc (.cells #[.int .i64 1, .int .i64 fr, .int .i64 tw, .int .i64 tx, .int .i64 ts, .int .i64 cd, .string text, .slice (some ad) 1 c7, .slice A8 l8.length c8] 46)).heap.size = w.heap.size + 1 by simp] at h
 have HWY := Aside0.mk hwy
 have HBY := Aside0.mk hby
 have HYX := Aside0.mk hyx
 have HYZ := Aside0.mk hyz
 obtain rfl := (mine_zero hm).2.2
 have hmi := mine19_walk wy 1 tw 1 fr tw tx ts cd text (some ad) c7 [x] A8 c8 l8 (Kd.C_below hr7 hby) hc7 (Kd.C_below hr8 hby) hc8 h8
 rw [hm] at hmi
 have HMI : Aside0 (Calls Try.prog 49 #[.agg #[.int .i64 1, .int .i64 fr, .int .i64 tw, .int .i64 tx, .int .i64 ts, .int .i64 cd, .string text, .slice (some ad) 1 c7, .slice A8 l8.length c8], .int .i64 1, .int .i64 tw] wy fun e w' => e = .returned (.bool true) ∧ Below wy.heap.size wy w') := ⟨hmi⟩
 have HSH := Aside0.mk (h.below hby)
 have h8m := Kd.C_max hr8
 obtain ⟨_, had, hz0⟩ := strK_at0 hr7
 obtain rfl := Option.some.inj had
 have hz0' : w.cell? ad = some (.string x) := hz0
 have HZ := Aside0.mk hz0'
 have hu := Try.underlying46
 clear hr7 hr8 hc8 h8 hby hyx hyz hwy h hm hmi had hz0 hz0'
 go_enter Try.func20, Try.ntmps20
 go_wp2_with fail
 rw [← HWY.out]
 refine HMI.out.mono ?_
 rintro e w5 ⟨rfl, hb1⟩
 have HB5 : Aside0 (Below w.heap.size w w5) := ⟨HBY.out.trans (hb1.mono HBY.out.size)⟩
 have hx1 := blk_below HYX.out hb1
 have hz1 := blk_below HYZ.out hb1
 have HX5 := Aside0.mk hx1
 have HZ5 := Aside0.mk hz1
 have HS5 := Aside0.mk (HSH.out.below hb1)
 have HG5 : Aside0 (w.heap.size + 1 < w5.heap.size) := ⟨blk_lt hz1⟩
 clear hb1 HMI HYX HYZ HBY HWY HSH hx1 hz1
 have HRD : Aside0 (∀ W, Below w5.heap.size w5 W → Calls Try.prog 50 #[.pointer (some ⟨b, 0, none⟩), .string x, .int .i64 ts] W fun e w' => e = .returned (.tuple #[.int .i64 (readV s (kb x) ts).1, .agg #[.int .i64 (readV s (kb x) ts).2.f0, .string (readV s (kb x) ts).2.f1, .bool (readV s (kb x) ts).2.f2]]) ∧ Below W.heap.size W w') := ⟨fun W hW => rread_walk (HS5.out.below hW) x ts⟩
 have KEEP : Aside0 (∀ W, Below w5.heap.size w5 W → W.cell? ⟨w.heap.size, 7, none⟩ = some (.slice (some ad) 1 c7) ∧ W.cell? ⟨w.heap.size, 4, none⟩ = some (.int .i64 ts) ∧ W.cell? ad = some (.string x)) := ⟨fun W hW => ⟨(blk_cell (blk_below HX5.out hW) 7).trans rfl, (blk_cell (blk_below HX5.out hW) 4).trans rfl, pw_cell_below (HB5.out.trans (hW.mono HB5.out.size)) HZ.out⟩⟩
 obtain ⟨rv, hrv⟩ : ∃ rv, readV s (kb x) ts = rv := ⟨_, rfl⟩
 have HEQ := Aside0.mk hrv
 rw [hrv] at HRD
 clear hrv HS5
 obtain ⟨cd', v0, v1, v2⟩ := rv
 try simp only at HRD
 go_upto_region 3 with (fail)
 go_cut [8, 9] (fun va vb wd => ∃ g, va = .int .i64 cd' ∧ vb = .pointer (some ⟨g, 0, none⟩) ∧ Aside0 (w5.heap.size ≤ g) ∧ Aside0 (wd.heap[g]? = some (.cells #[.int .i64 v0, .string v1, .bool v2] 29 (0, 0)) ∧ Below w5.heap.size w5 wd))
 case first =>
  go_region_held3 (fun w' => w'.cell? ⟨w.heap.size, 7, none⟩ = some (.slice (some ad) 1 c7) ∧ w'.cell? ⟨w.heap.size, 4, none⟩ = some (.int .i64 ts) ∧ w'.cell? ad = some (.string x)) (exact KEEP.out _ (by repeat (first | exact HQ.out | exact Below.refl _ _ | apply below_drew1 | apply below_alloc | exact belS HQ.out (Nat.le_refl _) _ _ _ | exact belS HQ.out HQ.out.size _ _ _ | exact belS (below_alloc HQ.out _) HQ.out.size _ _ _)))
   (first
    | (go_simp; go_at_call 50; refine (HRD.out _ (by repeat (first | exact HQ.out | exact Below.refl _ _ | apply below_drew1 | apply below_alloc | exact belS HQ.out (Nat.le_refl _) _ _ _ | exact belS HQ.out HQ.out.size _ _ _ | exact belS (below_alloc HQ.out _) HQ.out.size _ _ _))).mono ?_; rintro e wq ⟨rfl, hq⟩; have HQ := Aside0.mk (belT (a := w5) (by repeat (first | exact HQ.out | exact Below.refl _ _ | apply below_drew1 | apply below_alloc | exact belS HQ.out (Nat.le_refl _) _ _ _ | exact belS HQ.out HQ.out.size _ _ _ | exact belS (below_alloc HQ.out _) HQ.out.size _ _ _)) hq); (first | (have hgx := blk_below (show ((w5.drew).alloc (.cells #[.int .i64 0, .string ⟨#[]⟩, .bool false] 29)).heap[w5.heap.size]? = some (.cells #[.int .i64 0, .string ⟨#[]⟩, .bool false] 29 (0, 0)) from blk_new _ _) hq; have HGX := Aside0.mk hgx; have gx0 := blk_cell hgx 0; have gx1 := blk_cell hgx 1; have gx2 := blk_cell hgx 2; have fx0 := blk_frozen hgx 0; have fx1 := blk_frozen hgx 1; have fx2 := blk_frozen hgx 2; clear hgx hq) | clear hq)))
  all_goals (try go_wp2_with fail)
  all_goals go_meet
  all_goals (case rel => first | exact ⟨wq.heap.size, rfl, rfl, ⟨HQ.out.size⟩, ⟨blk_new _ _, below_alloc HQ.out _⟩⟩ | exact ⟨w5.heap.size, rfl, rfl, ⟨Nat.le_refl _⟩, ⟨blk_put (blk_put (blk_put HGX.out 0 _ rfl) 1 _ rfl) 2 _ rfl, belS HQ.out (Nat.le_refl _) _ _ _⟩⟩)
 case rest =>
  obtain ⟨g, rfl, rfl, HGE, HG⟩ := hcut
  obtain ⟨w6, hw6⟩ : ∃ w6, w6 = wc := ⟨_, rfl⟩
  subst hw6
  have HB6 : Aside0 (Below w.heap.size w w6) := ⟨HB5.out.trans (HG.out.2.mono HB5.out.size)⟩
  have HG6 : Aside0 (w.heap.size + 1 < w6.heap.size) := ⟨Nat.lt_of_lt_of_le HG5.out HG.out.2.size⟩
  have hk6 := KEEP.out _ HG.out.2
  have hg6 := HG.out.1
  have hx6 := blk_below HX5.out HG.out.2
  have HZ6 := Aside0.mk (blk_below HZ5.out HG.out.2)
  obtain ⟨w7, hw7⟩ : ∃ w7, w7 = w6.alloc (.cells #[.string x] 9) := ⟨_, rfl⟩
  have hza : w7.heap[w.heap.size + 1]? = some (.cells #[.int .i64 0, .int .i64 0, .int .i64 0, .int .i64 0, .int .i64 0, .int .i64 0, .string ⟨#[]⟩, .slice none 0 0, .slice none 0 0] 46 (0, 0)) := by rw [hw7]; exact blk_alloc HZ6.out _
  have HZ7 := Aside0.mk hza
  have HS7 : Aside0 (w7.heap[w6.heap.size]? = some (.cells #[.string x] 9 (0, 0))) := ⟨by rw [hw7]; exact blk_new _ _⟩
  have HB7 : Aside0 (Below w.heap.size w w7) := ⟨by rw [hw7]; exact below_alloc HB6.out _⟩
  have HW7 := Aside0.mk hw7
  have KEEP6 : Aside0 (∀ W, Below w6.heap.size w6 W → W.cell? ⟨w.heap.size, 1, none⟩ = some (.int .i64 fr) ∧ W.cell? ⟨w.heap.size, 3, none⟩ = some (.int .i64 tx) ∧ W.cell? ⟨w.heap.size, 7, none⟩ = some (.slice (some ad) 1 c7) ∧ W.cell? ⟨g, 0, none⟩ = some (.int .i64 v0) ∧ W.cell? ⟨g, 1, none⟩ = some (.string v1) ∧ W.cell? ad = some (.string x)) := ⟨fun W hW => ⟨(blk_cell (blk_below hx6 hW) 1).trans rfl, (blk_cell (blk_below hx6 hW) 3).trans rfl, (blk_cell (blk_below hx6 hW) 7).trans rfl, (blk_cell (blk_below hg6 hW) 0).trans rfl, (blk_cell (blk_below hg6 hW) 1).trans rfl, pw_cell_below hW hk6.2.2⟩⟩
  have hne : g ≠ w.heap.size + 1 := by have h1 := HGE.out; have h2 := HG5.out; omega
  have KEEP9 : Aside0 (∀ (W : World) (u0 u1 u2 u3 u4 u5 u6 u7 u8 : Value), Below w6.heap.size w6 W → (((((((((W.setCell ⟨w.heap.size + 1, 0, none⟩ u0).setCell ⟨w.heap.size + 1, 1, none⟩ u1).setCell ⟨w.heap.size + 1, 2, none⟩ u2).setCell ⟨w.heap.size + 1, 3, none⟩ u3).setCell ⟨w.heap.size + 1, 4, none⟩ u4).setCell ⟨w.heap.size + 1, 5, none⟩ u5).setCell ⟨w.heap.size + 1, 6, none⟩ u6).setCell ⟨w.heap.size + 1, 7, none⟩ u7).setCell ⟨w.heap.size + 1, 8, none⟩ u8).cell? ⟨w.heap.size, 1, none⟩ = some (.int .i64 fr) ∧ (((((((((W.setCell ⟨w.heap.size + 1, 0, none⟩ u0).setCell ⟨w.heap.size + 1, 1, none⟩ u1).setCell ⟨w.heap.size + 1, 2, none⟩ u2).setCell ⟨w.heap.size + 1, 3, none⟩ u3).setCell ⟨w.heap.size + 1, 4, none⟩ u4).setCell ⟨w.heap.size + 1, 5, none⟩ u5).setCell ⟨w.heap.size + 1, 6, none⟩ u6).setCell ⟨w.heap.size + 1, 7, none⟩ u7).setCell ⟨w.heap.size + 1, 8, none⟩ u8).cell? ⟨w.heap.size, 3, none⟩ = some (.int .i64 tx) ∧ (((((((((W.setCell ⟨w.heap.size + 1, 0, none⟩ u0).setCell ⟨w.heap.size + 1, 1, none⟩ u1).setCell ⟨w.heap.size + 1, 2, none⟩ u2).setCell ⟨w.heap.size + 1, 3, none⟩ u3).setCell ⟨w.heap.size + 1, 4, none⟩ u4).setCell ⟨w.heap.size + 1, 5, none⟩ u5).setCell ⟨w.heap.size + 1, 6, none⟩ u6).setCell ⟨w.heap.size + 1, 7, none⟩ u7).setCell ⟨w.heap.size + 1, 8, none⟩ u8).cell? ⟨w.heap.size, 7, none⟩ = some (.slice (some ad) 1 c7) ∧ (((((((((W.setCell ⟨w.heap.size + 1, 0, none⟩ u0).setCell ⟨w.heap.size + 1, 1, none⟩ u1).setCell ⟨w.heap.size + 1, 2, none⟩ u2).setCell ⟨w.heap.size + 1, 3, none⟩ u3).setCell ⟨w.heap.size + 1, 4, none⟩ u4).setCell ⟨w.heap.size + 1, 5, none⟩ u5).setCell ⟨w.heap.size + 1, 6, none⟩ u6).setCell ⟨w.heap.size + 1, 7, none⟩ u7).setCell ⟨w.heap.size + 1, 8, none⟩ u8).cell? ⟨g, 0, none⟩ = some (.int .i64 v0) ∧ (((((((((W.setCell ⟨w.heap.size + 1, 0, none⟩ u0).setCell ⟨w.heap.size + 1, 1, none⟩ u1).setCell ⟨w.heap.size + 1, 2, none⟩ u2).setCell ⟨w.heap.size + 1, 3, none⟩ u3).setCell ⟨w.heap.size + 1, 4, none⟩ u4).setCell ⟨w.heap.size + 1, 5, none⟩ u5).setCell ⟨w.heap.size + 1, 6, none⟩ u6).setCell ⟨w.heap.size + 1, 7, none⟩ u7).setCell ⟨w.heap.size + 1, 8, none⟩ u8).cell? ⟨g, 1, none⟩ = some (.string v1) ∧ (((((((((W.setCell ⟨w.heap.size + 1, 0, none⟩ u0).setCell ⟨w.heap.size + 1, 1, none⟩ u1).setCell ⟨w.heap.size + 1, 2, none⟩ u2).setCell ⟨w.heap.size + 1, 3, none⟩ u3).setCell ⟨w.heap.size + 1, 4, none⟩ u4).setCell ⟨w.heap.size + 1, 5, none⟩ u5).setCell ⟨w.heap.size + 1, 6, none⟩ u6).setCell ⟨w.heap.size + 1, 7, none⟩ u7).setCell ⟨w.heap.size + 1, 8, none⟩ u8).cell? ad = some (.string x)) := ⟨fun W u0 u1 u2 u3 u4 u5 u6 u7 u8 hW => ⟨(blk_cell ((put9_other (blk_below hx6 hW) (by omega) u0 u1 u2 u3 u4 u5 u6 u7 u8)) 1).trans rfl, (blk_cell ((put9_other (blk_below hx6 hW) (by omega) u0 u1 u2 u3 u4 u5 u6 u7 u8)) 3).trans rfl, (blk_cell ((put9_other (blk_below hx6 hW) (by omega) u0 u1 u2 u3 u4 u5 u6 u7 u8)) 7).trans rfl, (blk_cell ((put9_other (blk_below hg6 hW) (by omega) u0 u1 u2 u3 u4 u5 u6 u7 u8)) 0).trans rfl, (blk_cell ((put9_other (blk_below hg6 hW) (by omega) u0 u1 u2 u3 u4 u5 u6 u7 u8)) 1).trans rfl, pw_cell_below (put9_below (HB6.out.trans (hW.mono HB6.out.size)) (Nat.le_succ _) u0 u1 u2 u3 u4 u5 u6 u7 u8) HZ.out⟩⟩
  have KEEPD : Aside0 (∀ (W : World) (u0 u1 u2 u3 u4 u5 u6 u7 u8 : Value), Below w6.heap.size w6 W → (((((((((W.setCell ⟨w.heap.size + 1, 0, none⟩ u0).setCell ⟨w.heap.size + 1, 1, none⟩ u1).setCell ⟨w.heap.size + 1, 2, none⟩ u2).setCell ⟨w.heap.size + 1, 3, none⟩ u3).setCell ⟨w.heap.size + 1, 4, none⟩ u4).setCell ⟨w.heap.size + 1, 5, none⟩ u5).setCell ⟨w.heap.size + 1, 6, none⟩ u6).setCell ⟨w.heap.size + 1, 7, none⟩ u7).setCell ⟨w.heap.size + 1, 8, none⟩ u8).drew.cell? ⟨w.heap.size, 1, none⟩ = some (.int .i64 fr) ∧ (((((((((W.setCell ⟨w.heap.size + 1, 0, none⟩ u0).setCell ⟨w.heap.size + 1, 1, none⟩ u1).setCell ⟨w.heap.size + 1, 2, none⟩ u2).setCell ⟨w.heap.size + 1, 3, none⟩ u3).setCell ⟨w.heap.size + 1, 4, none⟩ u4).setCell ⟨w.heap.size + 1, 5, none⟩ u5).setCell ⟨w.heap.size + 1, 6, none⟩ u6).setCell ⟨w.heap.size + 1, 7, none⟩ u7).setCell ⟨w.heap.size + 1, 8, none⟩ u8).drew.cell? ⟨w.heap.size, 3, none⟩ = some (.int .i64 tx) ∧ (((((((((W.setCell ⟨w.heap.size + 1, 0, none⟩ u0).setCell ⟨w.heap.size + 1, 1, none⟩ u1).setCell ⟨w.heap.size + 1, 2, none⟩ u2).setCell ⟨w.heap.size + 1, 3, none⟩ u3).setCell ⟨w.heap.size + 1, 4, none⟩ u4).setCell ⟨w.heap.size + 1, 5, none⟩ u5).setCell ⟨w.heap.size + 1, 6, none⟩ u6).setCell ⟨w.heap.size + 1, 7, none⟩ u7).setCell ⟨w.heap.size + 1, 8, none⟩ u8).drew.cell? ⟨w.heap.size, 7, none⟩ = some (.slice (some ad) 1 c7) ∧ (((((((((W.setCell ⟨w.heap.size + 1, 0, none⟩ u0).setCell ⟨w.heap.size + 1, 1, none⟩ u1).setCell ⟨w.heap.size + 1, 2, none⟩ u2).setCell ⟨w.heap.size + 1, 3, none⟩ u3).setCell ⟨w.heap.size + 1, 4, none⟩ u4).setCell ⟨w.heap.size + 1, 5, none⟩ u5).setCell ⟨w.heap.size + 1, 6, none⟩ u6).setCell ⟨w.heap.size + 1, 7, none⟩ u7).setCell ⟨w.heap.size + 1, 8, none⟩ u8).drew.cell? ⟨g, 0, none⟩ = some (.int .i64 v0) ∧ (((((((((W.setCell ⟨w.heap.size + 1, 0, none⟩ u0).setCell ⟨w.heap.size + 1, 1, none⟩ u1).setCell ⟨w.heap.size + 1, 2, none⟩ u2).setCell ⟨w.heap.size + 1, 3, none⟩ u3).setCell ⟨w.heap.size + 1, 4, none⟩ u4).setCell ⟨w.heap.size + 1, 5, none⟩ u5).setCell ⟨w.heap.size + 1, 6, none⟩ u6).setCell ⟨w.heap.size + 1, 7, none⟩ u7).setCell ⟨w.heap.size + 1, 8, none⟩ u8).drew.cell? ⟨g, 1, none⟩ = some (.string v1) ∧ (((((((((W.setCell ⟨w.heap.size + 1, 0, none⟩ u0).setCell ⟨w.heap.size + 1, 1, none⟩ u1).setCell ⟨w.heap.size + 1, 2, none⟩ u2).setCell ⟨w.heap.size + 1, 3, none⟩ u3).setCell ⟨w.heap.size + 1, 4, none⟩ u4).setCell ⟨w.heap.size + 1, 5, none⟩ u5).setCell ⟨w.heap.size + 1, 6, none⟩ u6).setCell ⟨w.heap.size + 1, 7, none⟩ u7).setCell ⟨w.heap.size + 1, 8, none⟩ u8).drew.cell? ad = some (.string x)) := ⟨fun W u0 u1 u2 u3 u4 u5 u6 u7 u8 hW => ⟨(blk_cell (blk_drew (put9_other (blk_below hx6 hW) (by omega) u0 u1 u2 u3 u4 u5 u6 u7 u8)) 1).trans rfl, (blk_cell (blk_drew (put9_other (blk_below hx6 hW) (by omega) u0 u1 u2 u3 u4 u5 u6 u7 u8)) 3).trans rfl, (blk_cell (blk_drew (put9_other (blk_below hx6 hW) (by omega) u0 u1 u2 u3 u4 u5 u6 u7 u8)) 7).trans rfl, (blk_cell (blk_drew (put9_other (blk_below hg6 hW) (by omega) u0 u1 u2 u3 u4 u5 u6 u7 u8)) 0).trans rfl, (blk_cell (blk_drew (put9_other (blk_below hg6 hW) (by omega) u0 u1 u2 u3 u4 u5 u6 u7 u8)) 1).trans rfl, pw_cell_below (below_drew1 (put9_below (HB6.out.trans (hW.mono HB6.out.size)) (Nat.le_succ _) u0 u1 u2 u3 u4 u5 u6 u7 u8)) HZ.out⟩⟩
  obtain ⟨r0, r1, r2, r3, r4, r5, r6, r7, r8⟩ := rec_cells HZ7.out
  have f0 := blk_frozen HZ7.out 0
  have f1 := blk_frozen HZ7.out 1
  have f2 := blk_frozen HZ7.out 2
  have f3 := blk_frozen HZ7.out 3
  have f4 := blk_frozen HZ7.out 4
  have f5 := blk_frozen HZ7.out 5
  have f6 := blk_frozen HZ7.out 6
  have f7 := blk_frozen HZ7.out 7
  have f8 := blk_frozen HZ7.out 8
  rw [hw7] at r0 r1 r2 r3 r4 r5 r6 r7 r8 f0 f1 f2 f3 f4 f5 f6 f7 f8
  clear KEEP HRD HG HX5 HZ5 HB5 hw7 hza hg6 hx6 hk6 hne
  go_wp2_with fail
  go_region_held3 (fun w' => w'.cell? ⟨w.heap.size, 1, none⟩ = some (.int .i64 fr) ∧ w'.cell? ⟨w.heap.size, 3, none⟩ = some (.int .i64 tx) ∧ w'.cell? ⟨w.heap.size, 7, none⟩ = some (.slice (some ad) 1 c7) ∧ w'.cell? ⟨g, 0, none⟩ = some (.int .i64 v0) ∧ w'.cell? ⟨g, 1, none⟩ = some (.string v1) ∧ w'.cell? ad = some (.string x)) (first | (with_reducible refine KEEPD.out _ _ _ _ _ _ _ _ _ _ ?_; repeat (first | exact Below.refl _ _ | apply below_drew1 | apply below_alloc)) | (with_reducible refine KEEP9.out _ _ _ _ _ _ _ _ _ _ ?_; repeat (first | exact Below.refl _ _ | apply below_drew1 | apply below_alloc)) | (with_reducible refine KEEP6.out _ ?_; with_reducible repeat (first | exact Below.refl _ _ | apply below_drew1 | apply below_alloc))) (fail)
  all_goals (try go_wp2_with fail)
  rw [← HW7.out]
  clear r0 r1 r2 r3 r4 r5 r6 r7 r8 f0 f1 f2 f3 f4 f5 f6 f7 f8
  obtain ⟨w8, hw8⟩ : ∃ w8, w8 = ((((((((((w7.setCell ⟨w.heap.size + 1, 0, none⟩ (.int .i64 2)).setCell ⟨w.heap.size + 1, 1, none⟩ (.int .i64 tw)).setCell ⟨w.heap.size + 1, 2, none⟩ (.int .i64 fr)).setCell ⟨w.heap.size + 1, 3, none⟩ (.int .i64 tx)).setCell ⟨w.heap.size + 1, 4, none⟩ (.int .i64 v0)).setCell ⟨w.heap.size + 1, 5, none⟩ (.int .i64 cd')).setCell ⟨w.heap.size + 1, 6, none⟩ (.string v1)).setCell ⟨w.heap.size + 1, 7, none⟩ (.slice (some ⟨w6.heap.size, 0, none⟩) 1 1)).setCell ⟨w.heap.size + 1, 8, none⟩ (.slice none 0 0))).drew := ⟨_, rfl⟩
  have hz : w8.heap[w.heap.size + 1]? = some (.cells #[.int .i64 2, .int .i64 tw, .int .i64 fr, .int .i64 tx, .int .i64 v0, .int .i64 cd', .string v1, .slice (some ⟨w6.heap.size, 0, none⟩) 1 1, .slice none 0 0] 46 (0, 0)) := by rw [hw8]; exact blk_drew (put9_blk HZ7.out (.int .i64 2) (.int .i64 tw) (.int .i64 fr) (.int .i64 tx) (.int .i64 v0) (.int .i64 cd') (.string v1) (.slice (some ⟨w6.heap.size, 0, none⟩) 1 1) (.slice none 0 0))
  have hzb : Below w.heap.size w w8 := by rw [hw8]; exact below_drew1 (put9_below (HB7.out) (Nat.le_succ _) (.int .i64 2) (.int .i64 tw) (.int .i64 fr) (.int .i64 tx) (.int .i64 v0) (.int .i64 cd') (.string v1) (.slice (some ⟨w6.heap.size, 0, none⟩) 1 1) (.slice none 0 0))
  have hs : w8.heap[w6.heap.size]? = some (.cells #[.string x] 9 (0, 0)) := by rw [hw8]; exact blk_drew (put9_other HS7.out (by have := HG6.out; omega) (.int .i64 2) (.int .i64 tw) (.int .i64 fr) (.int .i64 tx) (.int .i64 v0) (.int .i64 cd') (.string v1) (.slice (some ⟨w6.heap.size, 0, none⟩) 1 1) (.slice none 0 0))
  rw [← hw8]
  clear hw8
  (try simp only [Exit.inBlock, Exit.then])
  refine bodyPost_ret (results_list (rs := [.cell 6 46, .tmp 7]) rfl (by simp) (Vals.cell (w.heap.size + 1) 46 _ (0, 0) _ rfl hz Try.underlying46 rfl (by kernel_rfl) (Vals.tmp Vals.nil))) rfl ?_
  exact ⟨w6.heap.size, by rw [HEQ.out]; rfl, hs, hzb⟩
set_option maxRecDepth 100000 in
set_option maxHeartbeats 8000000 in
theorem rshard_no {w : World} {ok : Nat → Prop} {b : Nat} {s : Sh} (h : RfAt w ok b s) (me : Int) (k fr tw tx ts cd : Int) (text : ByteArray) (A7 : Option Addr) (c7 : Nat) (l7 : List ByteArray) (A8 : Option Addr) (c8 : Nat) (l8 : List S56) (hr7 : Kd.C Kd.string w A7 l7.length l7) (hc7 : l7.length ≤ c7) (hr8 : Kd.C k56 w A8 l8.length l8) (hc8 : l8.length ≤ c8) (h8 : l8.length < 8796093022208) (hm : mineV k fr tw tx ts cd text l7 l8 1 me ≠ 0) :
 Calls Try.prog 20 #[.pointer (some ⟨b, 0, none⟩), .int .i64 me, .agg #[.int .i64 k, .int .i64 fr, .int .i64 tw, .int .i64 tx, .int .i64 ts, .int .i64 cd, .string text, .slice A7 l7.length c7, .slice A8 l8.length c8]] w fun e w' => e = .returned (.tuple #[.agg #[.int .i64 0, .int .i64 0, .int .i64 0, .int .i64 0, .int .i64 0, .int .i64 0, .string ⟨#[]⟩, .slice none 0 0, .slice none 0 0], .int .i64 70]) ∧ Below w.heap.size w w' := by
 obtain ⟨wy, hwy⟩ : ∃ wy, wy = ((w.alloc (.cells #[.int .i64 k, .int .i64 fr, .int .i64 tw, .int .i64 tx, .int .i64 ts, .int .i64 cd, .string text, .slice A7 l7.length c7, .slice A8 l8.length c8] 46)).alloc (.cells #[.int .i64 0, .int .i64 0, .int .i64 0, .int .i64 0, .int .i64 0, .int .i64 0, .string ⟨#[]⟩, .slice none 0 0, .slice none 0 0] 46)) := ⟨_, rfl⟩
 have hby : Below w.heap.size w wy := by rw [hwy]; exact below_alloc (below_alloc (Below.refl _ _) _) _
 have hyx : wy.heap[w.heap.size]? = some (.cells #[.int .i64 k, .int .i64 fr, .int .i64 tw, .int .i64 tx, .int .i64 ts, .int .i64 cd, .string text, .slice A7 l7.length c7, .slice A8 l8.length c8] 46 (0, 0)) := by rw [hwy]; exact blk_alloc (blk_new _ _) _
 have hyz : wy.heap[w.heap.size + 1]? = some (.cells #[.int .i64 0, .int .i64 0, .int .i64 0, .int .i64 0, .int .i64 0, .int .i64 0, .string ⟨#[]⟩, .slice none 0 0, .slice none 0 0] 46 (0, 0)) := by
  rw [hwy]
  have h := blk_new (w.alloc (.cells #[.int .i64 k, .int .i64 fr, .int .i64 tw, .int .i64 tx, .int .i64 ts, .int .i64 cd, .string text, .slice A7 l7.length c7, .slice A8 l8.length c8] 46)) (.cells #[.int .i64 0, .int .i64 0, .int .i64 0, .int .i64 0, .int .i64 0, .int .i64 0, .string ⟨#[]⟩, .slice none 0 0, .slice none 0 0] 46)
  rwa [show (w.alloc (.cells #[.int .i64 k, .int .i64 fr, .int .i64 tw, .int .i64 tx, .int .i64 ts, .int .i64 cd, .string text, .slice A7 l7.length c7, .slice A8 l8.length c8] 46)).heap.size = w.heap.size + 1 by simp] at h
 have HWY := Aside0.mk hwy
 have HBY := Aside0.mk hby
 have HYX := Aside0.mk hyx
 have HYZ := Aside0.mk hyz
 have hmi := mine19_walk wy 1 me k fr tw tx ts cd text A7 c7 l7 A8 c8 l8 (Kd.C_below hr7 hby) hc7 (Kd.C_below hr8 hby) hc8 h8
 rw [decide_eq_false hm] at hmi
 have HMI := Aside0.mk hmi
 have h7m := Kd.C_max hr7
 have h8m := Kd.C_max hr8
 have hu := Try.underlying46
 clear hr7 hc7 hr8 hc8 h8 hby hyx hyz hwy h hm hmi HYX
 go_enter Try.func20, Try.ntmps20
 go_wp2_with fail
 rw [← HWY.out]
 refine HMI.out.mono ?_
 rintro e w1 ⟨rfl, hb1⟩
 have HB1 : Aside0 (Below w.heap.size w w1) := ⟨HBY.out.trans (hb1.mono HBY.out.size)⟩
 have hz1 := blk_below HYZ.out hb1
 have HZ1 := Aside0.mk hz1
 have f0 := blk_frozen hz1 0
 have f1 := blk_frozen hz1 1
 have f2 := blk_frozen hz1 2
 have f3 := blk_frozen hz1 3
 have f4 := blk_frozen hz1 4
 have f5 := blk_frozen hz1 5
 have f6 := blk_frozen hz1 6
 have f7 := blk_frozen hz1 7
 have f8 := blk_frozen hz1 8
 obtain ⟨r0, r1, r2, r3, r4, r5, r6, r7, r8⟩ := rec_cells hz1
 clear hb1 HMI HYZ HBY HWY hz1
 go_wp2_with fail
 obtain ⟨w6, hw6⟩ : ∃ w6, w6 = (((((((((w1.setCell ⟨w.heap.size + 1, 0, none⟩ (.int .i64 0)).setCell ⟨w.heap.size + 1, 1, none⟩ (.int .i64 0)).setCell ⟨w.heap.size + 1, 2, none⟩ (.int .i64 0)).setCell ⟨w.heap.size + 1, 3, none⟩ (.int .i64 0)).setCell ⟨w.heap.size + 1, 4, none⟩ (.int .i64 0)).setCell ⟨w.heap.size + 1, 5, none⟩ (.int .i64 0)).setCell ⟨w.heap.size + 1, 6, none⟩ (.string ⟨#[]⟩)).setCell ⟨w.heap.size + 1, 7, none⟩ (.slice none 0 0)).setCell ⟨w.heap.size + 1, 8, none⟩ (.slice none 0 0)) := ⟨_, rfl⟩
 have hz : w6.heap[w.heap.size + 1]? = some (.cells #[.int .i64 0, .int .i64 0, .int .i64 0, .int .i64 0, .int .i64 0, .int .i64 0, .string ⟨#[]⟩, .slice none 0 0, .slice none 0 0] 46 (0, 0)) := by rw [hw6]; exact put9_blk HZ1.out (.int .i64 0) (.int .i64 0) (.int .i64 0) (.int .i64 0) (.int .i64 0) (.int .i64 0) (.string ⟨#[]⟩) (.slice none 0 0) (.slice none 0 0)
 have hzb : Below w.heap.size w w6 := by rw [hw6]; exact put9_below (HB1.out) (Nat.le_succ _) (.int .i64 0) (.int .i64 0) (.int .i64 0) (.int .i64 0) (.int .i64 0) (.int .i64 0) (.string ⟨#[]⟩) (.slice none 0 0) (.slice none 0 0)
 rw [← hw6]
 clear hw6
 (try simp only [Exit.inBlock, Exit.then])
 refine bodyPost_ret (results_list (rs := [.cell 6 46, .tmp 7]) rfl (by simp) (Vals.cell (w.heap.size + 1) 46 _ (0, 0) _ rfl hz Try.underlying46 rfl (by kernel_rfl) (Vals.tmp Vals.nil))) rfl ?_
 exact ⟨rfl, hzb⟩
end Go.Proofs.Ytaldfbmjmpkmmaa.PL
