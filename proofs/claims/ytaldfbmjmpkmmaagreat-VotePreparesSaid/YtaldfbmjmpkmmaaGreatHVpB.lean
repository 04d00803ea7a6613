/- VotePrepares: the walk. -/
import Derived.Test.YtaldfbmjmpkmmaaGreatHVpA
import Derived.Test.YtaldfbmjmpkmmaaGreatHVtC
import Derived.Test.YtaldfbmjmpkmmaaGreatM7386df
import Derived.Test.YtaldfbmjmpkmmaaGreatHShRe
import Derived.Deep.RegionHeld3
namespace Go.Proofs.YtaldfbmjmpkmmaaGreat.PL
open Go.RowKit Go.Proofs.YtaldfbmjmpkmmaaGreatW.PrintWords Go.Proofs.YtaldfbmjmpkmmaaGreatW.PrintLast Go.Proofs.YtaldfbmjmpkmmaaGreatW.PrintMore
set_option linter.unusedVariables false
set_option linter.unusedSimpArgs false
set_option linter.unusedSectionVars false
theorem belP {a b c : World} (h : Below a.heap.size a b) (hq : Below b.heap.size b c) : Below a.heap.size a c := h.trans (hq.mono h.size)
set_option maxRecDepth 100000 in
set_option maxHeartbeats 16000000 in
theorem votePrepares_core (w : World) {l : List Rec} {A0 : Option Addr} {c0 : Nat} (hr0 : Kd.C k26 w A0 l.length l) (g0 : ∀ r, r ∈ l → sizesOk r) (r : Rec) (A7 : Option Addr) (c7 : Nat) (A8 : Option Addr) (c8 : Nat) (g7 : Kd.C Kd.string w A7 r.f7.length r.f7) (l7 : r.f7.length ≤ c7) (g8 : Kd.C k57 w A8 r.f8.length r.f8) (l8 : r.f8.length ≤ c8) (hs : sizesOk r) :
 Calls Tryz.prog 6 #[.slice A0 l.length c0, .agg #[.int .i64 r.f0, .int .i64 r.f1, .int .i64 r.f2, .int .i64 r.f3, .string r.f4, .string r.f5, .bool r.f6, .slice A7 r.f7.length c7, .slice A8 r.f8.length c8]] w fun e w' => e = .returned (.bool true) ∧ Below w.heap.size w w' := by
 obtain ⟨wy, hwy⟩ : ∃ wy, wy = w.alloc (.cells #[.int .i64 r.f0, .int .i64 r.f1, .int .i64 r.f2, .int .i64 r.f3, .string r.f4, .string r.f5, .bool r.f6, .slice A7 r.f7.length c7, .slice A8 r.f8.length c8] 26) := ⟨_, rfl⟩
 have hby : Below w.heap.size w wy := by rw [hwy]; exact below_alloc (Below.refl _ _) _
 have HMD := Aside0.mk (made19_walk wy A0 c0 l (Kd.C_below hr0 hby) g0)
 have HX := Aside0.mk (show wy.heap[w.heap.size]? = some (.cells #[.int .i64 r.f0, .int .i64 r.f1, .int .i64 r.f2, .int .i64 r.f3, .string r.f4, .string r.f5, .bool r.f6, .slice A7 r.f7.length c7, .slice A8 r.f8.length c8] 26 (0, 0)) by rw [hwy]; exact blk_new _ _)
 have HBY := Aside0.mk hby
 have HR7 := Aside0.mk g7
 have HR8 := Aside0.mk g8
 have HL7 := Aside0.mk l7
 have HL8 := Aside0.mk l8
 have HSZ := Aside0.mk hs
 have HL := Aside0.mk (Kd.C_max hr0)
 have h7m := Kd.C_max g7
 have h8m := Kd.C_max g8
 have HWY := Aside0.mk hwy
 have hu := Tryz.underlying26
 have HWS := Aside0.mk works19_walk
 have HMO := Aside0.mk (more_made l)
 clear hr0 g0 g7 g8 l7 l8 hs hby hwy
 generalize madeV l = s at *
 go_enter Tryz.func6, Tryz.ntmps6
 go_wp2_with fail
 rw [← HWY.out]
 refine HMD.out.mono ?_
 rintro e w1 ⟨b, rb, rfl, hD⟩
 have HX1 := Aside0.mk (blk_below HX.out hD.world)
 have HB1 : Aside0 (Below w.heap.size w w1) := ⟨HBY.out.trans (hD.world.mono HBY.out.size)⟩
 have HD := Aside0.mk hD
 clear hD HMD HX HBY HWY
 go_wp2_with fail
 refine (HWS.out w1).mono ?_
 rintro e w2 ⟨rfl, hb2⟩
 have HX2 := Aside0.mk (blk_below HX1.out hb2)
 have HD2 := Aside0.mk (HD.out.below hb2)
 have HB2 : Aside0 (Below w.heap.size w w2) := ⟨HB1.out.trans (hb2.mono HB1.out.size)⟩
 clear hb2 HD HB1 HX1 HWS
 obtain ⟨okp, hsh, hrf, -, -, -⟩ := HD2.out
 have HSH := Aside0.mk hsh
 have HRF := Aside0.mk hrf
 have HRC := Aside0.mk (records_walk hsh (by decide) HMO.out.kk)
 clear hsh hrf HD2
 go_wp2_with fail
 refine HRC.out.mono ?_
 rintro e w3 ⟨v, rfl, hv, hb3⟩
 obtain ⟨AR, cR, rfl⟩ := Kd.R_slice hv
 have HB3 : Aside0 (Below w.heap.size w w3) := ⟨HB2.out.trans (hb3.mono HB2.out.size)⟩
 have HX3 := Aside0.mk (blk_below HX2.out hb3)
 have hrm := Kd.C_max (Kd.R_reads' hv).2.2
 have HVP : Aside0 (∀ W, Below w3.heap.size w3 W → Calls Tryz.prog 26 #[.pointer (some ⟨b, 0, none⟩), .agg #[.int .i64 r.f0, .int .i64 r.f1, .int .i64 r.f2, .int .i64 r.f3, .string r.f4, .string r.f5, .bool r.f6, .slice A7 r.f7.length c7, .slice A8 r.f8.length c8]] W fun e w' => e = .returned (.int .i64 (voteV s r)) ∧ Below W.heap.size W w') := ⟨fun W hW => votep_walk ((HSH.out.below hb3).below hW) r _ (k26_mk W r HL7.out (Kd.C_below HR7.out (HB3.out.trans (hW.mono HB3.out.size))) HL8.out (Kd.C_below HR8.out (HB3.out.trans (hW.mono HB3.out.size)))) HSZ.out⟩
 have HRV : Aside0 (∀ W, Below w3.heap.size w3 W → Calls Tryz.prog 27 #[.pointer (some ⟨rb, 0, none⟩), .agg #[.int .i64 r.f0, .int .i64 r.f1, .int .i64 r.f2, .int .i64 r.f3, .string r.f4, .string r.f5, .bool r.f6, .slice A7 r.f7.length c7, .slice A8 r.f8.length c8]] W fun e w' => e = .returned (.int .i64 (voteV s r)) ∧ Below W.heap.size W w') := ⟨fun W hW => rvotep_walk ((HRF.out.below hb3).below hW) r A7 c7 A8 c8 (Kd.C_below HR7.out (HB3.out.trans (hW.mono HB3.out.size))) HL7.out (Kd.C_below HR8.out (HB3.out.trans (hW.mono HB3.out.size))) HL8.out HSZ.out⟩
 have HRE : Aside0 (∀ W, Below w3.heap.size w3 W → Calls Tryz.prog 9 #[.pointer (some ⟨b, 0, none⟩)] W fun e w' => ∃ A c, e = .returned (.slice A (recsV s).length c) ∧ Below W.heap.size W w') := ⟨fun W hW => (records_walk ((HSH.out.below hb3).below hW) (by decide) HMO.out.kk).mono (fun e w' h => by
  obtain ⟨v, rfl, hv, hb⟩ := h
  obtain ⟨A, c, rfl⟩ := Kd.R_slice hv
  exact ⟨A, c, rfl, hb⟩)⟩
 have HNI : Aside0 (∀ W, Calls Tryz.prog 26 #[.pointer none, .agg #[.int .i64 r.f0, .int .i64 r.f1, .int .i64 r.f2, .int .i64 r.f3, .string r.f4, .string r.f5, .bool r.f6, .slice A7 r.f7.length c7, .slice A8 r.f8.length c8]] W fun e w' => e = .returned (.int .i64 5) ∧ Below W.heap.size W w') := ⟨fun W => votenil_walk W r.f0 r.f1 r.f2 r.f3 r.f4 r.f5 r.f6 A7 r.f7.length c7 A8 r.f8.length c8⟩
 have KEEP : Aside0 (∀ W, Below w3.heap.size w3 W → W.cell? ⟨w.heap.size, 0, none⟩ = some (.int .i64 r.f0) ∧ W.cell? ⟨w.heap.size, 1, none⟩ = some (.int .i64 r.f1) ∧ W.cell? ⟨w.heap.size, 2, none⟩ = some (.int .i64 r.f2) ∧ W.cell? ⟨w.heap.size, 3, none⟩ = some (.int .i64 r.f3) ∧ W.cell? ⟨w.heap.size, 4, none⟩ = some (.string r.f4) ∧ W.cell? ⟨w.heap.size, 5, none⟩ = some (.string r.f5) ∧ W.cell? ⟨w.heap.size, 6, none⟩ = some (.bool r.f6) ∧ W.cell? ⟨w.heap.size, 7, none⟩ = some (.slice A7 r.f7.length c7) ∧ W.cell? ⟨w.heap.size, 8, none⟩ = some (.slice A8 r.f8.length c8)) := ⟨fun W hW => rec_cells (blk_below HX3.out hW)⟩
 obtain ⟨q0, q1, q2, q3, q4, q5, q6, q7, q8⟩ := rec_cells HX3.out
 clear hv hb3 HSH HRF HRC HX2 HB2 HMO HR7 HR8 HL7 HL8 HSZ
 generalize voteV s r = vv at *
 generalize (recsV s).length = nr at *
 have e1 : (vv == vv) = true := by simp
 have e2 : ((nr : Int) == (nr : Int)) = true := by simp
 go_upto_region 5 with (fail)
 go_region_held3 (fun w' => w'.cell? ⟨w.heap.size, 0, none⟩ = some (.int .i64 r.f0) ∧ w'.cell? ⟨w.heap.size, 1, none⟩ = some (.int .i64 r.f1) ∧ w'.cell? ⟨w.heap.size, 2, none⟩ = some (.int .i64 r.f2) ∧ w'.cell? ⟨w.heap.size, 3, none⟩ = some (.int .i64 r.f3) ∧ w'.cell? ⟨w.heap.size, 4, none⟩ = some (.string r.f4) ∧ w'.cell? ⟨w.heap.size, 5, none⟩ = some (.string r.f5) ∧ w'.cell? ⟨w.heap.size, 6, none⟩ = some (.bool r.f6) ∧ w'.cell? ⟨w.heap.size, 7, none⟩ = some (.slice A7 r.f7.length c7) ∧ w'.cell? ⟨w.heap.size, 8, none⟩ = some (.slice A8 r.f8.length c8)) (exact KEEP.out _ (by repeat (with_reducible first | exact HQ.out | exact Below.refl _ _ | apply below_drew1 | apply pw_below_drewN)))
  (first
   | (go_simp; go_at_call 26; with_reducible refine (HNI.out _).mono ?_; rintro e wq ⟨rfl, hq⟩; have HQ := Aside0.mk (belP (a := w3) (by repeat (with_reducible first | exact HQ.out | exact Below.refl _ _ | apply below_drew1 | apply pw_below_drewN)) hq); clear hq)
   | (go_simp; go_at_call 9; with_reducible refine (HRE.out _ (by repeat (with_reducible first | exact HQ.out | exact Below.refl _ _ | apply below_drew1 | apply pw_below_drewN))).mono ?_; rintro e wq ⟨A, c, rfl, hq⟩; have HQ := Aside0.mk (belP (a := w3) (by repeat (with_reducible first | exact HQ.out | exact Below.refl _ _ | apply below_drew1 | apply pw_below_drewN)) hq); clear hq)
   | (go_simp; go_at_call 27; with_reducible refine (HRV.out _ (by repeat (with_reducible first | exact HQ.out | exact Below.refl _ _ | apply below_drew1 | apply pw_below_drewN))).mono ?_; rintro e wq ⟨rfl, hq⟩; have HQ := Aside0.mk (belP (a := w3) (by repeat (with_reducible first | exact HQ.out | exact Below.refl _ _ | apply below_drew1 | apply pw_below_drewN)) hq); clear hq)
   | (go_simp; go_at_call 26; with_reducible refine (HVP.out _ (by repeat (with_reducible first | exact HQ.out | exact Below.refl _ _ | apply below_drew1 | apply pw_below_drewN))).mono ?_; rintro e wq ⟨rfl, hq⟩; have HQ := Aside0.mk (belP (a := w3) (by repeat (with_reducible first | exact HQ.out | exact Below.refl _ _ | apply below_drew1 | apply pw_below_drewN)) hq); clear hq))
 all_goals (try go_wp2_with fail)
 all_goals go_ret
 all_goals exact ⟨rfl, HB3.out.trans (HQ.out.mono HB3.out.size)⟩
theorem votePrepares_walk (w : World) {l : List Rec} {A0 : Option Addr} {c0 : Nat} (hc0 : l.length ≤ c0) (hr0 : Kd.C k26 w A0 l.length l) (g0 : l.length * 120 ≤ 140737488351232 ∧ ∀ r, r ∈ l → okRec r) (r : Rec) {A7 : Option Addr} {c7 : Nat} {A8 : Option Addr} {c8 : Nat} (l7 : r.f7.length ≤ c7) (g7 : Kd.C Kd.string w A7 r.f7.length r.f7) (l8 : r.f8.length ≤ c8) (g8 : Kd.C k57 w A8 r.f8.length r.f8) (gr : okRec r) :
 Calls Tryz.prog 6 #[.slice A0 l.length c0, .agg #[.int .i64 r.f0, .int .i64 r.f1, .int .i64 r.f2, .int .i64 r.f3, .string r.f4, .string r.f5, .bool r.f6, .slice A7 r.f7.length c7, .slice A8 r.f8.length c8]] w fun e w' => e = .returned (.bool true) ∧ Below w.heap.size w w' :=
 votePrepares_core w hr0 (fun r hr => sizesOk_rec (g0.2 r hr)) r A7 c7 A8 c8 g7 l7 g8 l8 (sizesOk_rec gr)
end Go.Proofs.YtaldfbmjmpkmmaaGreat.PL
