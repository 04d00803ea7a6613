/- MendTurned, walked. -/
import Derived.Test.YtpmnhlbkgeiomaaDoorM51c842
import Derived.Test.YtpmnhlbkgeiomaaDoorM0481f5
import Derived.Test.YtpmnhlbkgeiomaaDoorMf187c5
namespace Go.Proofs.YtpmnhlbkgeiomaaDoor.PS
open Go.RowKit Go.Proofs.YtpmnhlbkgeiomaaDoorW.PrintWords Go.Proofs.YtpmnhlbkgeiomaaDoorW.PrintLast Go.Proofs.YtpmnhlbkgeiomaaDoorW.PrintMore Go.Proofs.YtpmnhlbkgeiomaaDoor.Gf Go.Proofs.YtpmnhlbkgeiomaaDoor.Fld Go.Proofs.YtpmnhlbkgeiomaaDoor.Grd Go.Proofs.YtpmnhlbkgeiomaaDoor.Rowb
open Go.Lib (byteCells byteCells_length)
set_option linter.unusedVariables false
set_option linter.unusedSimpArgs false
theorem sizeN_one (K n : Nat) (h : 1 ≤ K) : 1 ≤ sizeN K n := by
  unfold sizeN
  exact (Nat.le_div_iff_mul_le (by omega)).2 (by omega)
def YesT (w : World) (e : Ending) (w' : World) : Prop := e = .returned (.bool true) ∧ Below w.heap.size w w'
set_option maxRecDepth 100000 in
set_option maxHeartbeats 4000000 in
theorem turned_main (w : World) (x0 : Int × Int) (g0 : (Lit.int .i64 x0.1).wf = true ∧ (Lit.int .i64 x0.2).wf = true) (o : ByteArray) (g1 : o.size ≤ 140737488351232) (a : Int) (g2 : (Lit.int .i64 a).wf = true) :
    Calls Tryd.prog 3 #[.agg #[.int .i64 x0.1, .int .i64 x0.2], .string o, .int .i64 a] w (YesT w) := by
  obtain ⟨y, hy, e1⟩ := among_f x0.1 5 (wf_i64 g0.1).1 (wf_i64 g0.1).2 (by omega) (by omega)
  obtain ⟨z, hz, e2⟩ := among_f x0.2 4 (wf_i64 g0.2).1 (wf_i64 g0.2).2 (by omega) (by omega)
  obtain ⟨K, hK⟩ : ∃ K, K = 1 + y := ⟨_, rfl⟩
  obtain ⟨M, hM⟩ : ∃ M, M = 1 + z := ⟨_, rfl⟩
  have HW : Aside0 (∀ W, Calls Tryd.prog 9 #[] W fun e w' => e = .returned (.bool true) ∧ Below W.heap.size W w') := ⟨fun W => corncriblaw04_works.calls 20 true W mworks_at⟩
  have HA1 : Aside0 (∀ W, Calls Tryd.prog 10 #[.int .i64 x0.1, .int .i64 5] W fun e w' => e = .returned (.int .i64 (y : Int)) ∧ Drawn0 W w') := ⟨fun W => corncribbook_Among.calls _ _ _ W e1⟩
  have HA2 : Aside0 (∀ W, Calls Tryd.prog 10 #[.int .i64 x0.2, .int .i64 4] W fun e w' => e = .returned (.int .i64 (z : Int)) ∧ Drawn0 W w') := ⟨fun W => corncribbook_Among.calls _ _ _ W e2⟩
  have hyK : (1 : Int) + (y : Int) = (K : Int) := by omega
  have hzM : (1 : Int) + (z : Int) = (M : Int) := by omega
  have HWF := Aside0.mk (wf_i64 g2)
  have HWF0 := Aside0.mk (wf_i64 g0.1)
  have HWF1 := Aside0.mk (wf_i64 g0.2)
  have HKY := Aside0.mk hK
  have HMZ := Aside0.mk hM
  obtain ⟨v0, v1⟩ := x0
  simp only at HA1 HA2 HWF0 HWF1
  clear e1 e2 g0 g2 hK hM
  by_cases hz2 : 400 < o.size
  · have d1 : decide ((400 : Int) < (o.size : Int)) = true := decide_eq_true (by omega)
    go_enter Tryd.func3, Tryd.ntmps3
    have hbx : (w.alloc (.cells #[.int .i64 v0, .int .i64 v1] 23)).heap[w.heap.size]? = some (.cells #[.int .i64 v0, .int .i64 v1] 23 (0, 0)) := blk_new _ _
    go_wp2_with fail
    refine (HW.out _).mono ?_
    rintro e w1 ⟨rfl, hb1⟩
    have B1 : Aside0 (Below w.heap.size w w1) := ⟨((Below.refl _ _).alloc (Nat.le_refl _) _).trans (hb1.mono (by simp))⟩
    have X1 := Aside0.mk (blk_below hbx hb1)
    clear hb1 hbx
    have c0 := blk_cell X1.out 0
    have c1 := blk_cell X1.out 1
    go_upto_region 3 with (fail)
    go_quiet (first | (go_at_call 10; (with_reducible refine (HA1.out _).mono ?_); rintro e w' ⟨rfl, ⟨nd, rfl⟩⟩; (try first | exact ⟨rfl, _, World.drewN_drewN _ _ _⟩ | exact ⟨rfl, _, Eq.trans (World.drewN_drewN _ _ _) (congrArg (World.drewN _) (Nat.add_assoc _ _ _))⟩)) | (go_at_call 10; (with_reducible refine (HA2.out _).mono ?_); rintro e w' ⟨rfl, ⟨nd, rfl⟩⟩; (try first | exact ⟨rfl, _, World.drewN_drewN _ _ _⟩ | exact ⟨rfl, _, Eq.trans (World.drewN_drewN _ _ _) (congrArg (World.drewN _) (Nat.add_assoc _ _ _))⟩)))
    go_wp2
    go_ret
    exact ⟨rfl, by repeat (first | exact B1.out | apply below_drew1 | apply pw_below_drewN)⟩
  · have d1 : decide ((400 : Int) < (o.size : Int)) = false := decide_eq_false (by omega)
    have hKb := HKY.out
    have hMb := HMZ.out
    have h1 : 1 ≤ K := by omega
    have h2 : K + M ≤ 255 := by omega
    have ho : o.size ≤ 2048 := by omega
    have henc : stripe_Encode.f (K : Int) (M : Int) o = some (encL K M o, 0) := by
      rw [encode_f]
      unfold encV
      rw [if_pos (codeB_in h1 h2), if_pos (by omega)]
      rfl
    have HE : Aside0 (∀ W, Calls Tryd.prog 11 #[.int .i64 (K : Int), .int .i64 (M : Int), .string o] W fun e w' => ∃ v0_ : Value, e = .returned (.tuple #[v0_, .int .i64 0]) ∧ Kd.R Kd.string 9 w' W.heap.size (fun _ => True) v0_ (encL K M o) ∧ Below W.heap.size W w') := ⟨fun W => stripe_Encode.calls _ _ _ _ _ W henc⟩
    have hel : (encL K M o).length = K + M := encL_len K M o
    have hp3 : ∀ x, x ∈ [a, v0, v1] → -9223372036854775808 ≤ x ∧ x ≤ 9223372036854775807 := fun x hx => by
      simp only [List.mem_cons, List.not_mem_nil, or_false] at hx
      rcases hx with rfl | rfl | rfl
      · exact HWF.out
      · exact HWF0.out
      · exact HWF1.out
    obtain ⟨l, hl1, hl2, hl3⟩ := some_f (encL K M o) (K + 1) [a, v0, v1] (by omega) (by omega) hp3 900 (by omega)
    obtain ⟨i, hi, e4⟩ := among_f a (K + 1) HWF.out.1 HWF.out.2 (by omega) (by omega)
    have hil : i < l.length := by omega
    obtain ⟨gd, hn⟩ := picked_good h1 h2 ho (by omega) hl3
    have hsz : l[i].f1.size = sizeN K o.size := by
      have h := gd.size i hil
      have h' : (rd_T37 l 0).f1.size = sizeN K o.size := hn
      rw [h, h']
    have hone := sizeN_one K o.size h1
    have hsm : sizeN K o.size ≤ 2052 := by
      unfold sizeN
      exact Nat.div_le_of_le_mul (by have := Nat.le_mul_of_pos_left 2052 (show 0 < K by omega); have := Nat.le_mul_of_pos_right K (show 0 < 2052 by omega); rcases Nat.lt_or_ge K 2 with h | h <;> first | omega | (have := Nat.mul_le_mul_right 2052 h; omega))
    obtain ⟨p, hp, e5⟩ := among_f a (l[i].f1.size) HWF.out.1 HWF.out.2 (by omega) (by omega)
    have hdl := picked_data h1 h2 ho (by omega) hl3
    have ha1 : mend_Agree.f 900 (K : Int) (M : Int) l = some (true, 0) := by
      rw [gd.agree_f 900 (by omega) (by omega), hdl, hn, ← encL_all, agree_true hl3]
    obtain ⟨gt, ht⟩ := turnL_good h1 h2 ho hl2 hl3 i p hil
    have htl : (turnL l i p hil).length = l.length := by simp [turnL]
    have ha2 : mend_Agree.f 900 (K : Int) (M : Int) (turnL l i p hil) = some (false, 0) := by
      rw [gt.agree_f 900 (by omega) (by omega), turnL_false h1 h2 ho hl2 hl3 i p hil (by omega)]
    have HS : Aside0 (∀ (W : World) A c A2 c2, Kd.C Kd.string W A (encL K M o).length (encL K M o) → (encL K M o).length ≤ c → Kd.C (Kd.int .i64) W A2 [a, v0, v1].length [a, v0, v1] → [a, v0, v1].length ≤ c2 → Calls Tryd.prog 12 #[.slice A (encL K M o).length c, .int .i64 ((K : Int) + 1), .slice A2 [a, v0, v1].length c2] W fun e w' => ∃ v0_ : Value, e = .returned v0_ ∧ Kd.R k37 37 w' W.heap.size (fun _ => True) v0_ l ∧ Below W.heap.size W w') :=
      ⟨fun W A c A2 c2 q1 q2 q3 q4 => corncriblaw04_some.calls 900 A c _ _ A2 c2 _ _ W q1 q2 q3 q4 hl1⟩
    have HG1 : Aside0 (∀ (W : World) A c, Kd.C k37 W A l.length l → l.length ≤ c → Calls Tryd.prog 13 #[.int .i64 (K : Int), .int .i64 (M : Int), .slice A l.length c] W fun e w' => e = .returned (.tuple #[.bool true, .int .i64 0]) ∧ Below W.heap.size W w') := ⟨fun W A c q1 q2 => mend_Agree.calls 900 _ _ A c l _ _ W q1 q2 ha1⟩
    have HG2 : Aside0 (∀ (W : World) A c, Kd.C k37 W A l.length (l.set i ⟨l[i].f0, turned l[i].f1 p⟩) → l.length ≤ c → Calls Tryd.prog 13 #[.int .i64 (K : Int), .int .i64 (M : Int), .slice A l.length c] W fun e w' => e = .returned (.tuple #[.bool false, .int .i64 0]) ∧ Below W.heap.size W w') := ⟨fun W A c q1 q2 => by
      have := mend_Agree.calls 900 _ _ A c (turnL l i p hil) _ _ W (by rw [htl]; exact q1) (by rw [htl]; exact q2) ha2
      rw [htl] at this
      exact this⟩
    have HA3 : Aside0 (∀ W, Calls Tryd.prog 10 #[.int .i64 a, .int .i64 ((K : Int) + 1)] W fun e w' => e = .returned (.int .i64 (i : Int)) ∧ Drawn0 W w') := ⟨fun W => corncribbook_Among.calls _ _ _ W e4⟩
    have HA4 : Aside0 (∀ W, Calls Tryd.prog 10 #[.int .i64 a, .int .i64 (l[i].f1.size : Int)] W fun e w' => e = .returned (.int .i64 (p : Int)) ∧ Drawn0 W w') := ⟨fun W => corncribbook_Among.calls _ _ _ W e5⟩
    have hKle : K ≤ 5 := by omega
    have hMle : M ≤ 4 := by omega
    clear e4 e5 henc hz2 hKb hMb hl1 hl3 hp3 gd hn hsz hone hdl ha1 gt ht htl ha2 h1 h2 ho
    go_enter Tryd.func3, Tryd.ntmps3
    have hbx : (w.alloc (.cells #[.int .i64 v0, .int .i64 v1] 23)).heap[w.heap.size]? = some (.cells #[.int .i64 v0, .int .i64 v1] 23 (0, 0)) := blk_new _ _
    go_wp2_with fail
    refine (HW.out _).mono ?_
    rintro e w1 ⟨rfl, hb1⟩
    have B1 : Aside0 (Below w.heap.size w w1) := ⟨((Below.refl _ _).alloc (Nat.le_refl _) _).trans (hb1.mono (by simp))⟩
    have X1 := Aside0.mk (blk_below hbx hb1)
    clear hb1 hbx
    have c0 := blk_cell X1.out 0
    have c1 := blk_cell X1.out 1
    go_upto_region 3 with (fail)
    go_cut [7, 8] (fun v7 v8 wc => v7 = .int .i64 (K : Int) ∧ v8 = .int .i64 (M : Int) ∧ Aside0 (Below w.heap.size w wc) ∧ Aside0 (wc.heap[w.heap.size]? = some (.cells #[.int .i64 v0, .int .i64 v1] 23 (0, 0))))
    case first =>
      go_quiet (first | (go_at_call 10; (with_reducible refine (HA1.out _).mono ?_); rintro e w' ⟨rfl, ⟨nd, rfl⟩⟩; (try first | exact ⟨rfl, _, World.drewN_drewN _ _ _⟩ | exact ⟨rfl, _, Eq.trans (World.drewN_drewN _ _ _) (congrArg (World.drewN _) (Nat.add_assoc _ _ _))⟩)) | (go_at_call 10; (with_reducible refine (HA2.out _).mono ?_); rintro e w' ⟨rfl, ⟨nd, rfl⟩⟩; (try first | exact ⟨rfl, _, World.drewN_drewN _ _ _⟩ | exact ⟨rfl, _, Eq.trans (World.drewN_drewN _ _ _) (congrArg (World.drewN _) (Nat.add_assoc _ _ _))⟩)))
      all_goals (try go_wp2_with fail)
      all_goals go_meet
      all_goals (case rel => exact ⟨rfl, rfl, ⟨by repeat (first | exact B1.out | apply below_drew1 | apply pw_below_drewN)⟩, ⟨by (with_reducible repeat (first | refine blk_drewN ?_ _ | refine blk_drew ?_)); exact X1.out⟩⟩)
    case rest =>
      obtain ⟨rfl, rfl, HB, HX⟩ := hcut
      clear c0 c1 X1 B1 hyK hzM HA1 HA2
      have HEL := Aside0.mk hel
      have HLN := Aside0.mk hl2
      have HIL := Aside0.mk hil
      have hpi := hp
      clear hl2
      go_wp2_with fail
      refine (HE.out wc).mono ?_
      rintro e w4 ⟨vx, rfl, hkx, hb4⟩
      have B4 : Aside0 (Below w.heap.size w w4) := ⟨HB.out.trans (hb4.mono HB.out.size)⟩
      have X4 := Aside0.mk (blk_below HX.out hb4)
      have KX4 := Aside0.mk (Kd.R_lower hkx HB.out.size)
      obtain ⟨Ax, cx, hvx⟩ := Kd.R_slice hkx
      subst hvx
      clear hkx hb4 HB HX
      have c0 := blk_cell X4.out 0
      have c1 := blk_cell X4.out 1
      have hlk : (((encL K M o).length : Int) != (K : Int) + (M : Int)) = false := by rw [HEL.out]; simp
      generalize encL K M o = X at *
      clear hel
      go_wp2_with ((with_reducible refine gate_dst (N := 54) rfl ?_); refine Kd.R_lit (w0 := w) (Kd.int .i64) w.heap.size 3 ?hg (N := 54) ?hd (xs := [a, v0, v1]) (inner := [.int .i64 a, .int .i64 v0, .int .i64 v1]) (ok := fun _ => True) (okp := fun _ => True) ?hr ?hp (fun _ hk => hk) trivial B4.out B4.out.size (by simp) ?_; (case hd => rfl); (case hg => rfl); (case hr => first | (go_simp; done) | (go_simp; rfl)); (case hp => exact Reps.one rfl (Reps.one rfl (Reps.one rfl (Reps.none _ _)))); intro vp w5 ho hb hg_ hnew_; obtain ⟨Ap, cp, hvp⟩ := Kd.R_slice ho; subst hvp; have HP5 := Aside0.mk ho; have B5 := Aside0.mk hb; have KX5 := Aside0.mk (Kd.R_over' (v := .slice none 0 0) (e' := 0) KX4.out (fun k hk => by simp [Value.ownBlock] at hk) (by decide) hg_); clear ho hb hnew_ hg_)
      have hcS := HS.out w5 Ax cx Ap cp (Kd.R_reads' KX5.out).2.2 (Kd.R_reads' KX5.out).2.1 (Kd.R_reads' HP5.out).2.2 (Kd.R_reads' HP5.out).2.1
      clear KX4 B4 X4 c0 c1
      refine hcS.mono ?_
      rintro e w6 ⟨vl, rfl, hkl, hb6⟩
      have B6 : Aside0 (Below w.heap.size w w6) := ⟨B5.out.trans (hb6.mono B5.out.size)⟩
      have HL6 := Aside0.mk (Kd.R_lower hkl B5.out.size)
      obtain ⟨Al, cl, hvl⟩ := Kd.R_slice hkl
      subst hvl
      clear hkl hb6 hcS KX5 HP5 B5
      go_wp2_with fail
      refine (HG1.out w6 Al cl (Kd.R_reads' HL6.out).2.2 (Kd.R_reads' HL6.out).2.1).mono ?_
      rintro e w7 ⟨rfl, hb7⟩
      have B7 : Aside0 (Below w.heap.size w w7) := ⟨B6.out.trans (hb7.mono B6.out.size)⟩
      have HL7 := Aside0.mk (Kd.R_below HL6.out hb7)
      clear hb7 HL6 B6 HG1
      go_wp2_with fail
      refine (HA3.out _).mono ?_
      rintro e w8 ⟨rfl, ⟨nd, rfl⟩⟩
      have B8 := Aside0.mk (pw_below_drewN B7.out nd)
      have HL8 := Aside0.mk (Kd.R_drewN HL7.out nd)
      generalize w7.drewN nd = w8 at *
      clear HL7 B7
      obtain ⟨g, cg, hvg, hgg, hglt, _⟩ := Kd.R_form HL8.out (by have := HLN.out; omega)
      injection hvg with hvg1 hvg2 hvg3
      subst hvg1 hvg3
      have hput := shards_put HL8.out i hil ⟨#[]⟩
      obtain ⟨p1, p2, _, _⟩ := hput
      obtain ⟨cap, W9, hcv, hcap, hrs, hb9, _⟩ := run_bytes_new w8 l[i].f1
      have H8 := Aside0.mk (And.intro hgg hglt)
      obtain ⟨b, hbe⟩ : ∃ b, w8.heap.size = b := ⟨_, rfl⟩
      have hsl : l[i].f1.data.toList.length = l[i].f1.size := Array.length_toList
      have hpl : p < l[i].f1.data.toList.length := by rw [hsl]; exact hp
      rw [hbe] at hrs hcv
      have r0 := hrs.cell p hpl
      have f0 := hrs.frozen p hpl
      have hx := xor_u8 (l[i].f1.data.toList[p]'hpl).toNat 1 (b_lt _) (by decide)
      have HST : Aside0 (∀ W : World, W.heap = W9.heap → RowS (W.setCell ⟨b, p, none⟩ (.int .u8 ((((l[i].f1.data.toList[p]'hpl) ^^^ 1).toNat : Nat) : Int))) b (l[i].f1.data.toList.set p (l[i].f1.data.toList.getD p 0 ^^^ 1))) := ⟨fun W hW => by
        have := (hrs.heap hW).put p hpl (l[i].f1.data.toList.getD p 0 ^^^ 1)
        rwa [getD_lt _ _ _ hpl] at this ⊢⟩
      have hx2 : bits .xor .u8 ((l[i].f1.data.toList[p]'hpl).toNat : Int) 1 = ((((l[i].f1.data.toList[p]'hpl) ^^^ 1).toNat : Nat) : Int) := by
        rw [UInt8.toNat_xor]
        exact hx
      have HB9 := Aside0.mk hb9
      have HBE := Aside0.mk hbe
      have htd : (⟨(l[i].f1.data.toList.set p (l[i].f1.data.toList.getD p 0 ^^^ 1)).toArray⟩ : ByteArray) = turned l[i].f1 p := rfl
      have hslen : (l[i].f1.data.toList.set p (l[i].f1.data.toList.getD p 0 ^^^ 1)).length = l[i].f1.size := by rw [List.length_set]; exact hsl
      generalize (((l[i].f1.data.toList[p]'hpl) ^^^ 1).toNat : Nat) = px at *
      generalize (l[i].f1.data.toList[p]'hpl).toNat = po at *
      clear hrs hb9 hx hbe
      have hcapi : (p : Int) < (l[i].f1.size : Int) := by omega
      obtain ⟨x0, hx0⟩ : ∃ x, x = l[i].f0 := ⟨_, rfl⟩
      obtain ⟨s, hs⟩ : ∃ s, s = l[i].f1 := ⟨_, rfl⟩
      have HPUT : Aside0 (∀ (W : World) (u : ByteArray), Kd.R k37 37 W w.heap.size (fun _ => True) (.slice (some ⟨g, 0, none⟩) l.length cl) l → W.cell? ⟨g, i * 2 + 1, none⟩ = some (.string s) ∧ W.frozen? ⟨g, i * 2 + 1, none⟩ = false ∧ Kd.C k37 (W.setCell ⟨g, i * 2 + 1, none⟩ (.string u)) (some ⟨g, 0, none⟩) l.length (l.set i ⟨x0, u⟩)) := ⟨fun W u hW => by
        obtain ⟨q1, q2, _, q4⟩ := shards_put hW i hil u
        rw [hs, hx0]
        exact ⟨q1, q2, q4⟩⟩
      have HG3 : Aside0 (∀ (W : World) A c, Kd.C k37 W A l.length (l.set i ⟨x0, turned s p⟩) → l.length ≤ c → Calls Tryd.prog 13 #[.int .i64 (K : Int), .int .i64 (M : Int), .slice A l.length c] W fun e w' => e = .returned (.tuple #[.bool false, .int .i64 0]) ∧ Below W.heap.size W w') := ⟨by rw [hs, hx0]; exact HG2.out⟩
      clear HG2
      rw [← hs] at htd hslen hcv HA4 hcapi hp hpi hsl HST hcap p1
      clear hs hx0
      go_wp2_with fail
      refine (HA4.out _).mono ?_
      rintro e w10 ⟨rfl, ⟨nd3, rfl⟩⟩
      have RS := HST.out (W9.drewN nd3) rfl
      have hcv2 := RS.whole cap
      rw [hslen, htd] at hcv2
      have HBW : Aside0 (Below w8.heap.size w8 ((W9.drewN nd3).setCell ⟨b, p, none⟩ (.int .u8 (px : Int)))) := ⟨(pw_below_drewN HB9.out nd3).setCell (by rw [HBE.out]; exact Nat.le_refl _) _⟩
      have HL10 := Kd.R_below HL8.out HBW.out
      obtain ⟨q1, q2, q4⟩ := HPUT.out _ (turned s p) HL10
      have HQ4 := Aside0.mk q4
      have HCL : Aside0 (l.length ≤ cl) := ⟨(Kd.R_reads' HL8.out).2.1⟩
      have HBF : Aside0 (Below w.heap.size w ((W9.drewN nd3).setCell ⟨b, p, none⟩ (.int .u8 (px : Int)))) := ⟨B8.out.trans (HBW.out.mono B8.out.size)⟩
      clear q4 HL10 RS
      go_wp2_with fail
      refine (HG3.out _ _ _ HQ4.out HCL.out).mono ?_
      rintro e w11 ⟨rfl, hb11⟩
      have HB11 : Aside0 (Below w.heap.size w w11) := ⟨(HBF.out.setCell H8.out.1 _).trans (hb11.mono (HBF.out.setCell H8.out.1 _).size)⟩
      clear hb11
      go_wp2
      go_ret
      exact ⟨rfl, HB11.out⟩
theorem turned_walk (w : World) (x0 : Int × Int) (g0 : (Lit.int .i64 x0.1).wf = true ∧ (Lit.int .i64 x0.2).wf = true) (o : ByteArray) (g1 : o.size ≤ 140737488351232) (a : Int) (g2 : (Lit.int .i64 a).wf = true) :
    Calls Tryd.prog 3 #[.agg #[.int .i64 x0.1, .int .i64 x0.2], .string o, .int .i64 a] w fun e w' => e = .returned (.bool true) ∧ Below w.heap.size w w' := turned_main w x0 g0 o g1 a g2
end Go.Proofs.YtpmnhlbkgeiomaaDoor.PS
