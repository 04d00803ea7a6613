/- MendChanges, walked. -/
import Derived.Test.YtegmmefijihdeaaDoorM424cdf
namespace Go.Proofs.YtegmmefijihdeaaDoor.PS
open Go.RowKit Go.Proofs.YtegmmefijihdeaaDoorW.PrintWords Go.Proofs.YtegmmefijihdeaaDoorW.PrintLast Go.Proofs.YtegmmefijihdeaaDoorW.PrintMore Go.Proofs.YtegmmefijihdeaaDoor.Gf Go.Proofs.YtegmmefijihdeaaDoor.Fld Go.Proofs.YtegmmefijihdeaaDoor.Grd Go.Proofs.YtegmmefijihdeaaDoor.Rowb
open Go.Lib (byteCells byteCells_length)
set_option linter.unusedVariables false
set_option linter.unusedSectionVars false
set_option linter.unusedSimpArgs false
theorem bytes_nil {o : ByteArray} (h : o.size = 0) : o.toList = [] := by
  rw [Lib.toList_data]
  exact List.eq_nil_of_length_eq_zero (by rw [Array.length_toList]; exact h)
theorem bytes_some {o : ByteArray} (h : ¬ o.size = 0) : (o.toList == ([] : List UInt8)) = false ∧ o.toList.isEmpty = false := by
  have hl : o.toList.length = o.size := by rw [Lib.toList_data, Array.length_toList]; rfl
  cases hc : o.toList with
  | nil => rw [hc] at hl; simp at hl; omega
  | cons x r => exact ⟨rfl, rfl⟩
def Yes (w : World) (e : Ending) (w' : World) : Prop := e = .returned (.bool true) ∧ Below w.heap.size w w'
set_option maxRecDepth 100000 in
set_option maxHeartbeats 4000000 in
theorem changes_main (w : World) (x0 : Int × Int) (g0 : (Lit.int .i64 x0.1).wf = true ∧ (Lit.int .i64 x0.2).wf = true) (o : ByteArray) (g1 : o.size ≤ 140737488351232) (a : Int) (g2 : (Lit.int .i64 a).wf = true) :
    Calls Tryd.prog 13 #[.agg #[.int .i64 x0.1, .int .i64 x0.2], .string o, .int .i64 a] w (Yes w) := by
  obtain ⟨y, hy, e1⟩ := among_f x0.1 4 (wf_i64 g0.1).1 (wf_i64 g0.1).2 (by omega) (by omega)
  obtain ⟨M, hM, e2⟩ := among_f x0.2 4 (wf_i64 g0.2).1 (wf_i64 g0.2).2 (by omega) (by omega)
  obtain ⟨K, hK⟩ : ∃ K, K = 2 + y := ⟨_, rfl⟩
  have hKi : wrap64 (2 + (y : Int)) = (K : Int) := by rw [w64_in _ (by omega) (by omega)]; omega
  have HW : Aside0 (∀ W, Calls Tryd.prog 32 #[] W fun e w' => e = .returned (.bool true) ∧ Below W.heap.size W w') := ⟨fun W => corncriblaw04_works.calls 20 true W mworks_at⟩
  have HA1 : Aside0 (∀ W, Calls Tryd.prog 30 #[.int .i64 x0.1, .int .i64 4] W fun e w' => e = .returned (.int .i64 (y : Int)) ∧ Drawn0 W w') := ⟨fun W => corncribbook_Among.calls _ _ _ W e1⟩
  have HA2 : Aside0 (∀ W, Calls Tryd.prog 30 #[.int .i64 x0.2, .int .i64 4] W fun e w' => e = .returned (.int .i64 (M : Int)) ∧ Drawn0 W w') := ⟨fun W => corncribbook_Among.calls _ _ _ W e2⟩
  have hyK : (2 : Int) + (y : Int) = (K : Int) := by omega
  have HWF := Aside0.mk (wf_i64 g2)
  have HKY := Aside0.mk hK
  obtain ⟨v0, v1⟩ := x0
  simp only at HA1 HA2
  clear e1 e2 g0 g2 hKi hK
  by_cases hz : o.size = 0
  · have hs : (o.toList == ([] : List UInt8)) = true := by
      rw [bytes_nil hz]
      rfl
    have hs2 : o.toList.isEmpty = true := by
      rw [bytes_nil hz]
      rfl
    go_enter Tryd.func13, Tryd.ntmps13
    have hbx : (w.alloc (.cells #[.int .i64 v0, .int .i64 v1] 52)).heap[w.heap.size]? = some (.cells #[.int .i64 v0, .int .i64 v1] 52 (0, 0)) := blk_new _ _
    go_wp2_with fail
    refine (HW.out _).mono ?_
    rintro e w1 ⟨rfl, hb1⟩
    have B1 : Aside0 (Below w.heap.size w w1) := ⟨((Below.refl _ _).alloc (Nat.le_refl _) _).trans (hb1.mono (by simp))⟩
    have X1 := Aside0.mk (blk_below hbx hb1)
    clear hb1 hbx
    have c0 := blk_cell X1.out 0
    have c1 := blk_cell X1.out 1
    go_upto_region 3 with (fail)
    go_quiet (first | (go_at_call 30; (with_reducible refine (HA1.out _).mono ?_); rintro e w' ⟨rfl, ⟨nd, rfl⟩⟩; (try first | exact ⟨rfl, _, World.drewN_drewN _ _ _⟩ | exact ⟨rfl, _, Eq.trans (World.drewN_drewN _ _ _) (congrArg (World.drewN _) (Nat.add_assoc _ _ _))⟩)) | (go_at_call 30; (with_reducible refine (HA2.out _).mono ?_); rintro e w' ⟨rfl, ⟨nd, rfl⟩⟩; (try first | exact ⟨rfl, _, World.drewN_drewN _ _ _⟩ | exact ⟨rfl, _, Eq.trans (World.drewN_drewN _ _ _) (congrArg (World.drewN _) (Nat.add_assoc _ _ _))⟩)))
    go_wp2
    go_ret
    exact ⟨rfl, by repeat (first | exact B1.out | apply below_drew1 | apply pw_below_drewN)⟩
  · obtain ⟨hs, hs2⟩ := bytes_some hz
    by_cases hz2 : 200 < o.size
    · have d1 : decide ((200 : Int) < (o.size : Int)) = true := decide_eq_true (by omega)
      go_enter Tryd.func13, Tryd.ntmps13
      have hbx : (w.alloc (.cells #[.int .i64 v0, .int .i64 v1] 52)).heap[w.heap.size]? = some (.cells #[.int .i64 v0, .int .i64 v1] 52 (0, 0)) := blk_new _ _
      go_wp2_with fail
      refine (HW.out _).mono ?_
      rintro e w1 ⟨rfl, hb1⟩
      have B1 : Aside0 (Below w.heap.size w w1) := ⟨((Below.refl _ _).alloc (Nat.le_refl _) _).trans (hb1.mono (by simp))⟩
      have X1 := Aside0.mk (blk_below hbx hb1)
      clear hb1 hbx
      have c0 := blk_cell X1.out 0
      have c1 := blk_cell X1.out 1
      go_upto_region 3 with (fail)
      go_quiet (first | (go_at_call 30; (with_reducible refine (HA1.out _).mono ?_); rintro e w' ⟨rfl, ⟨nd, rfl⟩⟩; (try first | exact ⟨rfl, _, World.drewN_drewN _ _ _⟩ | exact ⟨rfl, _, Eq.trans (World.drewN_drewN _ _ _) (congrArg (World.drewN _) (Nat.add_assoc _ _ _))⟩)) | (go_at_call 30; (with_reducible refine (HA2.out _).mono ?_); rintro e w' ⟨rfl, ⟨nd, rfl⟩⟩; (try first | exact ⟨rfl, _, World.drewN_drewN _ _ _⟩ | exact ⟨rfl, _, Eq.trans (World.drewN_drewN _ _ _) (congrArg (World.drewN _) (Nat.add_assoc _ _ _))⟩)))
      go_wp2
      go_ret
      exact ⟨rfl, by repeat (first | exact B1.out | apply below_drew1 | apply pw_below_drewN)⟩
    · have d1 : decide ((200 : Int) < (o.size : Int)) = false := decide_eq_false (by omega)
      have d2 : ¬ 200 < o.size := hz2
      obtain ⟨p, hp, e3⟩ := among_f a o.size HWF.out.1 HWF.out.2 (by omega) (by omega)
      obtain ⟨n, hn, e4⟩ := among_f a K HWF.out.1 HWF.out.2 (by omega) (by omega)
      have HA3 : Aside0 (∀ W, Calls Tryd.prog 30 #[.int .i64 a, .int .i64 (o.size : Int)] W fun e w' => e = .returned (.int .i64 (p : Int)) ∧ Drawn0 W w') := ⟨fun W => corncribbook_Among.calls _ _ _ W e3⟩
      have HA4 : Aside0 (∀ W, Calls Tryd.prog 30 #[.int .i64 a, .int .i64 (K : Int)] W fun e w' => e = .returned (.int .i64 (n : Int)) ∧ Drawn0 W w') := ⟨fun W => corncribbook_Among.calls _ _ _ W e4⟩
      have hKb := HKY.out
      have h1 : 1 ≤ K := by omega
      have h2 : K + M ≤ 255 := by omega
      have ho : o.size ≤ 2048 := by omega
      have henc : ∀ u : ByteArray, u.size = o.size → stripe_Encode.f (K : Int) (M : Int) u = some (encL K M u, 0) := fun u hu => by
        rw [encode_f]
        unfold encV
        rw [if_pos (codeB_in h1 h2), if_pos (by omega)]
        rfl
      have HE : Aside0 (∀ (u : ByteArray), u.size = o.size → ∀ W, Calls Tryd.prog 26 #[.int .i64 (K : Int), .int .i64 (M : Int), .string u] W fun e w' => ∃ v0_ : Value, e = .returned (.tuple #[v0_, .int .i64 0]) ∧ Kd.R Kd.string 9 w' W.heap.size (fun _ => True) v0_ (encL K M u) ∧ Below W.heap.size W w') := ⟨fun u hu W => stripe_Encode.calls _ _ _ _ _ W (henc u hu)⟩
      have HO1 : Aside0 (∀ (i : Nat) (sh : S62), (chgL (encL K M o) (encL K M (turned o p)) K n)[i]? = some sh → ∀ W A c, Kd.C k62 W A (chgL (encL K M o) (encL K M (turned o p)) K n).length (chgL (encL K M o) (encL K M (turned o p)) K n) → (chgL (encL K M o) (encL K M (turned o p)) K n).length ≤ c → Calls Tryd.prog 43 #[.int .i64 (K : Int), .int .i64 (M : Int), .slice A (chgL (encL K M o) (encL K M (turned o p)) K n).length c, .int .i64 (i : Int)] W fun e w' => e = .returned (.tuple #[.string sh.f1, .int .i64 0]) ∧ Below W.heap.size W w') := ⟨fun i sh hi W A c hr hc => by
        obtain ⟨hil, e⟩ := List.getElem?_eq_some_iff.1 hi
        have hiK : i < K := by rwa [chgL_len] at hil
        refine mend_One.calls 300 _ _ _ _ _ _ _ _ W hr hc ?_
        rw [chg_one h1 h2 ho (turned_size o p) i hiK 300 (by omega), e]⟩
      have HTS := Aside0.mk (turned_size o p)
      have HZ := Aside0.mk hz
      clear e3 e4 henc hz2 hKb
      go_enter Tryd.func13, Tryd.ntmps13
      have hbx : (w.alloc (.cells #[.int .i64 v0, .int .i64 v1] 52)).heap[w.heap.size]? = some (.cells #[.int .i64 v0, .int .i64 v1] 52 (0, 0)) := blk_new _ _
      go_wp2_with fail
      refine (HW.out _).mono ?_
      rintro e w1 ⟨rfl, hb1⟩
      have B1 : Aside0 (Below w.heap.size w w1) := ⟨((Below.refl _ _).alloc (Nat.le_refl _) _).trans (hb1.mono (by simp))⟩
      have X1 := Aside0.mk (blk_below hbx hb1)
      clear hb1 hbx
      have c0 := blk_cell X1.out 0
      have c1 := blk_cell X1.out 1
      go_upto_region 3 with (fail)
      go_cut [7, 8] (fun v7 v8 wc => v7 = .int .i64 (K : Int) ∧ v8 = .int .i64 (M : Int) ∧ Aside0 (Below w.heap.size w wc))
      case first =>
        go_quiet (first | (go_at_call 30; (with_reducible refine (HA1.out _).mono ?_); rintro e w' ⟨rfl, ⟨nd, rfl⟩⟩; (try first | exact ⟨rfl, _, World.drewN_drewN _ _ _⟩ | exact ⟨rfl, _, Eq.trans (World.drewN_drewN _ _ _) (congrArg (World.drewN _) (Nat.add_assoc _ _ _))⟩)) | (go_at_call 30; (with_reducible refine (HA2.out _).mono ?_); rintro e w' ⟨rfl, ⟨nd, rfl⟩⟩; (try first | exact ⟨rfl, _, World.drewN_drewN _ _ _⟩ | exact ⟨rfl, _, Eq.trans (World.drewN_drewN _ _ _) (congrArg (World.drewN _) (Nat.add_assoc _ _ _))⟩)))
        all_goals (try go_wp2_with fail)
        all_goals go_meet
        all_goals (case rel => exact ⟨rfl, rfl, ⟨by repeat (first | exact B1.out | apply below_drew1 | apply pw_below_drewN)⟩⟩)
      case rest =>
        obtain ⟨rfl, rfl, HB⟩ := hcut
        clear c0 c1 X1 B1 hyK HA1 HA2
        obtain ⟨cap, W2, hcv, hcap, hrs, hb2, _⟩ := run_bytes_new wc o
        have HB2 : Aside0 (Below w.heap.size w W2) := ⟨HB.out.trans (hb2.mono HB.out.size)⟩
        have hgb : w.heap.size ≤ wc.heap.size := HB.out.size
        obtain ⟨b, hbe⟩ : ∃ b, wc.heap.size = b := ⟨_, rfl⟩
        rw [hbe] at hrs hcv hgb
        have HRS := Aside0.mk hrs
        have hol : o.data.toList.length = o.size := Array.length_toList
        have r0 := hrs.cell p (by rw [hol]; exact hp)
        have f0 := hrs.frozen p (by rw [hol]; exact hp)
        have hx := xor_u8 (o.data.toList[p]'(by rw [hol]; exact hp)).toNat 1 (b_lt _) (by decide)
        have HST : Aside0 (∀ W : World, W.heap = W2.heap → RowS (W.setCell ⟨b, p, none⟩ (.int .u8 ((((o.data.toList[p]'(by rw [hol]; exact hp)) ^^^ 1).toNat : Nat) : Int))) b (o.data.toList.set p (o.data.toList.getD p 0 ^^^ 1))) := ⟨fun W hW => by
          have := (hrs.heap hW).put p (by rw [hol]; exact hp) (o.data.toList.getD p 0 ^^^ 1)
          rwa [getD_lt _ _ _ (by rw [hol]; exact hp)] at this ⊢⟩
        have hx2 : bits .xor .u8 ((o.data.toList[p]'(by rw [hol]; exact hp)).toNat : Int) 1 = ((((o.data.toList[p]'(by rw [hol]; exact hp)) ^^^ 1).toNat : Nat) : Int) := by
          rw [UInt8.toNat_xor]
          exact hx
        have hpi : p < o.size := hp
        generalize (((o.data.toList[p]'(by rw [hol]; exact hp)) ^^^ 1).toNat : Nat) = px at *
        generalize (o.data.toList[p]'(by rw [hol]; exact hp)).toNat = po at *
        clear hrs hb2 hx hol hbe
        go_wp2_with fail
        refine (HA3.out _).mono ?_
        rintro e w3 ⟨rfl, ⟨nd, rfl⟩⟩
        go_wp2_with fail
        have RS3 := Aside0.mk (HST.out (W2.drewN nd) rfl)
        have B3 : Aside0 (Below w.heap.size w ((W2.drewN nd).setCell ⟨b, p, none⟩ (.int .u8 (px : Int)))) := ⟨(pw_below_drewN HB2.out nd).setCell hgb _⟩
        generalize (W2.drewN nd).setCell ⟨b, p, none⟩ (.int .u8 (px : Int)) = w3 at *
        clear HST HRS r0 f0 hx2 hcv
        refine (HE.out o rfl w3).mono ?_
        rintro e w4 ⟨vx, rfl, hkx, hb4⟩
        have RS4 := Aside0.mk (RS3.out.below hb4)
        have B4 : Aside0 (Below w.heap.size w w4) := ⟨B3.out.trans (hb4.mono B3.out.size)⟩
        have KX4 := Aside0.mk (Kd.R_lower hkx B3.out.size)
        obtain ⟨Ax, cx, hvx⟩ := Kd.R_slice hkx
        subst hvx
        have HXL := Aside0.mk (encL_len K M o)
        have hcv2 := RS4.out.whole cap
        rw [List.length_set, show o.data.toList.length = o.size from Array.length_toList] at hcv2
        have htd : (⟨(o.data.toList.set p (o.data.toList.getD p 0 ^^^ 1)).toArray⟩ : ByteArray) = turned o p := rfl
        rw [htd] at hcv2
        clear htd hkx hb4 RS3 B3
        rw [HXL.out]
        go_wp2_with fail
        refine (HE.out (turned o p) HTS.out w4).mono ?_
        rintro e w5 ⟨vy, rfl, hky, hb5⟩
        have B5 : Aside0 (Below w.heap.size w w5) := ⟨B4.out.trans (hb5.mono B4.out.size)⟩
        have KX5 := Aside0.mk (Kd.R_below KX4.out hb5)
        have KY5 := Aside0.mk (Kd.R_lower hky B4.out.size)
        obtain ⟨Ay, cy, hvy⟩ := Kd.R_slice hky
        subst hvy
        rw [encL_len]
        have hlk : (((K + M : Nat) : Int) != (K : Int) + (M : Int)) = false := by simp
        clear hky hb5 B4 KX4 RS4 hcv2
        go_wp2_with fail
        have KX6 : Aside0 (Kd.R Kd.string 9 w5 w.heap.size (fun _ => True) (.slice Ax (encL K M o).length cx) (encL K M o)) := KX5
        have KY6 : Aside0 (Kd.R Kd.string 9 w5 w.heap.size (fun _ => True) (.slice Ay (encL K M (turned o p)).length cy) (encL K M (turned o p))) := KY5
        have HYL := Aside0.mk (encL_len K M (turned o p))
        have HNL := Aside0.mk (numL_len (encL K M o))
        have HNS := Aside0.mk (numL_succ (encL K M o))
        have HN0 : Aside0 (numL (encL K M o) 0 = []) := ⟨by simp [numL]⟩
        have HCG : Aside0 (chgL (encL K M o) (encL K M (turned o p)) K n = (numL (encL K M o) K).set n (⟨(n : Int), rdOf ByteArray.empty (encL K M (turned o p)) (n : Int)⟩ : S62)) := ⟨rfl⟩
        have HNG := Aside0.mk (numL_get (encL K M o) K)
        have HCL := Aside0.mk (chgL_len (encL K M o) (encL K M (turned o p)) K n)
        clear KX5 KY5
        generalize chgL (encL K M o) (encL K M (turned o p)) K n = ch at *
        generalize encL K M (turned o p) = Y at *
        generalize encL K M o = X at *
        clear hlk
        go_loopw [14, 86] (fun v i W => ∃ q : Nat, q ≤ K ∧ i = .int .i64 (q : Int) ∧ Aside0 (Kd.R k62 62 W w.heap.size (fun _ => True) v (numL X q)) ∧ Aside0 (Kd.R Kd.string 9 W w.heap.size (fun _ => True) (.slice Ax X.length cx) X) ∧ Aside0 (Kd.R Kd.string 9 W w.heap.size (fun _ => True) (.slice Ay Y.length cy) Y) ∧ Aside0 (Below w.heap.size w W)) (fun _ i _ => K - (intOf i).toNat)
        case atStart => exact ⟨0, by omega, rfl, ⟨by rw [HN0.out]; exact Kd.R_nil _ _ _ _ _⟩, KX6, KY6, B5⟩
        case round =>
          obtain ⟨q, hq, rfl, HV, HX, HY, HB6⟩ := hrel
          clear KX6 KY6 B5
          generalize u14 = v at *
          by_cases hqk : q < K
          · obtain ⟨adx, hax, cx0⟩ := Kd.at_string (Kd.R_reads' HX.out).2.2 (q : Int) (by omega) (by rw [HXL.out]; omega)
            subst hax
            rw [Int.toNat_natCast] at cx0
            have dq : decide ((q : Int) < (K : Int)) = true := decide_eq_true (by omega)
            have hqx : q < K + M := by omega
            have HSU := Aside0.mk (HNS.out q)
            have HLQ := Aside0.mk (HNL.out q)
            generalize rdOf ByteArray.empty X (q : Int) = sx at *
            go_wp2_with (first | ((with_reducible refine gate_builtin (b := .append) (xs := #[.tmp 89, .tmp 96]) rfl ?_); at_builtin; refine Kd.R_append k62 (w0 := w) w.heap.size rfl (.tmp 89) (.tmp 96) 47 62 (.agg #[(.int .i64 0), (.string ⟨#[]⟩)]) 24 rfl Tryd.underlying47 info62 rfl (by decide) (by omega) v (numL X q) (⟨(q : Int), sx⟩ : S62) [.int .i64 (q : Int), .string sx] (fun _ => True) (fun _ => False) rfl rfl (k62_mkM _ _ _ (⟨(q : Int), sx⟩ : S62)) (fun _ hk => hk.elim) (fun _ _ => trivial) HV.out HB6.out HB6.out.size (by rw [HLQ.out]; omega) ?_; intro v1 w6 ho hb hg hat; have HX6 := Aside0.mk (Kd.R_over' HX.out (Kd.R_typed HV.out) (by decide) hg); have HY6 := Aside0.mk (Kd.R_over' HY.out (Kd.R_typed HV.out) (by decide) hg); have HV6 := Aside0.mk ho; have HB7 := Aside0.mk hb; clear ho hb hg hat))
            go_roundw
            case rel => exact ⟨q + 1, by omega, by go_num, ⟨by rw [HSU.out]; exact HV6.out⟩, HX6, HY6, HB7⟩
            case measure => simp [intOf]; omega
          · obtain rfl : q = K := by omega
            have hlK : (numL X q).length = q := HNL.out q
            obtain ⟨g, cg, hvg, hgg, _, _⟩ := Kd.R_form HV.out (by omega)
            rw [hlK] at hvg
            subst hvg
            obtain ⟨ady, hay, cy0⟩ := Kd.at_string (Kd.R_reads' HY.out).2.2 (n : Int) (by omega) (by rw [HYL.out]; omega)
            subst hay
            rw [Int.toNat_natCast] at cy0
            have hnl : n < (numL X q).length := by omega
            have hgn := HNG.out n hnl
            have hput := shards_put HV.out n hnl (rdOf ByteArray.empty Y (n : Int))
            rw [hgn] at hput
            simp only at hput
            rw [← HCG.out, hlK] at hput
            obtain ⟨p1, p2, _, _⟩ := hput
            have HPUT : Aside0 (∀ W : World, W.heap = wr.heap → Kd.C k62 (W.setCell ⟨g, n * 2 + 1, none⟩ (.string (rdOf ByteArray.empty Y (n : Int)))) (some ⟨g, 0, none⟩) ch.length ch) := ⟨fun W hW => by
              have hV : Kd.R k62 62 W w.heap.size (fun _ => True) (.slice (some ⟨g, 0, none⟩) q cg) (numL X q) := Kd.R_step HV.out (fun k _ _ => by rw [hW])
              have h := (shards_put hV n hnl (rdOf ByteArray.empty Y (n : Int))).2.2.2
              rw [hgn] at h
              simp only at h
              rw [← HCG.out] at h
              rw [HCL.out]
              rwa [hlK] at h⟩
            have hcg : ch.length ≤ cg := by
              have := (Kd.R_reads' HV.out).2.1
              rw [HCL.out]
              omega
            generalize rdOf ByteArray.empty Y (n : Int) = sy at *
            have hnY : n < q + M := by omega
            have dq : decide ((q : Int) < (q : Int)) = false := by simp
            have HGG := Aside0.mk hgg
            clear hgn hlK
            go_wp2_with fail
            refine (HA4.out _).mono ?_
            rintro e w7 ⟨rfl, ⟨nd2, rfl⟩⟩
            have HPX := Aside0.mk (HPUT.out (wr.drewN nd2) rfl)
            have HB8 := Aside0.mk (pw_below_drewN HB6.out nd2)
            go_wp2_with fail
            have HB9 : Aside0 (Below w.heap.size w ((wr.drewN nd2).setCell ⟨g, n * 2 + 1, none⟩ (.string sy))) := ⟨HB8.out.setCell HGG.out _⟩
            generalize (wr.drewN nd2).setCell ⟨g, n * 2 + 1, none⟩ (.string sy) = w8 at *
            have HCQ : Aside0 (ch.length = q) := HCL
            clear HPUT HB8 p1 p2 cy0 HX HY HV HB6
            go_loopw [112] (fun v W => ∃ i : Nat, i ≤ q ∧ v = .int .i64 (i : Int) ∧ Aside0 (Below w8.heap.size w8 W)) (fun v _ => q - (intOf v).toNat)
            case atStart => exact ⟨0, by omega, rfl, ⟨Below.refl _ _⟩⟩
            case round =>
              obtain ⟨i, hi, rfl, HB10⟩ := hrel
              have HC10 := Aside0.mk (Kd.C_below HPX.out HB10.out)
              have HBW : Aside0 (Below w.heap.size w wr) := ⟨HB9.out.trans (HB10.out.mono HB9.out.size)⟩
              by_cases hiq : i < q
              · have hil : i < ch.length := by rw [HCQ.out]; exact hiq
                obtain ⟨ad, hA, z0, z1⟩ := at_T62 HC10.out (i : Int) (by omega) (by omega)
                rw [rdT_nat ch i hil, Int.toNat_natCast] at z0 z1
                obtain rfl : (⟨g, 0, none⟩ : Addr) = ad := by injection hA
                have HON := Aside0.mk (HO1.out i ch[i] (List.getElem?_eq_getElem hil))
                have dq2 : decide ((i : Int) < (q : Int)) = true := decide_eq_true (by omega)
                have e1 : ∀ j : Nat, (⟨g, 0, none⟩ : Addr).add j = ⟨g, j, none⟩ := fun j => by unfold Addr.add; split <;> simp_all
                rw [e1] at z0 z1
                clear e1 hA
                generalize ch[i] = sh at *
                obtain ⟨x, s⟩ := sh
                simp only at z0 z1 HON
                go_wp2_with (first | ((with_reducible refine gate_dst (N := 18) rfl ?_); refine box_event ?hg (N := 18) ?hd (cs := #[.int .i64 0, .string (⟨#[]⟩ : ByteArray)]) (t := 62) ?hr ?_; (case hd => rfl); (case hg => rfl); (case hr => first | (go_simp; done) | (go_simp; rfl)); intro gb hgb w3 hbox hb3; have HBX := Aside0.mk hbox; have HB3 := Aside0.mk hb3; have HGE : Aside0 (wr.heap.size ≤ gb) := ⟨by rw [hgb]; exact Nat.le_refl _⟩; clear hbox hb3 hgb; have y0 : w3.cell? ⟨gb, 0, none⟩ = some (.int .i64 0) := (blk_cell HBX.out 0).trans rfl; have y1 : w3.cell? ⟨gb, 1, none⟩ = some (.string (⟨#[]⟩ : ByteArray)) := (blk_cell HBX.out 1).trans rfl; have f0 := blk_frozen HBX.out 0; have f1 := blk_frozen HBX.out 1))
                have BX2 : Aside0 (((w3.setCell ⟨gb, 0, none⟩ (.int .i64 x)).setCell ⟨gb, 1, none⟩ (.string s)).heap[gb]? = some (.cells #[.int .i64 x, .string s] 62 (0, 0))) := ⟨blk_put (blk_put HBX.out 0 (.int .i64 x) rfl) 1 (.string s) rfl⟩
                have BB : Aside0 (Below wr.heap.size wr ((w3.setCell ⟨gb, 0, none⟩ (.int .i64 x)).setCell ⟨gb, 1, none⟩ (.string s))) := ⟨(HB3.out.setCell HGE.out _).setCell HGE.out _⟩
                generalize (w3.setCell ⟨gb, 0, none⟩ (.int .i64 x)).setCell ⟨gb, 1, none⟩ (.string s) = w4 at *
                have hc4 := Kd.C_below HC10.out BB.out
                have hcall := HON.out w4 _ _ hc4 hcg
                rw [HCQ.out] at hcall
                have HBQ : Aside0 (Below w8.heap.size w8 w4) := ⟨HB10.out.trans (BB.out.mono HB10.out.size)⟩
                clear y0 y1 f0 f1 hc4
                refine hcall.mono ?_
                rintro e w9 ⟨rfl, hb9⟩
                have BX9 := Aside0.mk (blk_below BX2.out hb9)
                have s1 := blk_cell BX9.out 1
                have hne : (s.toList != s.toList) = false := by simp
                have HBF : Aside0 (Below w8.heap.size w8 w9) := ⟨HBQ.out.trans (hb9.mono HBQ.out.size)⟩
                clear hb9 hcall
                go_wp2_with fail
                go_roundw
                case rel => exact ⟨i + 1, by omega, by go_num, HBF⟩
                case measure => simp [intOf]; omega
              · obtain rfl : i = q := by omega
                have dq2 : decide ((i : Int) < (i : Int)) = false := by simp
                go_wp2
                go_ret
                exact ⟨rfl, HBW.out⟩
theorem changes_walk (w : World) (x0 : Int × Int) (g0 : (Lit.int .i64 x0.1).wf = true ∧ (Lit.int .i64 x0.2).wf = true) (o : ByteArray) (g1 : o.size ≤ 140737488351232) (a : Int) (g2 : (Lit.int .i64 a).wf = true) :
    Calls Tryd.prog 13 #[.agg #[.int .i64 x0.1, .int .i64 x0.2], .string o, .int .i64 a] w fun e w' => e = .returned (.bool true) ∧ Below w.heap.size w w' := changes_main w x0 g0 o g1 a g2
end Go.Proofs.YtegmmefijihdeaaDoor.PS
